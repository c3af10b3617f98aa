/-
  Walks: the reference of networks.
-/
import Derived.Test.YtjfickfgpkejpaaSM
import Derived.Test.YtjfickfgpkejpaaXRef
set_option linter.unusedSimpArgs false
set_option linter.unusedVariables false
namespace Go.Proofs.Ytjfickfgpkejpaa
open Go Go.X

set_option maxRecDepth 10000 in
theorem rpattern_spec (h : Heap) (n : Nat) (p : Nat) (hp1 : n ≤ 10) (hp2 : p < 1024) : Fx Try.prog 59 [.int .i64 ((n : Nat) : Int), .int .i64 ((p : Nat) : Int)] h (fun v h' => ∃ (s : Value), v = s ∧ OwE encI h' h.size 2 s (bitsV n p) ∧ Ext h.size h h') := by
  refine fx_intro (n := 21) [(0, .int .i64 ((n : Nat) : Int)), (1, .int .i64 ((p : Nat) : Int))] Try.func59 rfl rfl (by simp) ⟨rfl, rfl, trivial⟩ fun g0 => ?_
  refine wi_seq <| wi_reg rfl <| lx_assign (.slice none 0 0) rfl rfl <| lx_nil <| wi_seq <| wi_reg rfl <| lx_assign (.slice none 0 0) rfl rfl <| lx_nil <| wi_seq <| wi_seq <| wi_reg rfl <| lx_assign (.int .i64 0) rfl rfl <| lx_nil <| wi_block <| ?_
  refine wi_loop (σ := Nat × Value × (List Int)) (rngB 5 20 []) (fun (ss : Nat × Value × (List Int)) => [(6, .int .i64 ((ss.1 : Nat) : Int)), (5, ss.2.1)]) (fun (ss : Nat × Value × (List Int)) (hh : Heap) => OwE encI hh h.size 2 ss.2.1 ss.2.2 ∧ Ext h.size h hh ∧ (ss.1 ≤ n) ∧ (ss.2.2 = bitsV ss.1 p)) (fun (ss : Nat × Value × (List Int)) => n - ss.1) (0, .slice none 0 0, []) ⟨rfl, rfl, trivial⟩ ⟨?_, (Ext.refl _ _), ?_, ?_⟩ ?_
  · first | exact (owE_nil encI _ h.size 2) | (simpa using (owE_nil encI _ h.size 2))
  · try dsimp only
    omega
  · try dsimp only
    first | done | rfl
  rintro g1 ⟨i, v, ys⟩ hh1 ⟨ho1, hx0_1, hi, hys⟩ IH1
  dsimp only at *
  have hyl : ys.length = i := by rw [hys]; exact bitsV_length _ _
  refine wi_seq <| wi_seq <| wi_reg rfl <| lx_move (.int .i64 ((i : Nat) : Int)) rfl rfl <| lx_move (.int .i64 ((n : Nat) : Int)) rfl rfl <| lx_lssS rfl rfl rfl (fun c1 => ?_) (fun c1 => ?_)
  · refine lx_nil <| wi_true rfl <| wi_skip <| wi_seq <| wi_block <| wi_reg rfl <| ?_
    have hpd := Nat.div_le_self p (2 ^ i)
    refine lx_move (v) rfl rfl <| lx_move (.int .i64 ((p : Nat) : Int)) rfl rfl <| lx_move (.int .i64 ((i : Nat) : Int)) rfl rfl <| lx_conv ((i : Nat) : Int) rfl Try.underlying3 Try.underlying26 rfl (wrap_u64 (by omega) (by omega)) <| lx_shr (m := p) (n := i) rfl rfl rfl (by show _ ≤ 64; omega) <| lx_rem (m := p / 2 ^ i) (n := 2) rfl rfl rfl (by omega) <| lx_appendL (E := encI) (B := h.size) [(((p / 2 ^ i) % 2 : Nat) : Int)] [.int .i64 (((p / 2 ^ i) % 2 : Nat) : Int)] rfl rfl (fun _ => rfl) rfl eT29 rfl rfl rfl rfl ho1 (fun _ => rfl) (by show ys.length + 1 ≤ _; omega) (by show (ys.length + 1) * 8 ≤ _; omega) hx0_1.size (fun _ _ => trivial) fun u1 v1 h1 ho2 hc1 hg1 => ?_
    have hx0_2 := hx0_1.trans (ho1.ext hc1 hx0_1.size)
    refine lx_assign (v1) rfl rfl <| lx_nil <| wi_inBlock <| wi_reg rfl <| lx_move (.int .i64 ((i : Nat) : Int)) rfl rfl <| lx_add (((i + 1 : Nat) : Int)) rfl rfl rfl (by omega) (by omega) (by omega) <| lx_assign (.int .i64 ((i + 1 : Nat) : Int)) rfl rfl <| lx_nil <| ?_
    -- L0.1
    refine IH1 _ _ (i + 1, v1, ys ++ [(((p / 2 ^ i) % 2 : Nat) : Int)]) (agree_ups rfl agree_self) ⟨rfl, rfl, trivial⟩ ⟨?_, hx0_2, ?_, ?_⟩ ?_
    · first | exact ho2 | (simpa using ho2)
    · try dsimp only
      omega
    · try dsimp only
      rw [bitsV_succ, hys]
    · first | omega | (dsimp only; omega)
  · refine lx_nil <| wi_false rfl <| wi_exit rfl <| wi_seq <| wi_reg rfl <| lx_move (v) rfl rfl <| lx_assign (v) rfl rfl <| lx_nil <| ?_
    -- R1
    refine wi_ret ⟨v, (res_one rfl rfl), ⟨v, rfl, ?_, hx0_1⟩⟩
    · rw [show ys = bitsV n p from by rw [hys, show i = n from by omega]] at ho1; exact ho1

set_option maxRecDepth 10000 in
theorem rnumber_spec (h : Heap) (vl : Value) (xs : List Int) (hr_vl : RdE encI h vl xs) (hp1 : xs.length ≤ 10) (hp2 : ∀ i, i < xs.length → 0 ≤ gt xs i ∧ gt xs i ≤ 1) : Fx Try.prog 60 [vl] h (fun v h' => v = .int .i64 ((numB xs xs.length : Nat) : Int) ∧ h = h') := by
  refine fx_intro (n := 21) [(0, vl)] Try.func60 rfl rfl (by simp) ⟨rfl, trivial⟩ fun g0 => ?_
  refine wi_seq <| wi_reg rfl <| lx_assign (.int .i64 0) rfl rfl <| lx_nil <| wi_seq <| wi_reg rfl <| lx_assign (.int .i64 0) rfl rfl <| lx_nil <| wi_seq <| wi_seq <| wi_reg rfl <| lx_assign (.int .i64 0) rfl rfl <| lx_nil <| wi_block <| ?_
  refine wi_loop (σ := Nat × Nat) (rngB 3 20 []) (fun (ss : Nat × Nat) => [(4, .int .i64 ((ss.1 : Nat) : Int)), (3, .int .i64 ((ss.2 : Nat) : Int))]) (fun (ss : Nat × Nat) (hh : Heap) => h = hh ∧ (ss.1 ≤ xs.length) ∧ (ss.2 = numB xs ss.1)) (fun (ss : Nat × Nat) => xs.length - ss.1) (0, 0) ⟨rfl, rfl, trivial⟩ ⟨rfl, ?_, ?_⟩ ?_
  · try dsimp only
    omega
  · try dsimp only
    first | done | rfl
  rintro g1 ⟨i, p⟩ hh1 ⟨rfl, hi, hp⟩ IH1
  dsimp only at *
  refine wi_seq <| wi_seq <| wi_reg rfl <| lx_move (.int .i64 ((i : Nat) : Int)) rfl rfl <| lx_move (vl) rfl rfl <| lx_len rfl Try.underlying29 hr_vl rfl <| lx_lssS rfl rfl rfl (fun c1 => ?_) (fun c1 => ?_)
  · refine lx_nil <| wi_true rfl <| wi_skip <| wi_seq <| wi_block <| wi_reg rfl <| ?_
    have hbi := hp2 i (by omega)
    have hpi := pow10 (show i ≤ 10 by omega)
    have h2i := Nat.two_pow_pos i
    have hgn : (gt xs i).toNat ≤ 1 := by omega
    have hmul : (gt xs i).toNat * 2 ^ i ≤ 1 * 2 ^ i := Nat.mul_le_mul_right _ hgn
    have hnl := numB_lt xs i
    rw [← hp] at hnl
    refine lx_move (.int .i64 ((p : Nat) : Int)) rfl rfl <| lx_move (vl) rfl rfl <| lx_move (.int .i64 ((i : Nat) : Int)) rfl rfl <| lx_ix (i := i) rfl eT29 hr_vl rfl rfl (by first | omega | (simp only [List.length_set, List.length_append, List.length_cons, List.length_nil, List.length_replicate, List.length_take, swp_length, exch_length]; omega)) <| lx_ld (i := i) (j := 0) (.int .i64 (((gt xs i).toNat : Nat) : Int)) rfl rfl fl2 hr_vl (by first | omega | (simp only [List.length_set, List.length_append, List.length_cons, List.length_nil, List.length_replicate, List.length_take, swp_length, exch_length]; omega)) (by show some (Value.int .i64 (gt xs i)) = _; rw [show (gt xs i) = (((gt xs i).toNat : Nat) : Int) from by omega]; rfl) rfl <| lx_move (.int .i64 ((i : Nat) : Int)) rfl rfl <| lx_conv ((i : Nat) : Int) rfl Try.underlying3 Try.underlying26 rfl (wrap_u64 (by omega) (by omega)) <| lx_shl (m := (gt xs i).toNat) (n := i) rfl rfl rfl (by show _ ≤ 64; omega) (wrap_i64 (by omega) (by omega)) <| lx_add (((p + (((gt xs i).toNat) * 2 ^ i) : Nat) : Int)) rfl rfl rfl (by omega) (by omega) (by omega) <| lx_assign (.int .i64 ((p + (((gt xs i).toNat) * 2 ^ i) : Nat) : Int)) rfl rfl <| lx_nil <| wi_inBlock <| wi_reg rfl <| lx_move (.int .i64 ((i : Nat) : Int)) rfl rfl <| lx_add (((i + 1 : Nat) : Int)) rfl rfl rfl (by omega) (by omega) (by omega) <| lx_assign (.int .i64 ((i + 1 : Nat) : Int)) rfl rfl <| lx_nil <| ?_
    -- L0.1
    refine IH1 _ _ (i + 1, p + (((gt xs i).toNat) * 2 ^ i)) (agree_ups rfl agree_self) ⟨rfl, rfl, trivial⟩ ⟨rfl, ?_, ?_⟩ ?_
    · try dsimp only
      omega
    · try dsimp only
      rw [numB_succ hbi, hp]
    · first | omega | (dsimp only; omega)
  · refine lx_nil <| wi_false rfl <| wi_exit rfl <| wi_seq <| wi_reg rfl <| lx_move (.int .i64 ((p : Nat) : Int)) rfl rfl <| lx_assign (.int .i64 ((p : Nat) : Int)) rfl rfl <| lx_nil <| ?_
    -- R1
    refine wi_ret ⟨.int .i64 ((p : Nat) : Int), (res_one rfl rfl), ⟨?_, rfl⟩⟩
    · rw [hp, show i = xs.length from by omega]

set_option maxRecDepth 10000 in
theorem rrun_spec (h : Heap) (vl : Value) (ls : List (Int × Int)) (vv : Value) (xs : List Int) (hr_vl : RdE encP h vl ls) (hr_vv : RdE encI h vv xs) (hp1 : NetLt xs.length ls) (hp2 : ls.length ≤ 1000000) (hp3 : xs.length ≤ 1000000) : Fx Try.prog 40 [vl, vv] h (fun v h' => ∃ (s : Value), v = s ∧ OwE encI h' h.size 2 s (runV ls xs) ∧ Ext h.size h h') := by
  refine fx_intro (n := 52) [(0, vl), (1, vv)] Try.func40 rfl rfl (by simp) ⟨rfl, rfl, trivial⟩ fun g0 => ?_
  refine wi_seq <| wi_reg rfl <| lx_assign (.slice none 0 0) rfl rfl <| lx_nil <| wi_seq <| wi_reg rfl <| lx_assign (.slice none 0 0) rfl rfl <| lx_nil <| wi_seq <| wi_reg rfl <| lx_move (.slice none 0 0) rfl rfl <| lx_move (vv) rfl rfl <| lx_append (E := encI) (B := h.size) (xs := []) (ys := xs) rfl rfl eT29 (owE_nil encI _ h.size 2) hr_vv rfl rfl (by first | omega | (simp only [List.length_nil, List.length_take]; omega)) (by first | omega | (simp only [List.length_nil, List.length_take]; omega)) (Nat.le_refl h.size) (fun _ _ => trivial) fun v1 h1 ho1 hc1 hg1 => ?_
  have hx0_1 := (owE_nil encI _ h.size 2).ext hc1 (Nat.le_refl h.size)
  rw [List.nil_append] at ho1
  refine lx_assign (v1) rfl rfl <| lx_nil <| wi_seq <| wi_seq <| wi_reg rfl <| lx_assign (.int .i64 0) rfl rfl <| lx_nil <| wi_block <| ?_
  refine wi_loop (σ := Nat × (List Int)) (rngB 12 51 [6, 7, 8]) (fun (ss : Nat × (List Int)) => [(6, .int .i64 ((ss.1 : Nat) : Int))]) (fun (ss : Nat × (List Int)) (hh : Heap) => OwE encI hh h.size 2 v1 ss.2 ∧ Ext h.size h hh ∧ (ss.1 ≤ ls.length) ∧ (ss.2 = runV (ls.take ss.1) xs)) (fun (ss : Nat × (List Int)) => ls.length - ss.1) (0, xs) ⟨rfl, trivial⟩ ⟨?_, hx0_1, ?_, ?_⟩ ?_
  · first | exact ho1 | (simpa using ho1)
  · try dsimp only
    omega
  · try dsimp only
    simp [runV]
  rintro g1 ⟨i, ys⟩ hh1 ⟨ho2, hx0_2, hi, hys⟩ IH1
  dsimp only at *
  have hyl : ys.length = xs.length := by rw [hys, runV_length]
  refine wi_seq <| wi_seq <| wi_reg rfl <| lx_move (.int .i64 ((i : Nat) : Int)) rfl rfl <| lx_move (vl) rfl rfl <| lx_len rfl Try.underlying38 hr_vl rfl <| lx_lssS rfl rfl rfl (fun c1 => ?_) (fun c1 => ?_)
  · refine lx_nil <| wi_true rfl <| wi_skip <| wi_seq <| wi_block <| wi_seq <| wi_draw mo rfl (by decide +kernel) <| ?_
    obtain ⟨a, b, hgc, hab, hb⟩ := netLt_at hp1 (show i < ls.length by omega)
    refine lx_move (vl) rfl rfl <| lx_move (.int .i64 ((i : Nat) : Int)) rfl rfl <| lx_ix (i := i) rfl eT38 hr_vl rfl rfl (by first | omega | (simp only [List.length_set, List.length_append, List.length_cons, List.length_nil, List.length_replicate, List.length_take, swp_length, exch_length]; omega)) <| lx_ixP (i := i) (c := 0) rfl Try.underlying60 Try.sizeOf3 hr_vl (by first | omega | (simp only [List.length_set, List.length_append, List.length_cons, List.length_nil, List.length_replicate, List.length_take, swp_length, exch_length]; omega)) rfl rfl (by decide) <| lx_ld (i := i) (j := 0) (.int .i64 ((a : Nat) : Int)) rfl rfl fl3 (hr_vl.extS hx0_2) (by first | omega | (simp only [List.length_set, List.length_append, List.length_cons, List.length_nil, List.length_replicate, List.length_take, swp_length, exch_length]; omega)) (by rw [hgc]; rfl) rfl <| lx_move (vl) rfl rfl <| lx_move (.int .i64 ((i : Nat) : Int)) rfl rfl <| lx_ix (i := i) rfl eT38 hr_vl rfl rfl (by first | omega | (simp only [List.length_set, List.length_append, List.length_cons, List.length_nil, List.length_replicate, List.length_take, swp_length, exch_length]; omega)) <| lx_ixP (i := i) (c := 1) rfl Try.underlying60 Try.sizeOf3 hr_vl (by first | omega | (simp only [List.length_set, List.length_append, List.length_cons, List.length_nil, List.length_replicate, List.length_take, swp_length, exch_length]; omega)) rfl rfl (by decide) <| lx_ld (i := i) (j := 1) (.int .i64 ((b : Nat) : Int)) rfl rfl fl3 (hr_vl.extS hx0_2) (by first | omega | (simp only [List.length_set, List.length_append, List.length_cons, List.length_nil, List.length_replicate, List.length_take, swp_length, exch_length]; omega)) (by rw [hgc]; rfl) rfl <| lx_assign (.int .i64 ((a : Nat) : Int)) rfl rfl <| lx_assign (.int .i64 ((b : Nat) : Int)) rfl rfl <| lx_nil <| wi_seq <| wi_draw mo rfl (by decide +kernel) <| lx_move (v1) rfl rfl <| lx_move (.int .i64 ((a : Nat) : Int)) rfl rfl <| lx_ix (i := a) rfl eT29 ho2.rd rfl rfl (by first | omega | (simp only [List.length_set, List.length_append, List.length_cons, List.length_nil, List.length_replicate, List.length_take, swp_length, exch_length]; omega)) <| lx_ld (i := a) (j := 0) (.int .i64 (gt ys a)) rfl rfl fl2 ho2.rd (by first | omega | (simp only [List.length_set, List.length_append, List.length_cons, List.length_nil, List.length_replicate, List.length_take, swp_length, exch_length]; omega)) rfl rfl <| lx_move (v1) rfl rfl <| lx_move (.int .i64 ((b : Nat) : Int)) rfl rfl <| lx_ix (i := b) rfl eT29 ho2.rd rfl rfl (by first | omega | (simp only [List.length_set, List.length_append, List.length_cons, List.length_nil, List.length_replicate, List.length_take, swp_length, exch_length]; omega)) <| lx_ld (i := b) (j := 0) (.int .i64 (gt ys b)) rfl rfl fl2 ho2.rd (by first | omega | (simp only [List.length_set, List.length_append, List.length_cons, List.length_nil, List.length_replicate, List.length_take, swp_length, exch_length]; omega)) rfl rfl <| lx_gtrS rfl rfl rfl (fun c2 => ?_) (fun c2 => ?_)
    · refine lx_nil <| wi_true rfl <| wi_draw mo rfl (by decide +kernel) <| lx_move (v1) rfl rfl <| lx_move (.int .i64 ((a : Nat) : Int)) rfl rfl <| lx_move (v1) rfl rfl <| lx_move (.int .i64 ((b : Nat) : Int)) rfl rfl <| lx_move (v1) rfl rfl <| lx_move (.int .i64 ((b : Nat) : Int)) rfl rfl <| lx_ix (i := b) rfl eT29 ho2.rd rfl rfl (by first | omega | (simp only [List.length_set, List.length_append, List.length_cons, List.length_nil, List.length_replicate, List.length_take, swp_length, exch_length]; omega)) <| lx_ld (i := b) (j := 0) (.int .i64 (gt ys b)) rfl rfl fl2 ho2.rd (by first | omega | (simp only [List.length_set, List.length_append, List.length_cons, List.length_nil, List.length_replicate, List.length_take, swp_length, exch_length]; omega)) rfl rfl <| lx_move (v1) rfl rfl <| lx_move (.int .i64 ((a : Nat) : Int)) rfl rfl <| lx_ix (i := a) rfl eT29 ho2.rd rfl rfl (by first | omega | (simp only [List.length_set, List.length_append, List.length_cons, List.length_nil, List.length_replicate, List.length_take, swp_length, exch_length]; omega)) <| lx_ld (i := a) (j := 0) (.int .i64 (gt ys a)) rfl rfl fl2 ho2.rd (by first | omega | (simp only [List.length_set, List.length_append, List.length_cons, List.length_nil, List.length_replicate, List.length_take, swp_length, exch_length]; omega)) rfl rfl <| lx_ix (i := a) rfl eT29 ho2.rd rfl rfl (by first | omega | (simp only [List.length_set, List.length_append, List.length_cons, List.length_nil, List.length_replicate, List.length_take, swp_length, exch_length]; omega)) <| lx_st (i := a) (gt ys b) rfl rfl Try.sizeOf2 ho2 (by first | omega | (simp only [List.length_set, List.length_append, List.length_cons, List.length_nil, List.length_replicate, List.length_take, swp_length, exch_length]; omega)) rfl rfl (fun _ _ _ _ _ => trivial) fun h2 ho3 hc2 hsz1 => ?_
      have hx0_3 := hx0_2.trans (ho2.ext hc2 hx0_2.size)
      refine lx_ix (i := b) rfl eT29 ho3.rd rfl rfl (by first | omega | (simp only [List.length_set, List.length_append, List.length_cons, List.length_nil, List.length_replicate, List.length_take, swp_length, exch_length]; omega)) <| lx_st (i := b) (gt ys a) rfl rfl Try.sizeOf2 ho3 (by first | omega | (simp only [List.length_set, List.length_append, List.length_cons, List.length_nil, List.length_replicate, List.length_take, swp_length, exch_length]; omega)) rfl rfl (fun _ _ _ _ _ => trivial) fun h3 ho4 hc3 hsz2 => ?_
      have hx0_4 := hx0_3.trans (ho3.ext hc3 hx0_3.size)
      refine lx_nil <| wi_inBlock <| wi_reg rfl <| lx_move (.int .i64 ((i : Nat) : Int)) rfl rfl <| lx_add (((i + 1 : Nat) : Int)) rfl rfl rfl (by omega) (by omega) (by omega) <| lx_assign (.int .i64 ((i + 1 : Nat) : Int)) rfl rfl <| lx_nil <| ?_
      -- L0.1
      refine IH1 _ _ (i + 1, (ys.set a (gt ys b)).set b (gt ys a)) (agree_ups rfl agree_self) ⟨rfl, trivial⟩ ⟨?_, hx0_4, ?_, ?_⟩ ?_
      · first | exact ho4 | (simpa using ho4)
      · try dsimp only
        omega
      · try dsimp only
        exact runV_yes (by omega) hys hgc (by omega)
      · first | omega | (dsimp only; omega)
    · refine lx_nil <| wi_false rfl <| wi_skip <| wi_inBlock <| wi_reg rfl <| lx_move (.int .i64 ((i : Nat) : Int)) rfl rfl <| lx_add (((i + 1 : Nat) : Int)) rfl rfl rfl (by omega) (by omega) (by omega) <| lx_assign (.int .i64 ((i + 1 : Nat) : Int)) rfl rfl <| lx_nil <| ?_
      -- L0.2
      refine IH1 _ _ (i + 1, ys) (agree_ups rfl agree_self) ⟨rfl, trivial⟩ ⟨?_, hx0_2, ?_, ?_⟩ ?_
      · first | exact ho2 | (simpa using ho2)
      · try dsimp only
        omega
      · try dsimp only
        exact runV_no (by omega) hys hgc (by omega)
      · first | omega | (dsimp only; omega)
  · refine lx_nil <| wi_false rfl <| wi_exit rfl <| wi_seq <| wi_reg rfl <| lx_move (v1) rfl rfl <| lx_assign (v1) rfl rfl <| lx_nil <| ?_
    -- R1
    refine wi_ret ⟨v1, (res_one rfl rfl), ⟨v1, rfl, ?_, hx0_2⟩⟩
    · rw [runV_all (by omega) hys] at ho2; exact ho2

set_option maxRecDepth 10000 in
theorem rfails_spec (h : Heap) (n : Nat) (vl : Value) (ls : List (Int × Int)) (hr_vl : RdE encP h vl ls) (hp1 : n ≤ 10) (hp2 : ls.length ≤ 1000000) (hp3 : NetLt n ls) : Fx Try.prog 39 [.int .i64 ((n : Nat) : Int), vl] h (fun v h' => ∃ (p : Nat) (b : Bool), v = .tuple #[.int .i64 ((p : Nat) : Int), .bool b] ∧ (failsR n (colF ls n) p b) ∧ Ext h.size h h') := by
  have hpw := pow10 hp1
  refine fx_intro (n := 22) [(0, .int .i64 ((n : Nat) : Int)), (1, vl)] Try.func39 rfl rfl (by simp) ⟨rfl, rfl, trivial⟩ fun g0 => ?_
  refine wi_seq <| wi_reg rfl <| lx_assign (.int .i64 0) rfl rfl <| lx_assign (.bool false) rfl rfl <| lx_nil <| wi_seq <| wi_seq <| wi_reg rfl <| lx_assign (.int .i64 0) rfl rfl <| lx_nil <| wi_block <| ?_
  refine wi_loop (σ := Nat) (rngB 4 22 []) (fun (p : Nat) => [(6, .int .i64 ((p : Nat) : Int))]) (fun (p : Nat) (hh : Heap) => Ext h.size h hh ∧ (p ≤ 2 ^ n) ∧ (∀ q, q < p → badC n (colF ls n q) = false)) (fun (p : Nat) => 2 ^ n - p) 0 ⟨rfl, trivial⟩ ⟨(Ext.refl _ _), ?_, ?_⟩ ?_
  · try dsimp only
    exact Nat.zero_le _
  · try dsimp only
    intro q hq; omega
  rintro g1 p hh1 ⟨hx0_1, hp, he⟩ IH1
  refine wi_seq <| wi_seq <| wi_reg rfl <| lx_move (.int .i64 ((p : Nat) : Int)) rfl rfl <| lx_move (.int .i64 ((n : Nat) : Int)) rfl rfl <| lx_conv ((n : Nat) : Int) rfl Try.underlying3 Try.underlying26 rfl (wrap_u64 (by omega) (by omega)) <| lx_shl (m := 1) (n := n) rfl rfl rfl (by show _ ≤ 64; omega) (wrap_i64 (by omega) (by omega)) <| lx_lssS rfl rfl rfl (fun c1 => ?_) (fun c1 => ?_)
  · refine lx_nil <| wi_true rfl <| wi_skip <| wi_seq <| wi_block <| wi_seq <| wi_reg rfl <| lx_move (vl) rfl rfl <| lx_move (.int .i64 ((n : Nat) : Int)) rfl rfl <| lx_move (.int .i64 ((p : Nat) : Int)) rfl rfl <| lx_call [.int .i64 ((n : Nat) : Int), .int .i64 ((p : Nat) : Int)] rfl rfl Try.call59 rfl (rpattern_spec hh1 n p (by omega) (by omega)) (fun _ _ _ => trivial) ?_
    rintro v1 h1 ⟨_, rfl, ho1, hx1⟩
    have hx0_2 := hx0_1.trans2 hx1 hx0_1.size
    have ho2 := ho1.base hx0_1.size
    refine lx_call [vl, v1] rfl rfl Try.call40 rfl (rrun_spec h1 vl ls v1 (bitsV n p) (hr_vl.extS hx0_2) ho2.rd (by rw [bitsV_length]; exact hp3) (by first | omega | (rw [bitsV_length]; omega)) (by first | omega | (rw [bitsV_length]; omega))) (fun _ _ _ => trivial) ?_
    rintro v2 h2 ⟨_, rfl, ho3, hx2⟩
    have hx0_3 := hx0_2.trans2 hx2 hx0_2.size
    have ho4 := ho2.extS hx2
    have ho5 := ho3.base hx0_2.size
    refine lx_call [v2] rfl rfl Try.call19 rfl (inOrder_spec h2 v2 (runV ls (bitsV n p)) ho5.rd (by rw [runV_length, bitsV_length]; omega)) (fun _ _ _ => trivial) ?_
    rintro _ h3 ⟨rfl, rfl⟩
    refine lx_not rfl rfl <| lx_nil <| wi_condS (t := !(inOrd (runV ls (bitsV n p)))) rfl (fun c2 => ?_) (fun c2 => ?_)
    · refine wi_seq <| wi_reg rfl <| ?_
      have hio := inOrd_bits hp3.ok (show p < 2 ^ n by omega)
      refine lx_move (.int .i64 ((p : Nat) : Int)) rfl rfl <| lx_assign (.int .i64 ((p : Nat) : Int)) rfl rfl <| lx_assign (.bool true) rfl rfl <| lx_nil <| ?_
      -- R1
      refine wi_ret ⟨.tuple #[.int .i64 ((p : Nat) : Int), .bool true], (res_two rfl rfl rfl), ⟨p, true, rfl, ?_, hx0_3⟩⟩
      · refine .inl ⟨rfl, by omega, ?_, he⟩
        have hx9 : (!inOrd (runV ls (bitsV n p))) = true := by assumption
        rw [hio] at hx9
        simpa using hx9
    · refine wi_skip <| wi_inBlock <| wi_reg rfl <| lx_move (.int .i64 ((p : Nat) : Int)) rfl rfl <| lx_add (((p + 1 : Nat) : Int)) rfl rfl rfl (by omega) (by omega) (by omega) <| lx_assign (.int .i64 ((p + 1 : Nat) : Int)) rfl rfl <| lx_nil <| ?_
      have hio := inOrd_bits hp3.ok (show p < 2 ^ n by omega)
      -- L0.1
      refine IH1 _ _ (p + 1) (agree_ups rfl agree_self) ⟨rfl, trivial⟩ ⟨hx0_3, ?_, ?_⟩ ?_
      · try dsimp only
        omega
      · try dsimp only
        intro q hq
        by_cases e : q = p
        · subst e
          have hx9 : (!inOrd (runV ls (bitsV n q))) = false := by assumption
          rw [hio] at hx9
          simpa using hx9
        · exact he q (by omega)
      · first | omega | (dsimp only; omega)
  · refine lx_nil <| wi_false rfl <| wi_exit rfl <| wi_seq <| wi_reg rfl <| lx_assign (.int .i64 0) rfl rfl <| lx_assign (.bool false) rfl rfl <| lx_nil <| ?_
    -- R2
    refine wi_ret ⟨.tuple #[.int .i64 0, .bool false], (res_two rfl rfl rfl), ⟨0, false, ?_, ?_, hx0_1⟩⟩
    · first | rfl | (simp; done) | (simp; omega)
    · exact .inr ⟨rfl, rfl, fun q hq => he q (by omega)⟩

set_option maxRecDepth 10000 in
theorem routputs_spec (h : Heap) (n : Nat) (vl : Value) (ls : List (Int × Int)) (hr_vl : RdE encP h vl ls) (hp1 : n ≤ 10) (hp2 : ls.length ≤ 1000000) (hp3 : NetLt n ls) : Fx Try.prog 41 [.int .i64 ((n : Nat) : Int), vl] h (fun v h' => ∃ (s : Value), v = s ∧ OwE encI h' h.size 3 s (outsF n ls) ∧ Ext h.size h h') := by
  have hpw := pow10 hp1
  refine fx_intro (n := 42) [(0, .int .i64 ((n : Nat) : Int)), (1, vl)] Try.func41 rfl rfl (by simp) ⟨rfl, rfl, trivial⟩ fun g0 => ?_
  refine wi_seq <| wi_reg rfl <| lx_assign (.slice none 0 0) rfl rfl <| lx_nil <| wi_seq <| wi_reg rfl <| lx_move (.int .i64 ((n : Nat) : Int)) rfl rfl <| lx_conv ((n : Nat) : Int) rfl Try.underlying3 Try.underlying26 rfl (wrap_u64 (by omega) (by omega)) <| lx_shl (m := 1) (n := n) rfl rfl rfl (by show _ ≤ 64; omega) (wrap_i64 (by omega) (by omega)) <| lx_make (E := encB) (n := 1 * 2 ^ n) (B := h.size) false rfl rfl Try.underlying74 (eZ74) rfl rfl (by omega) (by omega) (Nat.le_refl _) (fun _ _ => trivial) fun v1 h1 ho1 hx1 hvb1 => ?_
  have ho2 := ho1.base (Nat.le_refl h.size)
  refine lx_assign (v1) rfl rfl <| lx_nil <| wi_seq <| wi_seq <| wi_reg rfl <| lx_assign (.int .i64 0) rfl rfl <| lx_nil <| wi_block <| ?_
  refine wi_loop (σ := Nat × (List Bool)) (rngB 13 27 [6]) (fun (ss : Nat × (List Bool)) => [(6, .int .i64 ((ss.1 : Nat) : Int))]) (fun (ss : Nat × (List Bool)) (hh : Heap) => OwE encB hh h.size 4 v1 ss.2 ∧ Ext h.size h hh ∧ (ss.1 ≤ 2 ^ n) ∧ (ss.2.length = 2 ^ n) ∧ (∀ q, q < 2 ^ n → gt ss.2 q = outBk n ls ss.1 q)) (fun (ss : Nat × (List Bool)) => 2 ^ n - ss.1) (0, List.replicate (1 * 2 ^ n) false) ⟨rfl, trivial⟩ ⟨?_, hx1, ?_, ?_, ?_⟩ ?_
  · first | exact ho2 | (simpa using ho2)
  · try dsimp only
    exact Nat.zero_le _
  · try dsimp only
    simp
  · try dsimp only
    intro q hq; rw [gt_replicate (by omega)]; rfl
  rintro g1 ⟨p, us⟩ hh1 ⟨ho3, hx0_1, hp, hul, hu⟩ IH1
  dsimp only at *
  refine wi_seq <| wi_seq <| wi_reg rfl <| lx_move (.int .i64 ((p : Nat) : Int)) rfl rfl <| lx_move (v1) rfl rfl <| lx_len rfl Try.underlying74 ho3.rd rfl <| lx_lssS rfl rfl rfl (fun c1 => ?_) (fun c1 => ?_)
  · refine lx_nil <| wi_true rfl <| wi_skip <| wi_seq <| wi_block <| wi_reg rfl <| lx_move (v1) rfl rfl <| lx_move (vl) rfl rfl <| lx_move (.int .i64 ((n : Nat) : Int)) rfl rfl <| lx_move (.int .i64 ((p : Nat) : Int)) rfl rfl <| lx_call [.int .i64 ((n : Nat) : Int), .int .i64 ((p : Nat) : Int)] rfl rfl Try.call59 rfl (rpattern_spec hh1 n p (by omega) (by omega)) (fun _ _ _ => trivial) ?_
    rintro v2 h2 ⟨_, rfl, ho4, hx2⟩
    have hx0_2 := hx0_1.trans2 hx2 hx0_1.size
    have ho5 := ho3.extS hx2
    have ho6 := ho4.base hx0_1.size
    refine lx_call [vl, v2] rfl rfl Try.call40 rfl (rrun_spec h2 vl ls v2 (bitsV n p) (hr_vl.extS hx0_2) ho6.rd (by rw [bitsV_length]; exact hp3) (by first | omega | (rw [bitsV_length]; omega)) (by first | omega | (rw [bitsV_length]; omega))) (fun _ _ _ => trivial) ?_
    rintro v3 h3 ⟨_, rfl, ho7, hx3⟩
    have hx0_3 := hx0_2.trans2 hx3 hx0_2.size
    have ho8 := ho5.extS hx3
    have ho9 := ho6.extS hx3
    have ho10 := ho7.base hx0_2.size
    refine lx_call [v3] rfl rfl Try.call60 rfl (rnumber_spec h3 v3 (runV ls (bitsV n p)) ho10.rd (by rw [runV_length, bitsV_length]; omega) (bits_runV hp3)) (fun _ _ _ => trivial) ?_
    rintro _ h4 ⟨rfl, rfl⟩
    rw [num_run hp3 (show p < 2 ^ n by omega)]
    have hcl := colP_lt n ls p
    refine lx_ix (i := colP n ls p) rfl eT74 ho8.rd rfl rfl (by first | omega | (simp only [List.length_set, List.length_append, List.length_cons, List.length_nil, List.length_replicate, List.length_take, swp_length, exch_length]; omega)) <| lx_st (i := colP n ls p) true rfl rfl Try.sizeOf4 ho8 (by first | omega | (simp only [List.length_set, List.length_append, List.length_cons, List.length_nil, List.length_replicate, List.length_take, swp_length, exch_length]; omega)) rfl rfl (fun _ _ _ _ _ => trivial) fun h5 ho11 hc1 hsz1 => ?_
    have hx0_4 := hx0_3.trans (ho8.ext hc1 hx0_3.size)
    have ho12 := ho9.chg hc1 (Dj.symm (dj_new ho3 ho4))
    have ho13 := ho10.chg hc1 (Dj.symm (dj_new ho5 ho7))
    refine lx_nil <| wi_inBlock <| wi_reg rfl <| lx_move (.int .i64 ((p : Nat) : Int)) rfl rfl <| lx_add (((p + 1 : Nat) : Int)) rfl rfl rfl (by omega) (by omega) (by omega) <| lx_assign (.int .i64 ((p + 1 : Nat) : Int)) rfl rfl <| lx_nil <| ?_
    -- L0.1
    refine IH1 _ _ (p + 1, us.set (colP n ls p) true) (agree_ups rfl agree_self) ⟨rfl, trivial⟩ ⟨?_, hx0_4, ?_, ?_, ?_⟩ ?_
    · first | exact ho11 | (simpa using ho11)
    · try dsimp only
      omega
    · try dsimp only
      simpa using hul
    · try dsimp only
      exact seen_step hul hu
    · first | omega | (dsimp only; omega)
  · refine lx_nil <| wi_false rfl <| wi_exit rfl <| wi_seq <| wi_reg rfl <| lx_assign (.slice none 0 0) rfl rfl <| lx_nil <| wi_seq <| wi_seq <| wi_reg rfl <| lx_assign (.int .i64 0) rfl rfl <| lx_nil <| wi_block <| ?_
    refine wi_loop (σ := Nat × Value × (List Int)) (rngB 27 41 [7, 8]) (fun (ss : Nat × Value × (List Int)) => [(8, .int .i64 ((ss.1 : Nat) : Int)), (7, ss.2.1)]) (fun (ss : Nat × Value × (List Int)) (hh : Heap) => OwE encB hh h.size 4 v1 us ∧ OwE encI hh h.size 3 ss.2.1 ss.2.2 ∧ Ext h.size h hh ∧ Dj ss.2.1 v1 ∧ (ss.1 ≤ 2 ^ n) ∧ (ss.2.2 = filtF ss.1 (outB n ls))) (fun (ss : Nat × Value × (List Int)) => 2 ^ n - ss.1) (0, .slice none 0 0, []) ⟨rfl, rfl, trivial⟩ ⟨?_, ?_, hx0_1, (dj_nil_l _), ?_, ?_⟩ ?_
    · first | exact ho3 | (simpa using ho3)
    · first | exact (owE_nil encI _ h.size 3) | (simpa using (owE_nil encI _ h.size 3))
    · try dsimp only
      exact Nat.zero_le _
    · try dsimp only
      first | done | rfl
    rintro g2 ⟨q, vo, ys⟩ hh2 ⟨ho14, ho15, hx0_5, hdj1, hq, hys⟩ IH2
    dsimp only at *
    have hyl := filtF_length q (outB n ls)
    rw [← hys] at hyl
    refine wi_seq <| wi_seq <| wi_reg rfl <| lx_move (.int .i64 ((q : Nat) : Int)) rfl rfl <| lx_move (v1) rfl rfl <| lx_len rfl Try.underlying74 ho14.rd rfl <| lx_lssS rfl rfl rfl (fun c2 => ?_) (fun c2 => ?_)
    · refine lx_nil <| wi_true rfl <| wi_skip <| wi_seq <| wi_block <| wi_seq <| wi_reg rfl <| ?_
      have hgu := hu q (by omega)
      rw [show p = 2 ^ n from by omega] at hgu
      refine lx_move (v1) rfl rfl <| lx_move (.int .i64 ((q : Nat) : Int)) rfl rfl <| lx_ix (i := q) rfl eT74 ho14.rd rfl rfl (by first | omega | (simp only [List.length_set, List.length_append, List.length_cons, List.length_nil, List.length_replicate, List.length_take, swp_length, exch_length]; omega)) <| lx_ld (i := q) (j := 0) (.bool (gt us q)) rfl rfl fl4 ho14.rd (by first | omega | (simp only [List.length_set, List.length_append, List.length_cons, List.length_nil, List.length_replicate, List.length_take, swp_length, exch_length]; omega)) rfl rfl <| lx_nil <| wi_condS (t := gt us q) rfl (fun c3 => ?_) (fun c3 => ?_)
      · refine wi_reg rfl <| lx_move (vo) rfl rfl <| lx_move (.int .i64 ((q : Nat) : Int)) rfl rfl <| lx_appendL (E := encI) (B := h.size) [((q : Nat) : Int)] [.int .i64 ((q : Nat) : Int)] rfl rfl (fun _ => rfl) rfl eT35 rfl rfl rfl rfl ho15 (fun _ => rfl) (by show ys.length + 1 ≤ _; omega) (by show (ys.length + 1) * 8 ≤ _; omega) hx0_5.size (fun _ _ => trivial) fun u1 v4 h6 ho16 hc2 hg1 => ?_
        have hx0_6 := hx0_5.trans (ho15.ext hc2 hx0_5.size)
        have ho17 := ho14.chg hc2 (Dj.symm hdj1)
        refine lx_assign (v4) rfl rfl <| lx_nil <| wi_inBlock <| wi_reg rfl <| lx_move (.int .i64 ((q : Nat) : Int)) rfl rfl <| lx_add (((q + 1 : Nat) : Int)) rfl rfl rfl (by omega) (by omega) (by omega) <| lx_assign (.int .i64 ((q + 1 : Nat) : Int)) rfl rfl <| lx_nil <| ?_
        -- L2.1
        refine IH2 _ _ (q + 1, v4, ys ++ [((q : Nat) : Int)]) (agree_ups rfl agree_self) ⟨rfl, rfl, trivial⟩ ⟨?_, ?_, hx0_6, (Dj.symm (dj_app (Dj.symm hdj1) ho14 hg1)), ?_, ?_⟩ ?_
        · first | exact ho17 | (simpa using ho17)
        · first | exact ho16 | (simpa using ho16)
        · try dsimp only
          omega
        · try dsimp only
          rw [filtF_succ, ← hys, show outB n ls q = true from by rw [← ‹gt us q = true›, hgu]; rfl]; rfl
        · first | omega | (dsimp only; omega)
      · refine wi_skip <| wi_inBlock <| wi_reg rfl <| lx_move (.int .i64 ((q : Nat) : Int)) rfl rfl <| lx_add (((q + 1 : Nat) : Int)) rfl rfl rfl (by omega) (by omega) (by omega) <| lx_assign (.int .i64 ((q + 1 : Nat) : Int)) rfl rfl <| lx_nil <| ?_
        -- L2.2
        refine IH2 _ _ (q + 1, vo, ys) (agree_ups rfl agree_self) ⟨rfl, rfl, trivial⟩ ⟨?_, ?_, hx0_5, hdj1, ?_, ?_⟩ ?_
        · first | exact ho14 | (simpa using ho14)
        · first | exact ho15 | (simpa using ho15)
        · try dsimp only
          omega
        · try dsimp only
          rw [filtF_succ, ← hys, show outB n ls q = false from by rw [← ‹gt us q = false›, hgu]; rfl]; simp
        · first | omega | (dsimp only; omega)
    · refine lx_nil <| wi_false rfl <| wi_exit rfl <| wi_seq <| wi_reg rfl <| lx_move (vo) rfl rfl <| lx_assign (vo) rfl rfl <| lx_nil <| ?_
      -- R1
      refine wi_ret ⟨vo, (res_one rfl rfl), ⟨vo, rfl, ?_, hx0_5⟩⟩
      · rw [show ys = outsF n ls from by rw [hys, show q = 2 ^ n from by omega]; rfl] at ho15; exact ho15

set_option maxRecDepth 10000 in
theorem ridle_spec (h : Heap) (n : Nat) (vl : Value) (ls : List (Int × Int)) (hr_vl : RdE encP h vl ls) (hp1 : n ≤ 10) (hp2 : ls.length ≤ 1000000) (hp3 : NetLt n ls) : Fx Try.prog 42 [.int .i64 ((n : Nat) : Int), vl] h (fun v h' => ∃ (s : Value), v = s ∧ OwE encI h' h.size 3 s (idleF n ls ls.length) ∧ Ext h.size h h') := by
  have hpw := pow10 hp1
  refine fx_intro (n := 56) [(0, .int .i64 ((n : Nat) : Int)), (1, vl)] Try.func42 rfl rfl (by simp) ⟨rfl, rfl, trivial⟩ fun g0 => ?_
  refine wi_seq <| wi_reg rfl <| lx_assign (.slice none 0 0) rfl rfl <| lx_nil <| wi_seq <| wi_reg rfl <| lx_assign (.slice none 0 0) rfl rfl <| lx_nil <| wi_seq <| wi_seq <| wi_reg rfl <| lx_assign (.int .i64 0) rfl rfl <| lx_nil <| wi_block <| ?_
  refine wi_loop (σ := Nat × Value × (List Int)) (rngB 5 55 []) (fun (ss : Nat × Value × (List Int)) => [(6, .int .i64 ((ss.1 : Nat) : Int)), (5, ss.2.1)]) (fun (ss : Nat × Value × (List Int)) (hh : Heap) => OwE encI hh h.size 3 ss.2.1 ss.2.2 ∧ Ext h.size h hh ∧ (ss.1 ≤ ls.length) ∧ (ss.2.2 = idleF n ls ss.1)) (fun (ss : Nat × Value × (List Int)) => ls.length - ss.1) (0, .slice none 0 0, []) ⟨rfl, rfl, trivial⟩ ⟨?_, (Ext.refl _ _), ?_, ?_⟩ ?_
  · first | exact (owE_nil encI _ h.size 3) | (simpa using (owE_nil encI _ h.size 3))
  · try dsimp only
    omega
  · try dsimp only
    first | done | rfl
  rintro g1 ⟨i, v, ys⟩ hh1 ⟨ho1, hx0_1, hi, hys⟩ IH1
  dsimp only at *
  have hyl := idleF_length n ls i
  rw [← hys] at hyl
  refine wi_seq <| wi_seq <| wi_reg rfl <| lx_move (.int .i64 ((i : Nat) : Int)) rfl rfl <| lx_move (vl) rfl rfl <| lx_len rfl Try.underlying38 hr_vl rfl <| lx_lssS rfl rfl rfl (fun c1 => ?_) (fun c1 => ?_)
  · refine lx_nil <| wi_true rfl <| wi_skip <| wi_seq <| wi_block <| wi_seq <| wi_reg rfl <| ?_
    obtain ⟨a, b, hgc, hab, hb⟩ := netLt_at hp3 (show i < ls.length by omega)
    have hib := idle_bits hp3 hgc (by omega) hb hp1
    refine lx_assign (.bool true) rfl rfl <| lx_nil <| wi_seq <| wi_seq <| wi_reg rfl <| lx_assign (.int .i64 0) rfl rfl <| lx_nil <| wi_block <| ?_
    refine wi_loop (σ := Nat × Bool) (rngB 16 50 [7, 8, 9]) (fun (ss : Nat × Bool) => [(8, .int .i64 ((ss.1 : Nat) : Int)), (7, .bool ss.2)]) (fun (ss : Nat × Bool) (hh : Heap) => OwE encI hh h.size 3 v ys ∧ Ext h.size h hh ∧ (ss.1 ≤ 2 ^ n) ∧ ((ss.2 = true ∧ ∀ q, q < ss.1 → gt (runV (ls.take i) (bitsV n q)) a ≤ gt (runV (ls.take i) (bitsV n q)) b) ∨ (ss.2 = false ∧ ∃ q, q < 2 ^ n ∧ ¬ gt (runV (ls.take i) (bitsV n q)) a ≤ gt (runV (ls.take i) (bitsV n q)) b))) (fun (ss : Nat × Bool) => 2 ^ n - ss.1) (0, true) ⟨rfl, rfl, trivial⟩ ⟨?_, hx0_1, ?_, ?_⟩ ?_
    · first | exact ho1 | (simpa using ho1)
    · try dsimp only
      exact Nat.zero_le _
    · try dsimp only
      exact .inl ⟨rfl, fun q hq => by omega⟩
    rintro g2 ⟨p, c⟩ hh2 ⟨ho2, hx0_2, hp, hc⟩ IH2
    dsimp only at *
    refine wi_seq <| wi_seq <| wi_reg rfl <| lx_move (.int .i64 ((p : Nat) : Int)) rfl rfl <| lx_move (.int .i64 ((n : Nat) : Int)) rfl rfl <| lx_conv ((n : Nat) : Int) rfl Try.underlying3 Try.underlying26 rfl (wrap_u64 (by omega) (by omega)) <| lx_shl (m := 1) (n := n) rfl rfl rfl (by show _ ≤ 64; omega) (wrap_i64 (by omega) (by omega)) <| lx_lssS rfl rfl rfl (fun c2 => ?_) (fun c2 => ?_)
    · refine lx_move (.bool true) rfl rfl <| ?_
      cases c3 : c
      · refine lx_move (.bool false) rfl rfl <| lx_pick true (.bool false) rfl rfl rfl <| lx_nil <| wi_false rfl <| wi_exit rfl <| wi_seq <| wi_reg rfl <| lx_move (.bool false) rfl rfl <| lx_nil <| wi_false rfl <| wi_skip <| wi_inBlock <| wi_reg rfl <| lx_move (.int .i64 ((i : Nat) : Int)) rfl rfl <| lx_add (((i + 1 : Nat) : Int)) rfl rfl rfl (by omega) (by omega) (by omega) <| lx_assign (.int .i64 ((i + 1 : Nat) : Int)) rfl rfl <| lx_nil <| ?_
        -- L0.1
        refine IH1 _ _ (i + 1, v, ys) (agree_ups rfl (agree_mix (rngB_sub (by decide) (by decide) rfl) (agree_ups rfl agree_self))) ⟨rfl, rfl, trivial⟩ ⟨?_, hx0_2, ?_, ?_⟩ ?_
        · first | exact ho2 | (simpa using ho2)
        · try dsimp only
          omega
        · try dsimp only
          have hbf : idleB n ls i = false := by
            rcases hc with ⟨h1, h2⟩ | ⟨h1, q, hq, h2⟩
            · have h9 : c = false := by assumption
              rw [h9] at h1; cases h1
            · rw [Bool.eq_false_iff]; exact fun h => h2 (hib.1 h q hq)
          rw [idleF_succ, ← hys, hbf]; simp
        · first | omega | (dsimp only; omega)
      · refine lx_move (.bool true) rfl rfl <| lx_pick true (.bool true) rfl rfl rfl <| lx_nil <| wi_true rfl <| wi_skip <| wi_seq <| wi_block <| wi_seq <| wi_draw mo rfl (by decide +kernel) <| ?_
        have htl : (ls.take i).length ≤ i := by simp; omega
        refine lx_move (vl) rfl rfl <| lx_move (.int .i64 ((i : Nat) : Int)) rfl rfl <| lx_slice (E := encP) 0 i rfl eT38 rfl rfl ⟨_, rfl⟩ hr_vl (by omega) (by omega) fun vtk hs1 hso1 => ?_
        have hr1 := sl_rd (hr_vl.extS hx0_2) hs1 (by omega)
        refine lx_move (.int .i64 ((n : Nat) : Int)) rfl rfl <| lx_move (.int .i64 ((p : Nat) : Int)) rfl rfl <| lx_call [.int .i64 ((n : Nat) : Int), .int .i64 ((p : Nat) : Int)] rfl rfl Try.call59 rfl (rpattern_spec hh2 n p (by omega) (by omega)) (fun _ _ _ => trivial) ?_
        rintro v1 h1 ⟨_, rfl, ho3, hx1⟩
        have hx0_3 := hx0_2.trans2 hx1 hx0_2.size
        have ho4 := ho2.extS hx1
        have hxr1 := (Ext.refl hh2.size hh2).trans2 hx1 (Ext.refl hh2.size hh2).size
        have ho5 := ho3.base hx0_2.size
        refine lx_call [vtk, v1] rfl rfl Try.call40 rfl (rrun_spec h1 vtk (ls.take i) v1 (bitsV n p) (hr1.extS hxr1) ho5.rd (by rw [bitsV_length]; exact netLt_take hp3) (by first | omega | (rw [bitsV_length]; omega)) (by first | omega | (rw [bitsV_length]; omega))) (fun _ _ _ => trivial) ?_
        rintro v2 h2 ⟨_, rfl, ho6, hx2⟩
        have hx0_4 := hx0_3.trans2 hx2 hx0_3.size
        have ho7 := ho4.extS hx2
        have ho8 := ho5.extS hx2
        have hxr2 := hxr1.trans2 hx2 hxr1.size
        have ho9 := ho6.base hx0_3.size
        refine lx_assign (v2) rfl rfl <| lx_nil <| wi_draw mo rfl (by decide +kernel) <| ?_
        have hrl : (runV (ls.take i) (bitsV n p)).length = n := by rw [runV_length, bitsV_length]
        refine lx_move (v2) rfl rfl <| lx_move (vl) rfl rfl <| lx_move (.int .i64 ((i : Nat) : Int)) rfl rfl <| lx_ix (i := i) rfl eT38 hr_vl rfl rfl (by first | omega | (simp only [List.length_set, List.length_append, List.length_cons, List.length_nil, List.length_replicate, List.length_take, swp_length, exch_length]; omega)) <| lx_ixP (i := i) (c := 0) rfl Try.underlying60 Try.sizeOf3 hr_vl (by first | omega | (simp only [List.length_set, List.length_append, List.length_cons, List.length_nil, List.length_replicate, List.length_take, swp_length, exch_length]; omega)) rfl rfl (by decide) <| lx_ld (i := i) (j := 0) (.int .i64 ((a : Nat) : Int)) rfl rfl fl3 (hr_vl.extS hx0_4) (by first | omega | (simp only [List.length_set, List.length_append, List.length_cons, List.length_nil, List.length_replicate, List.length_take, swp_length, exch_length]; omega)) (by rw [hgc]; rfl) rfl <| lx_ix (i := a) rfl eT29 ho9.rd rfl rfl (by first | omega | (simp only [List.length_set, List.length_append, List.length_cons, List.length_nil, List.length_replicate, List.length_take, swp_length, exch_length]; omega)) <| lx_ld (i := a) (j := 0) (.int .i64 (gt (runV (ls.take i) (bitsV n p)) a)) rfl rfl fl2 ho9.rd (by first | omega | (simp only [List.length_set, List.length_append, List.length_cons, List.length_nil, List.length_replicate, List.length_take, swp_length, exch_length]; omega)) rfl rfl <| lx_move (v2) rfl rfl <| lx_move (vl) rfl rfl <| lx_move (.int .i64 ((i : Nat) : Int)) rfl rfl <| lx_ix (i := i) rfl eT38 hr_vl rfl rfl (by first | omega | (simp only [List.length_set, List.length_append, List.length_cons, List.length_nil, List.length_replicate, List.length_take, swp_length, exch_length]; omega)) <| lx_ixP (i := i) (c := 1) rfl Try.underlying60 Try.sizeOf3 hr_vl (by first | omega | (simp only [List.length_set, List.length_append, List.length_cons, List.length_nil, List.length_replicate, List.length_take, swp_length, exch_length]; omega)) rfl rfl (by decide) <| lx_ld (i := i) (j := 1) (.int .i64 ((b : Nat) : Int)) rfl rfl fl3 (hr_vl.extS hx0_4) (by first | omega | (simp only [List.length_set, List.length_append, List.length_cons, List.length_nil, List.length_replicate, List.length_take, swp_length, exch_length]; omega)) (by rw [hgc]; rfl) rfl <| lx_ix (i := b) rfl eT29 ho9.rd rfl rfl (by first | omega | (simp only [List.length_set, List.length_append, List.length_cons, List.length_nil, List.length_replicate, List.length_take, swp_length, exch_length]; omega)) <| lx_ld (i := b) (j := 0) (.int .i64 (gt (runV (ls.take i) (bitsV n p)) b)) rfl rfl fl2 ho9.rd (by first | omega | (simp only [List.length_set, List.length_append, List.length_cons, List.length_nil, List.length_replicate, List.length_take, swp_length, exch_length]; omega)) rfl rfl <| lx_leq rfl rfl rfl <| lx_assign (.bool (decide (gt (runV (ls.take i) (bitsV n p)) a ≤ gt (runV (ls.take i) (bitsV n p)) b))) rfl rfl <| lx_nil <| wi_inBlock <| wi_reg rfl <| lx_move (.int .i64 ((p : Nat) : Int)) rfl rfl <| lx_add (((p + 1 : Nat) : Int)) rfl rfl rfl (by omega) (by omega) (by omega) <| lx_assign (.int .i64 ((p + 1 : Nat) : Int)) rfl rfl <| lx_nil <| ?_
        -- L2.1
        refine IH2 _ _ (p + 1, decide (gt (runV (ls.take i) (bitsV n p)) a ≤ gt (runV (ls.take i) (bitsV n p)) b)) (agree_ups rfl agree_self) ⟨rfl, rfl, trivial⟩ ⟨?_, hx0_4, ?_, ?_⟩ ?_
        · first | exact ho7 | (simpa using ho7)
        · try dsimp only
          omega
        · try dsimp only
          rcases hc with ⟨h1, h2⟩ | ⟨h1, h2⟩
          · by_cases hle : gt (runV (ls.take i) (bitsV n p)) a ≤ gt (runV (ls.take i) (bitsV n p)) b
            · exact .inl ⟨decide_eq_true hle, fun q hq => (Nat.lt_or_eq_of_le (Nat.le_of_lt_succ hq)).elim (h2 q) (fun e => by rw [e]; exact hle)⟩
            · exact .inr ⟨decide_eq_false hle, p, by omega, hle⟩
          · have h9 : c = true := by assumption
            rw [h9] at h1; cases h1
        · first | omega | (dsimp only; omega)
    · refine lx_move (.bool false) rfl rfl <| ?_
      cases c4 : c
      · refine lx_skip rfl <| lx_pick false (.bool false) rfl rfl rfl <| lx_nil <| wi_false rfl <| wi_exit rfl <| wi_seq <| wi_reg rfl <| lx_move (.bool false) rfl rfl <| lx_nil <| wi_false rfl <| wi_skip <| wi_inBlock <| wi_reg rfl <| lx_move (.int .i64 ((i : Nat) : Int)) rfl rfl <| lx_add (((i + 1 : Nat) : Int)) rfl rfl rfl (by omega) (by omega) (by omega) <| lx_assign (.int .i64 ((i + 1 : Nat) : Int)) rfl rfl <| lx_nil <| ?_
        -- L0.2
        refine IH1 _ _ (i + 1, v, ys) (agree_ups rfl (agree_mix (rngB_sub (by decide) (by decide) rfl) (agree_ups rfl agree_self))) ⟨rfl, rfl, trivial⟩ ⟨?_, hx0_2, ?_, ?_⟩ ?_
        · first | exact ho2 | (simpa using ho2)
        · try dsimp only
          omega
        · try dsimp only
          have hbf : idleB n ls i = false := by
            rcases hc with ⟨h1, h2⟩ | ⟨h1, q, hq, h2⟩
            · have h9 : c = false := by assumption
              rw [h9] at h1; cases h1
            · rw [Bool.eq_false_iff]; exact fun h => h2 (hib.1 h q hq)
          rw [idleF_succ, ← hys, hbf]; simp
        · first | omega | (dsimp only; omega)
      · refine lx_skip rfl <| lx_pick false (.bool false) rfl rfl rfl <| lx_nil <| wi_false rfl <| wi_exit rfl <| wi_seq <| wi_reg rfl <| lx_move (.bool true) rfl rfl <| lx_nil <| wi_true rfl <| wi_reg rfl <| lx_move (v) rfl rfl <| lx_move (.int .i64 ((i : Nat) : Int)) rfl rfl <| lx_appendL (E := encI) (B := h.size) [((i : Nat) : Int)] [.int .i64 ((i : Nat) : Int)] rfl rfl (fun _ => rfl) rfl eT35 rfl rfl rfl rfl ho2 (fun _ => rfl) (by show ys.length + 1 ≤ _; omega) (by show (ys.length + 1) * 8 ≤ _; omega) hx0_2.size (fun _ _ => trivial) fun u1 v3 h3 ho10 hc1 hg1 => ?_
        have hx0_5 := hx0_2.trans (ho2.ext hc1 hx0_2.size)
        refine lx_assign (v3) rfl rfl <| lx_nil <| wi_inBlock <| wi_reg rfl <| lx_move (.int .i64 ((i : Nat) : Int)) rfl rfl <| lx_add (((i + 1 : Nat) : Int)) rfl rfl rfl (by omega) (by omega) (by omega) <| lx_assign (.int .i64 ((i + 1 : Nat) : Int)) rfl rfl <| lx_nil <| ?_
        -- L0.3
        refine IH1 _ _ (i + 1, v3, ys ++ [((i : Nat) : Int)]) (agree_ups rfl (agree_mix (rngB_sub (by decide) (by decide) rfl) (agree_ups rfl agree_self))) ⟨rfl, rfl, trivial⟩ ⟨?_, hx0_5, ?_, ?_⟩ ?_
        · first | exact ho10 | (simpa using ho10)
        · try dsimp only
          omega
        · try dsimp only
          have hbt : idleB n ls i = true := by
            rcases hc with ⟨h1, h2⟩ | ⟨h1, q, hq, h2⟩
            · exact hib.2 fun q hq => h2 q (by omega)
            · have h9 : c = true := by assumption
              rw [h9] at h1; cases h1
          rw [idleF_succ, ← hys, hbt]; rfl
        · first | omega | (dsimp only; omega)
  · refine lx_nil <| wi_false rfl <| wi_exit rfl <| wi_seq <| wi_reg rfl <| lx_move (v) rfl rfl <| lx_assign (v) rfl rfl <| lx_nil <| ?_
    -- R1
    refine wi_ret ⟨v, (res_one rfl rfl), ⟨v, rfl, ?_, hx0_1⟩⟩
    · rw [show ys = idleF n ls ls.length from by rw [hys, show i = ls.length from by omega]] at ho1; exact ho1

end Go.Proofs.Ytjfickfgpkejpaa
