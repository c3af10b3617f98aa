/-
  Walks: the straight network.
-/
import Derived.Test.YtjfickfgpkejpaaSH
set_option linter.unusedSimpArgs false
set_option linter.unusedVariables false
namespace Go.Proofs.Ytjfickfgpkejpaa
open Go Go.X

set_option maxRecDepth 10000 in
theorem rstraight_spec (h : Heap) (n : Nat) (vl : Value) (ls : List (Int × Int)) (hr_vl : RdE encP h vl ls) (hp1 : n ≤ 10) (hp2 : ls.length ≤ 200) (hp3 : ∀ i, i < ls.length → validL (n : Int) (gt ls i) = true) : Fx Try.prog 26 [.int .i64 ((n : Nat) : Int), vl] h (fun v h' => ∃ (s : Value) (w : Value), v = .tuple #[s, w] ∧ OwE encP h' h.size 60 s (stO n ls ls.length) ∧ OwE encI h' h.size 3 w (stA n ls ls.length) ∧ Ext h.size h h') := by
  refine fx_intro (n := 72) [(0, .int .i64 ((n : Nat) : Int)), (1, vl)] Try.func26 rfl rfl (by simp) ⟨rfl, rfl, trivial⟩ fun g0 => ?_
  refine wi_seq <| wi_reg rfl <| lx_assign (.slice none 0 0) rfl rfl <| lx_assign (.slice none 0 0) rfl rfl <| lx_nil <| wi_seq <| wi_reg rfl <| lx_assign (.slice none 0 0) rfl rfl <| lx_nil <| wi_seq <| wi_seq <| wi_reg rfl <| lx_assign (.int .i64 0) rfl rfl <| lx_nil <| wi_block <| ?_
  refine wi_loop (σ := Nat × Value × (List Int)) (rngB 12 21 [6, 7]) (fun (ss : Nat × Value × (List Int)) => [(7, .int .i64 ((ss.1 : Nat) : Int)), (6, ss.2.1)]) (fun (ss : Nat × Value × (List Int)) (hh : Heap) => OwE encI hh h.size 3 ss.2.1 ss.2.2 ∧ Ext h.size h hh ∧ (ss.1 ≤ n) ∧ (ss.2.2 = iota ss.1)) (fun (ss : Nat × Value × (List Int)) => n - ss.1) (0, .slice none 0 0, []) ⟨rfl, rfl, trivial⟩ ⟨?_, (Ext.refl _ _), ?_, ?_⟩ ?_
  · first | exact (owE_nil encI _ h.size 3) | (simpa using (owE_nil encI _ h.size 3))
  · try dsimp only
    omega
  · try dsimp only
    first | done | rfl
  rintro g1 ⟨i, v, ws⟩ hh1 ⟨ho1, hx0_1, hi, hws⟩ IH1
  dsimp only at *
  have hwl : ws.length = i := by rw [hws]; exact iota_length _
  refine wi_seq <| wi_seq <| wi_reg rfl <| lx_move (.int .i64 ((i : Nat) : Int)) rfl rfl <| lx_move (.int .i64 ((n : Nat) : Int)) rfl rfl <| lx_lssS rfl rfl rfl (fun c1 => ?_) (fun c1 => ?_)
  · refine lx_nil <| wi_true rfl <| wi_skip <| wi_seq <| wi_block <| wi_reg rfl <| lx_move (v) rfl rfl <| lx_move (.int .i64 ((i : Nat) : Int)) rfl rfl <| lx_appendL (E := encI) (B := h.size) [((i : Nat) : Int)] [.int .i64 ((i : Nat) : Int)] rfl rfl (fun _ => rfl) rfl eT35 rfl rfl rfl rfl ho1 (fun _ => rfl) (by show ws.length + 1 ≤ _; omega) (by show (ws.length + 1) * 8 ≤ _; omega) hx0_1.size (fun _ _ => trivial) fun u1 v1 h1 ho2 hc1 hg1 => ?_
    have hx0_2 := hx0_1.trans (ho1.ext hc1 hx0_1.size)
    refine lx_assign (v1) rfl rfl <| lx_nil <| wi_inBlock <| wi_reg rfl <| lx_move (.int .i64 ((i : Nat) : Int)) rfl rfl <| lx_add (((i + 1 : Nat) : Int)) rfl rfl rfl (by omega) (by omega) (by omega) <| lx_assign (.int .i64 ((i + 1 : Nat) : Int)) rfl rfl <| lx_nil <| ?_
    -- L0.1
    refine IH1 _ _ (i + 1, v1, ws ++ [((i : Nat) : Int)]) (agree_ups rfl agree_self) ⟨rfl, rfl, trivial⟩ ⟨?_, hx0_2, ?_, ?_⟩ ?_
    · first | exact ho2 | (simpa using ho2)
    · try dsimp only
      omega
    · try dsimp only
      rw [hws, iota_succ]
    · first | omega | (dsimp only; omega)
  · refine lx_nil <| wi_false rfl <| wi_exit rfl <| wi_seq <| wi_reg rfl <| lx_assign (.slice none 0 0) rfl rfl <| lx_nil <| wi_seq <| wi_seq <| wi_reg rfl <| lx_assign (.int .i64 0) rfl rfl <| lx_nil <| wi_block <| ?_
    refine wi_loop (σ := Nat × (List Int) × Value × (List (Int × Int))) (rngB 21 70 [8, 9, 10, 11]) (fun (ss : Nat × (List Int) × Value × (List (Int × Int))) => [(9, .int .i64 ((ss.1 : Nat) : Int)), (8, ss.2.2.1)]) (fun (ss : Nat × (List Int) × Value × (List (Int × Int))) (hh : Heap) => OwE encI hh h.size 3 v ss.2.1 ∧ OwE encP hh h.size 60 ss.2.2.1 ss.2.2.2 ∧ Ext h.size h hh ∧ Dj v ss.2.2.1 ∧ (ss.1 ≤ ls.length) ∧ (ss.2.1 = stA n ls ss.1) ∧ (ss.2.2.2 = stO n ls ss.1)) (fun (ss : Nat × (List Int) × Value × (List (Int × Int))) => ls.length - ss.1) (0, ws, .slice none 0 0, []) ⟨rfl, rfl, trivial⟩ ⟨?_, ?_, hx0_1, (dj_nil_r _), ?_, ?_, ?_⟩ ?_
    · first | exact ho1 | (simpa using ho1)
    · first | exact (owE_nil encP _ h.size 60) | (simpa using (owE_nil encP _ h.size 60))
    · try dsimp only
      omega
    · try dsimp only
      rw [hws]; show iota i = iota n; rw [show i = n from by omega]
    · try dsimp only
      first | done | rfl
    rintro g2 ⟨k, w2, vo, out⟩ hh2 ⟨ho3, ho4, hx0_3, hdj1, hk, hw, hout⟩ IH2
    dsimp only at *
    have hol : out.length = k := by rw [hout]; exact stO_length _ _ _
    have hwl2 : w2.length = n := by rw [hw]; exact stA_length _ _ _
    refine wi_seq <| wi_seq <| wi_reg rfl <| lx_move (.int .i64 ((k : Nat) : Int)) rfl rfl <| lx_move (vl) rfl rfl <| lx_len rfl Try.underlying38 hr_vl rfl <| lx_lssS rfl rfl rfl (fun c2 => ?_) (fun c2 => ?_)
    · refine lx_nil <| wi_true rfl <| wi_skip <| wi_seq <| wi_block <| wi_seq <| wi_draw mo rfl (by decide +kernel) <| ?_
      obtain ⟨a, b, hgc, ha, hb, hab⟩ := validL_nat (hp3 k (by omega))
      refine lx_move (v) rfl rfl <| lx_move (vl) rfl rfl <| lx_move (.int .i64 ((k : Nat) : Int)) rfl rfl <| lx_ix (i := k) rfl eT38 hr_vl rfl rfl (by first | omega | (simp only [List.length_set, List.length_append, List.length_cons, List.length_nil, List.length_replicate, List.length_take, swp_length, exch_length]; omega)) <| lx_ixP (i := k) (c := 0) rfl Try.underlying60 Try.sizeOf3 hr_vl (by first | omega | (simp only [List.length_set, List.length_append, List.length_cons, List.length_nil, List.length_replicate, List.length_take, swp_length, exch_length]; omega)) rfl rfl (by decide) <| lx_ld (i := k) (j := 0) (.int .i64 ((a : Nat) : Int)) rfl rfl fl3 (hr_vl.extS hx0_3) (by first | omega | (simp only [List.length_set, List.length_append, List.length_cons, List.length_nil, List.length_replicate, List.length_take, swp_length, exch_length]; omega)) (by rw [hgc]; rfl) rfl <| lx_ix (i := a) rfl eT35 ho3.rd rfl rfl (by first | omega | (simp only [List.length_set, List.length_append, List.length_cons, List.length_nil, List.length_replicate, List.length_take, swp_length, exch_length]; omega)) <| lx_ld (i := a) (j := 0) (.int .i64 (gt w2 a)) rfl rfl fl3 ho3.rd (by first | omega | (simp only [List.length_set, List.length_append, List.length_cons, List.length_nil, List.length_replicate, List.length_take, swp_length, exch_length]; omega)) rfl rfl <| lx_move (v) rfl rfl <| lx_move (vl) rfl rfl <| lx_move (.int .i64 ((k : Nat) : Int)) rfl rfl <| lx_ix (i := k) rfl eT38 hr_vl rfl rfl (by first | omega | (simp only [List.length_set, List.length_append, List.length_cons, List.length_nil, List.length_replicate, List.length_take, swp_length, exch_length]; omega)) <| lx_ixP (i := k) (c := 1) rfl Try.underlying60 Try.sizeOf3 hr_vl (by first | omega | (simp only [List.length_set, List.length_append, List.length_cons, List.length_nil, List.length_replicate, List.length_take, swp_length, exch_length]; omega)) rfl rfl (by decide) <| lx_ld (i := k) (j := 1) (.int .i64 ((b : Nat) : Int)) rfl rfl fl3 (hr_vl.extS hx0_3) (by first | omega | (simp only [List.length_set, List.length_append, List.length_cons, List.length_nil, List.length_replicate, List.length_take, swp_length, exch_length]; omega)) (by rw [hgc]; rfl) rfl <| lx_ix (i := b) rfl eT35 ho3.rd rfl rfl (by first | omega | (simp only [List.length_set, List.length_append, List.length_cons, List.length_nil, List.length_replicate, List.length_take, swp_length, exch_length]; omega)) <| lx_ld (i := b) (j := 0) (.int .i64 (gt w2 b)) rfl rfl fl3 ho3.rd (by first | omega | (simp only [List.length_set, List.length_append, List.length_cons, List.length_nil, List.length_replicate, List.length_take, swp_length, exch_length]; omega)) rfl rfl <| lx_assign (.int .i64 (gt w2 a)) rfl rfl <| lx_assign (.int .i64 (gt w2 b)) rfl rfl <| lx_nil <| wi_seq <| wi_seq <| wi_reg rfl <| lx_move (.int .i64 (gt w2 a)) rfl rfl <| lx_move (.int .i64 (gt w2 b)) rfl rfl <| lx_gtrS rfl rfl rfl (fun c3 => ?_) (fun c3 => ?_)
      · refine lx_nil <| wi_true rfl <| wi_seq <| wi_reg rfl <| lx_move (.int .i64 (gt w2 b)) rfl rfl <| lx_move (.int .i64 (gt w2 a)) rfl rfl <| lx_assign (.int .i64 (gt w2 b)) rfl rfl <| lx_assign (.int .i64 (gt w2 a)) rfl rfl <| lx_nil <| wi_draw mo rfl (by decide +kernel) <| lx_move (v) rfl rfl <| lx_move (vl) rfl rfl <| lx_move (.int .i64 ((k : Nat) : Int)) rfl rfl <| lx_ix (i := k) rfl eT38 hr_vl rfl rfl (by first | omega | (simp only [List.length_set, List.length_append, List.length_cons, List.length_nil, List.length_replicate, List.length_take, swp_length, exch_length]; omega)) <| lx_ixP (i := k) (c := 0) rfl Try.underlying60 Try.sizeOf3 hr_vl (by first | omega | (simp only [List.length_set, List.length_append, List.length_cons, List.length_nil, List.length_replicate, List.length_take, swp_length, exch_length]; omega)) rfl rfl (by decide) <| lx_ld (i := k) (j := 0) (.int .i64 ((a : Nat) : Int)) rfl rfl fl3 (hr_vl.extS hx0_3) (by first | omega | (simp only [List.length_set, List.length_append, List.length_cons, List.length_nil, List.length_replicate, List.length_take, swp_length, exch_length]; omega)) (by rw [hgc]; rfl) rfl <| lx_move (v) rfl rfl <| lx_move (vl) rfl rfl <| lx_move (.int .i64 ((k : Nat) : Int)) rfl rfl <| lx_ix (i := k) rfl eT38 hr_vl rfl rfl (by first | omega | (simp only [List.length_set, List.length_append, List.length_cons, List.length_nil, List.length_replicate, List.length_take, swp_length, exch_length]; omega)) <| lx_ixP (i := k) (c := 1) rfl Try.underlying60 Try.sizeOf3 hr_vl (by first | omega | (simp only [List.length_set, List.length_append, List.length_cons, List.length_nil, List.length_replicate, List.length_take, swp_length, exch_length]; omega)) rfl rfl (by decide) <| lx_ld (i := k) (j := 1) (.int .i64 ((b : Nat) : Int)) rfl rfl fl3 (hr_vl.extS hx0_3) (by first | omega | (simp only [List.length_set, List.length_append, List.length_cons, List.length_nil, List.length_replicate, List.length_take, swp_length, exch_length]; omega)) (by rw [hgc]; rfl) rfl <| lx_move (.int .i64 (gt w2 b)) rfl rfl <| lx_move (.int .i64 (gt w2 a)) rfl rfl <| lx_ix (i := a) rfl eT35 ho3.rd rfl rfl (by first | omega | (simp only [List.length_set, List.length_append, List.length_cons, List.length_nil, List.length_replicate, List.length_take, swp_length, exch_length]; omega)) <| lx_st (i := a) (gt w2 b) rfl rfl Try.sizeOf3 ho3 (by first | omega | (simp only [List.length_set, List.length_append, List.length_cons, List.length_nil, List.length_replicate, List.length_take, swp_length, exch_length]; omega)) rfl rfl (fun _ _ _ _ _ => trivial) fun h2 ho5 hc2 hsz1 => ?_
        have hx0_4 := hx0_3.trans (ho3.ext hc2 hx0_3.size)
        have ho6 := ho4.chg hc2 (Dj.symm hdj1)
        refine lx_ix (i := b) rfl eT35 ho5.rd rfl rfl (by first | omega | (simp only [List.length_set, List.length_append, List.length_cons, List.length_nil, List.length_replicate, List.length_take, swp_length, exch_length]; omega)) <| lx_st (i := b) (gt w2 a) rfl rfl Try.sizeOf3 ho5 (by first | omega | (simp only [List.length_set, List.length_append, List.length_cons, List.length_nil, List.length_replicate, List.length_take, swp_length, exch_length]; omega)) rfl rfl (fun _ _ _ _ _ => trivial) fun h3 ho7 hc3 hsz2 => ?_
        have hx0_5 := hx0_4.trans (ho5.ext hc3 hx0_4.size)
        have ho8 := ho6.chg hc3 (Dj.symm hdj1)
        refine lx_nil <| wi_reg rfl <| lx_move (vo) rfl rfl <| lx_move (.int .i64 (gt w2 b)) rfl rfl <| lx_move (.int .i64 (gt w2 a)) rfl rfl <| lx_build (.agg #[.int .i64 (gt w2 b), .int .i64 (gt w2 a)]) [(0, .int .i64 (gt w2 b)), (1, .int .i64 (gt w2 a))] rfl rfl (fun w => bld60_2 _ _ w) <| lx_appendL (E := encP) (B := h.size) [(gt w2 b, gt w2 a)] [.agg #[.int .i64 (gt w2 b), .int .i64 (gt w2 a)]] rfl rfl (fun _ => rfl) rfl eT38 rfl rfl rfl rfl ho8 (fun _ => rfl) (by show out.length + 1 ≤ _; omega) (by show (out.length + 1) * 16 ≤ _; omega) hx0_5.size (fun _ _ => trivial) fun u2 v2 h4 ho9 hc4 hg2 => ?_
        have hx0_6 := hx0_5.trans (ho8.ext hc4 hx0_5.size)
        have ho10 := ho7.chg hc4 hdj1
        refine lx_assign (v2) rfl rfl <| lx_nil <| wi_inBlock <| wi_reg rfl <| lx_move (.int .i64 ((k : Nat) : Int)) rfl rfl <| lx_add (((k + 1 : Nat) : Int)) rfl rfl rfl (by omega) (by omega) (by omega) <| lx_assign (.int .i64 ((k + 1 : Nat) : Int)) rfl rfl <| lx_nil <| ?_
        -- L2.1
        refine IH2 _ _ (k + 1, (w2.set a (gt w2 b)).set b (gt w2 a), v2, out ++ [(gt w2 b, gt w2 a)]) (agree_ups rfl agree_self) ⟨rfl, rfl, trivial⟩ ⟨?_, ?_, hx0_6, (dj_app hdj1 ho7 hg2), ?_, ?_, ?_⟩ ?_
        · first | exact ho10 | (simpa using ho10)
        · first | exact ho9 | (simpa using ho9)
        · try dsimp only
          omega
        · try dsimp only
          exact stA_yes hw hgc (by omega) (by omega) (by omega)
        · try dsimp only
          exact stO_step hw hout hgc (by omega) (by omega)
        · first | omega | (dsimp only; omega)
      · refine lx_nil <| wi_false rfl <| wi_skip <| wi_reg rfl <| lx_move (vo) rfl rfl <| lx_move (.int .i64 (gt w2 a)) rfl rfl <| lx_move (.int .i64 (gt w2 b)) rfl rfl <| lx_build (.agg #[.int .i64 (gt w2 a), .int .i64 (gt w2 b)]) [(0, .int .i64 (gt w2 a)), (1, .int .i64 (gt w2 b))] rfl rfl (fun w => bld60_2 _ _ w) <| lx_appendL (E := encP) (B := h.size) [(gt w2 a, gt w2 b)] [.agg #[.int .i64 (gt w2 a), .int .i64 (gt w2 b)]] rfl rfl (fun _ => rfl) rfl eT38 rfl rfl rfl rfl ho4 (fun _ => rfl) (by show out.length + 1 ≤ _; omega) (by show (out.length + 1) * 16 ≤ _; omega) hx0_3.size (fun _ _ => trivial) fun u3 v3 h5 ho11 hc5 hg3 => ?_
        have hx0_7 := hx0_3.trans (ho4.ext hc5 hx0_3.size)
        have ho12 := ho3.chg hc5 hdj1
        refine lx_assign (v3) rfl rfl <| lx_nil <| wi_inBlock <| wi_reg rfl <| lx_move (.int .i64 ((k : Nat) : Int)) rfl rfl <| lx_add (((k + 1 : Nat) : Int)) rfl rfl rfl (by omega) (by omega) (by omega) <| lx_assign (.int .i64 ((k + 1 : Nat) : Int)) rfl rfl <| lx_nil <| ?_
        -- L2.2
        refine IH2 _ _ (k + 1, w2, v3, out ++ [(gt w2 a, gt w2 b)]) (agree_ups rfl agree_self) ⟨rfl, rfl, trivial⟩ ⟨?_, ?_, hx0_7, (dj_app hdj1 ho3 hg3), ?_, ?_, ?_⟩ ?_
        · first | exact ho12 | (simpa using ho12)
        · first | exact ho11 | (simpa using ho11)
        · try dsimp only
          omega
        · try dsimp only
          exact stA_no hw hgc (by omega)
        · try dsimp only
          exact stO_step hw hout hgc (by omega) (by omega)
        · first | omega | (dsimp only; omega)
    · refine lx_nil <| wi_false rfl <| wi_exit rfl <| wi_seq <| wi_reg rfl <| lx_move (vo) rfl rfl <| lx_move (v) rfl rfl <| lx_assign (vo) rfl rfl <| lx_assign (v) rfl rfl <| lx_nil <| ?_
      -- R1
      refine wi_ret ⟨.tuple #[vo, v], (res_two rfl rfl rfl), ⟨vo, v, rfl, ?_, ?_, hx0_3⟩⟩
      · rw [show ls.length = k from by omega, ← hout]; exact ho4
      · rw [show ls.length = k from by omega, ← hw]; exact ho3

set_option maxRecDepth 10000 in
theorem straight_spec (h : Heap) (n : Int) (vl : Value) (ls : List (Int × Int)) (hr_vl : RdE encP h vl ls) (hp1 : ls.length ≤ 4611686018427387904) : Fx Try.prog 25 [.int .i64 n, vl] h (fun v h' => ∃ (s : Value) (w : Value) (ms : List (Int × Int)) (ws : List Int), v = .tuple #[s, w, .int .i64 (chkNet validL n ls)] ∧ OwE encP h' h.size 60 s ms ∧ OwE encI h' h.size 3 w ws ∧ ((chkNet validL n ls ≠ 0 ∧ ms = [] ∧ ws = []) ∨ (chkNet validL n ls = 0 ∧ ms = stO n.toNat ls ls.length ∧ ws = stA n.toNat ls ls.length)) ∧ Ext h.size h h') := by
  refine fx_intro (n := 99) [(0, .int .i64 n), (1, vl)] Try.func25 rfl rfl (by simp) ⟨rfl, rfl, trivial⟩ fun g0 => ?_
  refine wi_seq <| wi_reg rfl <| lx_box #[.int .i64 n] rfl rfl rfl (fun _ _ _ => trivial) fun bn1 h1 hbn1 hbk1 hx1 hsz1 => ?_
  have hbb1 : h.size ≤ bn1 := by have := (Nat.le_refl h.size); omega
  refine lx_assign (.slice none 0 0) rfl rfl <| lx_assign (.slice none 0 0) rfl rfl <| lx_assign (.int .i64 0) rfl rfl <| lx_nil <| wi_seq <| wi_seq <| wi_reg rfl <| lx_ldB (.int .i64 n) rfl rfl fl3 hbk1 rfl rfl <| lx_move (vl) rfl rfl <| lx_makeFunc [] [.pointer (some ⟨bn1, 0, none⟩)] rfl rfl rfl <| lx_call [.int .i64 n, vl, .func (.func 50) #[] #[.pointer (some ⟨bn1, 0, none⟩)]] rfl rfl Try.call49 rfl (chk_check50_spec h1 n vl ls bn1 hbk1 (hr_vl.extS hx1) (by omega)) (fun _ _ _ => trivial) ?_
  rintro _ h2 ⟨rfl, hx2⟩
  have hx0_1 := hx1.trans2 hx2 hx1.size
  have hb1 := hbk1.extS hx2
  refine lx_assign (.int .i64 (chkNet validL n ls)) rfl rfl <| lx_nil <| wi_seq <| wi_reg rfl <| lx_move (.int .i64 (chkNet validL n ls)) rfl rfl <| lx_neqS rfl rfl rfl (fun c1 => ?_) (fun c1 => ?_)
  · refine lx_nil <| wi_true rfl <| wi_seq <| wi_reg rfl <| lx_move (.int .i64 (chkNet validL n ls)) rfl rfl <| lx_assign (.slice none 0 0) rfl rfl <| lx_assign (.slice none 0 0) rfl rfl <| lx_assign (.int .i64 (chkNet validL n ls)) rfl rfl <| lx_nil <| ?_
    -- R1
    refine wi_ret ⟨.tuple #[.slice none 0 0, .slice none 0 0, .int .i64 (chkNet validL n ls)], (res_three rfl rfl rfl rfl), ⟨.slice none 0 0, .slice none 0 0, [], [], rfl, (owE_nil encP _ h.size 60), (owE_nil encI _ h.size 3), ?_, hx0_1⟩⟩
    · exact .inl ⟨by omega, rfl, rfl⟩
  · refine lx_nil <| wi_false rfl <| wi_skip <| wi_seq <| wi_reg rfl <| ?_
    have hc0 : chkNet validL n ls = 0 := by omega
    obtain ⟨hn1, hn2, hll, hlv⟩ := chkNet_ok hc0
    obtain ⟨m, rfl⟩ : ∃ m : Nat, n = ((m : Nat) : Int) := ⟨n.toNat, by omega⟩
    refine lx_ldB (.int .i64 ((m : Nat) : Int)) rfl rfl fl3 hb1 rfl rfl <| lx_make (E := encI) (n := m) (B := h2.size) (0 : Int) rfl rfl Try.underlying35 (eZ35) rfl rfl (by omega) (by omega) (Nat.le_refl _) (fun _ _ => trivial) fun v1 h3 ho1 hx3 hvb1 => ?_
    have hx0_2 := hx0_1.trans2 hx3 hx0_1.size
    have hb2 := hb1.extS hx3
    have ho2 := ho1.base hx0_1.size
    refine lx_assign (v1) rfl rfl <| lx_nil <| wi_seq <| wi_seq <| wi_reg rfl <| ?_
    have hrl : (List.replicate m (0 : Int)).length = m := by simp
    refine lx_move (v1) rfl rfl <| lx_len rfl Try.underlying35 ho2.rd rfl <| lx_move (.int .i64 0) rfl rfl <| lx_nil <| wi_block <| ?_
    refine wi_loop (σ := Nat × (List Int)) (rngB 26 34 [9]) (fun (ss : Nat × (List Int)) => [(26, .int .i64 ((ss.1 : Nat) : Int))]) (fun (ss : Nat × (List Int)) (hh : Heap) => OwE encI hh h.size 3 v1 ss.2 ∧ Ext h.size h hh ∧ (ss.1 ≤ m) ∧ (ss.2.length = m) ∧ (∀ j, j < ss.1 → gt ss.2 j = ((j : Nat) : Int))) (fun (ss : Nat × (List Int)) => m - ss.1) (0, List.replicate m (0 : Int)) ⟨rfl, trivial⟩ ⟨?_, hx0_2, ?_, ?_, ?_⟩ ?_
    · first | exact ho2 | (simpa using ho2)
    · try dsimp only
      omega
    · try dsimp only
      simp
    · try dsimp only
      intro j hj; omega
    rintro g1 ⟨i, ws⟩ hh1 ⟨ho3, hx0_3, hi, hwl, hwe⟩ IH1
    dsimp only at *
    refine wi_seq <| wi_reg rfl <| lx_lssS rfl rfl rfl (fun c2 => ?_) (fun c2 => ?_)
    · refine lx_nil <| wi_seq <| wi_true rfl <| wi_skip <| wi_seq <| wi_block <| wi_seq <| wi_reg rfl <| lx_move (.int .i64 ((i : Nat) : Int)) rfl rfl <| lx_assign (.int .i64 ((i : Nat) : Int)) rfl rfl <| lx_nil <| wi_reg rfl <| lx_move (v1) rfl rfl <| lx_move (.int .i64 ((i : Nat) : Int)) rfl rfl <| lx_move (.int .i64 ((i : Nat) : Int)) rfl rfl <| lx_ix (i := i) rfl eT35 ho3.rd rfl rfl (by first | omega | (simp only [List.length_set, List.length_append, List.length_cons, List.length_nil, List.length_replicate, List.length_take, swp_length, exch_length]; omega)) <| lx_st (i := i) (((i : Nat) : Int)) rfl rfl Try.sizeOf3 ho3 (by first | omega | (simp only [List.length_set, List.length_append, List.length_cons, List.length_nil, List.length_replicate, List.length_take, swp_length, exch_length]; omega)) rfl rfl (fun _ _ _ _ _ => trivial) fun h4 ho4 hc1 hsz2 => ?_
      have hx0_4 := hx0_3.trans (ho3.ext hc1 hx0_3.size)
      refine lx_nil <| wi_inBlock <| wi_reg rfl <| lx_add (((i + 1 : Nat) : Int)) rfl rfl rfl (by omega) (by omega) (by omega) <| lx_move (.int .i64 ((i + 1 : Nat) : Int)) rfl rfl <| lx_nil <| ?_
      -- L0.1
      refine IH1 _ _ (i + 1, ws.set i (((i : Nat) : Int))) (agree_ups rfl agree_self) ⟨rfl, trivial⟩ ⟨?_, hx0_4, ?_, ?_, ?_⟩ ?_
      · first | exact ho4 | (simpa using ho4)
      · try dsimp only
        omega
      · try dsimp only
        simpa using hwl
      · try dsimp only
        intro j hj
        rw [gt_set (by omega)]
        split
        · rename_i e; rw [e]
        · exact hwe j (by omega)
      · first | omega | (dsimp only; omega)
    · refine lx_nil <| wi_seq <| wi_false rfl <| wi_exit rfl <| wi_seq <| wi_reg rfl <| ?_
      have hio : ws = iota m := iota_ext hwl (fun j hj => hwe j (by omega))
      refine lx_assign (.slice none 0 0) rfl rfl <| lx_nil <| wi_seq <| wi_seq <| wi_reg rfl <| lx_move (vl) rfl rfl <| lx_len rfl Try.underlying38 hr_vl rfl <| lx_move (.int .i64 0) rfl rfl <| lx_nil <| wi_block <| ?_
      refine wi_loop (σ := Nat × (List Int) × Value × (List (Int × Int))) (rngB 36 97 [10, 12, 13, 14]) (fun (ss : Nat × (List Int) × Value × (List (Int × Int))) => [(36, .int .i64 ((ss.1 : Nat) : Int)), (10, ss.2.2.1)]) (fun (ss : Nat × (List Int) × Value × (List (Int × Int))) (hh : Heap) => OwE encI hh h.size 3 v1 ss.2.1 ∧ OwE encP hh h.size 60 ss.2.2.1 ss.2.2.2 ∧ Ext h.size h hh ∧ Dj v1 ss.2.2.1 ∧ (ss.1 ≤ ls.length) ∧ (ss.2.1 = stA m ls ss.1) ∧ (ss.2.2.2 = stO m ls ss.1)) (fun (ss : Nat × (List Int) × Value × (List (Int × Int))) => ls.length - ss.1) (0, ws, .slice none 0 0, []) ⟨rfl, rfl, trivial⟩ ⟨?_, ?_, hx0_3, (dj_nil_r _), ?_, ?_, ?_⟩ ?_
      · first | exact ho3 | (simpa using ho3)
      · first | exact (owE_nil encP _ h.size 60) | (simpa using (owE_nil encP _ h.size 60))
      · try dsimp only
        omega
      · try dsimp only
        exact hio
      · try dsimp only
        first | done | rfl
      rintro g2 ⟨k, w2, vo, out⟩ hh2 ⟨ho5, ho6, hx0_5, hdj1, hk, hw, hout⟩ IH2
      dsimp only at *
      have hol : out.length = k := by rw [hout]; exact stO_length _ _ _
      have hwl2 : w2.length = m := by rw [hw]; exact stA_length _ _ _
      refine wi_seq <| wi_reg rfl <| lx_lssS rfl rfl rfl (fun c3 => ?_) (fun c3 => ?_)
      · refine lx_nil <| wi_seq <| wi_true rfl <| wi_skip <| wi_seq <| wi_block <| wi_seq <| wi_reg rfl <| ?_
        obtain ⟨a, b, hgc, ha, hb, hab⟩ := validL_nat (hlv k (by omega))
        refine lx_ix (i := k) rfl eT38 hr_vl rfl rfl (by first | omega | (simp only [List.length_set, List.length_append, List.length_cons, List.length_nil, List.length_replicate, List.length_take, swp_length, exch_length]; omega)) <| lx_ldA (i := k) [.int .i64 ((a : Nat) : Int), .int .i64 ((b : Nat) : Int)] rfl rfl wd60 (hr_vl.extS hx0_5) (by first | omega | (simp only [List.length_set, List.length_append, List.length_cons, List.length_nil, List.length_replicate, List.length_take, swp_length, exch_length]; omega)) (by rw [hgc]; rfl) rfl <| lx_alloc rfl rfl Try.zeroValue60 (fun _ _ _ => trivial) fun bn2 h5 hbn2 hbk2 hx4 hsz3 => ?_
        have hbb2 : h.size ≤ bn2 := by have := hx0_5.size; omega
        have hdj2 : Value.ownBlock v1 ≠ some bn2 := by intro e; have := (ho5.lt e).2; omega
        have hdj3 : Value.ownBlock vo ≠ some bn2 := by intro e; have := (ho6.lt e).2; omega
        have hx0_6 := hx0_5.trans2 hx4 hx0_5.size
        have ho7 := ho5.extS hx4
        have ho8 := ho6.extS hx4
        have hbk2 : Blk h5 bn2 #[.int .i64 0, .int .i64 0] 60 := hbk2
        refine lx_stBA (#[.int .i64 ((a : Nat) : Int), .int .i64 ((b : Nat) : Int)]) rfl rfl Try.sizeOf60 hbk2 rfl rfl rfl rfl (by simp [Value.oneCell']) (fun _ _ _ _ => trivial) fun h6 hbk3 hc2 => ?_
        have hx0_7 := hx0_6.trans (hc2.ext hbb2)
        have ho9 := hc2.owE ho7 hdj2
        have ho10 := hc2.owE ho8 hdj3
        refine lx_nil <| wi_seq <| wi_drawS (fun h9 => Ext h6.size h6 h9) (fun o => match o.dst with | some 42 | some 44 | some 47 | some 49 => .free | _ => kindOf o) mo rfl (by decide +kernel) (Ext.refl h6.size h6) <| lx_move (v1) rfl rfl <| lx_ixB (i := 0) (0) rfl Try.underlying60 Try.sizeOf3 rfl rfl (by omega) rfl <| lx_ldBF (.int .i64 ((a : Nat) : Int)) rfl fl3 (fun _ hs => Blk.extS hbk3 hs) rfl rfl <| lx_ix (i := a) rfl eT35 ho9.rd rfl rfl (by first | omega | (simp only [List.length_set, List.length_append, List.length_cons, List.length_nil, List.length_replicate, List.length_take, swp_length, exch_length]; omega)) <| lx_ldF (i := a) (j := 0) (.int .i64 (gt w2 a)) rfl fl3 (fun _ hs => RdE.extS ho9.rd hs) (by first | omega | (simp only [List.length_set, List.length_append, List.length_cons, List.length_nil, List.length_replicate, List.length_take, swp_length, exch_length]; omega)) rfl rfl <| lx_move (v1) rfl rfl <| lx_ixB (i := 1) (1) rfl Try.underlying60 Try.sizeOf3 rfl rfl (by omega) rfl <| lx_ldBF (.int .i64 ((b : Nat) : Int)) rfl fl3 (fun _ hs => Blk.extS hbk3 hs) rfl rfl <| lx_ix (i := b) rfl eT35 ho9.rd rfl rfl (by first | omega | (simp only [List.length_set, List.length_append, List.length_cons, List.length_nil, List.length_replicate, List.length_take, swp_length, exch_length]; omega)) <| lx_ldF (i := b) (j := 0) (.int .i64 (gt w2 b)) rfl fl3 (fun _ hs => RdE.extS ho9.rd hs) (by first | omega | (simp only [List.length_set, List.length_append, List.length_cons, List.length_nil, List.length_replicate, List.length_take, swp_length, exch_length]; omega)) rfl rfl <| lx_build (.agg #[.int .i64 (gt w2 a), .int .i64 (gt w2 b)]) [(0, .int .i64 (gt w2 a)), (1, .int .i64 (gt w2 b))] rfl rfl (fun w => bld81_2 _ _ w) <| lx_alloc rfl rfl Try.zeroValue81 (fun hs _ hx => Ext.trans2 hs hx hs.size) fun bn3 h7 hbn3 hbk4 hx5 hsz4 => ?_
        have hbb3 : h.size ≤ bn3 := by have := hx0_7.size; omega
        have hne1 : bn3 ≠ bn2 := by have := hbk3.lt; omega
        have hdj4 : Value.ownBlock v1 ≠ some bn3 := by intro e; have := (ho9.lt e).2; omega
        have hdj5 : Value.ownBlock vo ≠ some bn3 := by intro e; have := (ho10.lt e).2; omega
        have hx0_8 := hx0_7.trans2 hx5 hx0_7.size
        have ho11 := ho9.extS hx5
        have ho12 := ho10.extS hx5
        have hb3 := hbk3.extS hx5
        have hbk4 : Blk h7 bn3 #[.int .i64 0, .int .i64 0] 81 := hbk4
        refine lx_stBA (#[.int .i64 (gt w2 a), .int .i64 (gt w2 b)]) rfl rfl Try.sizeOf81 hbk4 rfl rfl rfl rfl (by simp [Value.oneCell']) (fun hs _ _ hc => Ext.trans hs (ChgB.ext hc (by omega))) fun h8 hbk5 hc3 => ?_
        have hx0_9 := hx0_8.trans (hc3.ext hbb3)
        have ho13 := hc3.owE ho11 hdj4
        have ho14 := hc3.owE ho12 hdj5
        have hb4 := hc3.blk hb3 (Ne.symm hne1)
        refine lx_nil <| wi_seq <| wi_seq <| wi_reg rfl <| lx_field (i := 0) rfl st81 (.inl rfl) rfl <| lx_ldB (.int .i64 (gt w2 a)) rfl rfl fl3 hbk5 rfl rfl <| lx_field (i := 1) rfl st81 (.inr rfl) rfl <| lx_ldB (.int .i64 (gt w2 b)) rfl rfl fl3 hbk5 rfl rfl <| lx_max (max (gt w2 a) (gt w2 b)) rfl rfl rfl (by omega) <| lx_field (i := 0) rfl st81 (.inl rfl) rfl <| lx_ldB (.int .i64 (gt w2 a)) rfl rfl fl3 hbk5 rfl rfl <| lx_field (i := 1) rfl st81 (.inr rfl) rfl <| lx_ldB (.int .i64 (gt w2 b)) rfl rfl fl3 hbk5 rfl rfl <| lx_min (min (gt w2 a) (gt w2 b)) rfl rfl rfl (by omega) <| lx_build (.agg #[.int .i64 (max (gt w2 a) (gt w2 b)), .int .i64 (min (gt w2 a) (gt w2 b))]) [(0, .int .i64 (max (gt w2 a) (gt w2 b))), (1, .int .i64 (min (gt w2 a) (gt w2 b)))] rfl rfl (fun w => bld81_2 _ _ w) <| lx_alloc rfl rfl Try.zeroValue81 (fun _ _ _ => trivial) fun bn4 h9 hbn4 hbk6 hx6 hsz5 => ?_
        have hbb4 : h.size ≤ bn4 := by have := hx0_9.size; omega
        have hne2 : bn4 ≠ bn2 := by have := hb4.lt; omega
        have hne3 : bn4 ≠ bn3 := by have := hbk5.lt; omega
        have hdj6 : Value.ownBlock v1 ≠ some bn4 := by intro e; have := (ho13.lt e).2; omega
        have hdj7 : Value.ownBlock vo ≠ some bn4 := by intro e; have := (ho14.lt e).2; omega
        have hx0_10 := hx0_9.trans2 hx6 hx0_9.size
        have ho15 := ho13.extS hx6
        have ho16 := ho14.extS hx6
        have hb5 := hb4.extS hx6
        have hb6 := hbk5.extS hx6
        have hbk6 : Blk h9 bn4 #[.int .i64 0, .int .i64 0] 81 := hbk6
        refine lx_stBA (#[.int .i64 (max (gt w2 a) (gt w2 b)), .int .i64 (min (gt w2 a) (gt w2 b))]) rfl rfl Try.sizeOf81 hbk6 rfl rfl rfl rfl (by simp [Value.oneCell']) (fun _ _ _ _ => trivial) fun h10 hbk7 hc4 => ?_
        have hx0_11 := hx0_10.trans (hc4.ext hbb4)
        have ho17 := hc4.owE ho15 hdj6
        have ho18 := hc4.owE ho16 hdj7
        have hb7 := hc4.blk hb5 (Ne.symm hne2)
        have hb8 := hc4.blk hb6 (Ne.symm hne3)
        refine lx_nil <| wi_seq <| wi_reg rfl <| lx_ldBA rfl rfl wd81 hb8 rfl rfl <| lx_ldBA rfl rfl wd81 hbk7 rfl rfl <| lx_eqlS2S rfl st81 rfl rfl (fun c4 => ?_) (fun c4 => ?_)
        · refine lx_nil <| wi_true rfl <| wi_seq <| wi_reg rfl <| lx_field (i := 1) rfl st81 (.inr rfl) rfl <| lx_ldB (.int .i64 (gt w2 b)) rfl rfl fl3 hb8 rfl rfl <| lx_field (i := 0) rfl st81 (.inl rfl) rfl <| lx_ldB (.int .i64 (gt w2 a)) rfl rfl fl3 hb8 rfl rfl <| lx_build (.agg #[.int .i64 (gt w2 b), .int .i64 (gt w2 a)]) [(0, .int .i64 (gt w2 b)), (1, .int .i64 (gt w2 a))] rfl rfl (fun w => bld81_2 _ _ w) <| lx_stBA (#[.int .i64 (gt w2 b), .int .i64 (gt w2 a)]) rfl rfl Try.sizeOf81 hb8 rfl rfl rfl rfl (by simp [Value.oneCell']) (fun _ _ _ _ => trivial) fun h11 hbk8 hc5 => ?_
          have hx0_12 := hx0_11.trans (hc5.ext hbb3)
          have ho19 := hc5.owE ho17 hdj4
          have ho20 := hc5.owE ho18 hdj5
          have hb9 := hc5.blk hb7 (Ne.symm hne1)
          have hb10 := hc5.blk hbk7 hne3
          refine lx_nil <| wi_drawS (fun h9 => Blk h9 bn2 #[.int .i64 ((a : Nat) : Int), .int .i64 ((b : Nat) : Int)] 60) (fun o => match o.dst with | some 72 | some 75 | some 78 | some 83 => .free | _ => kindOf o) mo rfl (by decide +kernel) hb9 <| lx_move (v1) rfl rfl <| lx_ixB (i := 0) (0) rfl Try.underlying60 Try.sizeOf3 rfl rfl (by omega) rfl <| lx_ldBF (.int .i64 ((a : Nat) : Int)) rfl fl3 (fun _ hs => hs) rfl rfl <| lx_move (v1) rfl rfl <| lx_ixB (i := 1) (1) rfl Try.underlying60 Try.sizeOf3 rfl rfl (by omega) rfl <| lx_ldBF (.int .i64 ((b : Nat) : Int)) rfl fl3 (fun _ hs => hs) rfl rfl <| lx_move (v1) rfl rfl <| lx_ixB (i := 1) (1) rfl Try.underlying60 Try.sizeOf3 rfl rfl (by omega) rfl <| lx_ldBF (.int .i64 ((b : Nat) : Int)) rfl fl3 (fun _ hs => hs) rfl rfl <| lx_ix (i := b) rfl eT35 ho19.rd rfl rfl (by first | omega | (simp only [List.length_set, List.length_append, List.length_cons, List.length_nil, List.length_replicate, List.length_take, swp_length, exch_length]; omega)) <| lx_ld (i := b) (j := 0) (.int .i64 (gt w2 b)) rfl rfl fl3 ho19.rd (by first | omega | (simp only [List.length_set, List.length_append, List.length_cons, List.length_nil, List.length_replicate, List.length_take, swp_length, exch_length]; omega)) rfl rfl <| lx_move (v1) rfl rfl <| lx_ixB (i := 0) (0) rfl Try.underlying60 Try.sizeOf3 rfl rfl (by omega) rfl <| lx_ldBF (.int .i64 ((a : Nat) : Int)) rfl fl3 (fun _ hs => hs) rfl rfl <| lx_ix (i := a) rfl eT35 ho19.rd rfl rfl (by first | omega | (simp only [List.length_set, List.length_append, List.length_cons, List.length_nil, List.length_replicate, List.length_take, swp_length, exch_length]; omega)) <| lx_ld (i := a) (j := 0) (.int .i64 (gt w2 a)) rfl rfl fl3 ho19.rd (by first | omega | (simp only [List.length_set, List.length_append, List.length_cons, List.length_nil, List.length_replicate, List.length_take, swp_length, exch_length]; omega)) rfl rfl <| lx_ix (i := a) rfl eT35 ho19.rd rfl rfl (by first | omega | (simp only [List.length_set, List.length_append, List.length_cons, List.length_nil, List.length_replicate, List.length_take, swp_length, exch_length]; omega)) <| lx_st (i := a) (gt w2 b) rfl rfl Try.sizeOf3 ho19 (by first | omega | (simp only [List.length_set, List.length_append, List.length_cons, List.length_nil, List.length_replicate, List.length_take, swp_length, exch_length]; omega)) rfl rfl (fun hs _ _ hc _ => Blk.chg hs hc hdj2) fun h12 ho21 hc6 hsz6 => ?_
          have hx0_13 := hx0_12.trans (ho19.ext hc6 hx0_12.size)
          have ho22 := ho20.chg hc6 (Dj.symm hdj1)
          have hb11 := hb9.chg hc6 hdj2
          have hb12 := hbk8.chg hc6 hdj4
          have hb13 := hb10.chg hc6 hdj6
          refine lx_ix (i := b) rfl eT35 ho21.rd rfl rfl (by first | omega | (simp only [List.length_set, List.length_append, List.length_cons, List.length_nil, List.length_replicate, List.length_take, swp_length, exch_length]; omega)) <| lx_st (i := b) (gt w2 a) rfl rfl Try.sizeOf3 ho21 (by first | omega | (simp only [List.length_set, List.length_append, List.length_cons, List.length_nil, List.length_replicate, List.length_take, swp_length, exch_length]; omega)) rfl rfl (fun hs _ _ hc _ => Blk.chg hs hc hdj2) fun h13 ho23 hc7 hsz7 => ?_
          have hx0_14 := hx0_13.trans (ho21.ext hc7 hx0_13.size)
          have ho24 := ho22.chg hc7 (Dj.symm hdj1)
          have hb14 := hb11.chg hc7 hdj2
          have hb15 := hb12.chg hc7 hdj4
          have hb16 := hb13.chg hc7 hdj6
          refine lx_nil <| wi_reg rfl <| lx_move (vo) rfl rfl <| lx_field (i := 0) rfl st81 (.inl rfl) rfl <| lx_ldB (.int .i64 (gt w2 b)) rfl rfl fl3 hb15 rfl rfl <| lx_field (i := 1) rfl st81 (.inr rfl) rfl <| lx_ldB (.int .i64 (gt w2 a)) rfl rfl fl3 hb15 rfl rfl <| lx_build (.agg #[.int .i64 (gt w2 b), .int .i64 (gt w2 a)]) [(0, .int .i64 (gt w2 b)), (1, .int .i64 (gt w2 a))] rfl rfl (fun w => bld60_2 _ _ w) <| lx_appendL (E := encP) (B := h.size) [(gt w2 b, gt w2 a)] [.agg #[.int .i64 (gt w2 b), .int .i64 (gt w2 a)]] rfl rfl (fun _ => rfl) rfl eT38 rfl rfl rfl rfl ho24 (fun _ => rfl) (by show out.length + 1 ≤ _; omega) (by show (out.length + 1) * 16 ≤ _; omega) hx0_14.size (fun _ _ => trivial) fun u1 v2 h14 ho25 hc8 hg1 => ?_
          have hx0_15 := hx0_14.trans (ho24.ext hc8 hx0_14.size)
          have ho26 := ho23.chg hc8 hdj1
          have hb17 := hb14.chg hc8 hdj3
          have hb18 := hb15.chg hc8 hdj5
          have hb19 := hb16.chg hc8 hdj7
          refine lx_assign (v2) rfl rfl <| lx_nil <| wi_inBlock <| wi_reg rfl <| lx_add (((k + 1 : Nat) : Int)) rfl rfl rfl (by omega) (by omega) (by omega) <| lx_move (.int .i64 ((k + 1 : Nat) : Int)) rfl rfl <| lx_nil <| ?_
          -- L2.1
          refine IH2 _ _ (k + 1, (w2.set a (gt w2 b)).set b (gt w2 a), v2, out ++ [(gt w2 b, gt w2 a)]) (agree_ups rfl agree_self) ⟨rfl, rfl, trivial⟩ ⟨?_, ?_, hx0_15, (dj_app hdj1 ho23 hg1), ?_, ?_, ?_⟩ ?_
          · first | exact ho26 | (simpa using ho26)
          · first | exact ho25 | (simpa using ho25)
          · try dsimp only
            omega
          · try dsimp only
            exact stA_yes hw hgc (by omega) (by omega) (by omega)
          · try dsimp only
            exact stO_step hw hout hgc (by omega) (by omega)
          · first | omega | (dsimp only; omega)
        · refine lx_nil <| wi_false rfl <| wi_skip <| wi_reg rfl <| lx_move (vo) rfl rfl <| lx_field (i := 0) rfl st81 (.inl rfl) rfl <| lx_ldB (.int .i64 (gt w2 a)) rfl rfl fl3 hb8 rfl rfl <| lx_field (i := 1) rfl st81 (.inr rfl) rfl <| lx_ldB (.int .i64 (gt w2 b)) rfl rfl fl3 hb8 rfl rfl <| lx_build (.agg #[.int .i64 (gt w2 a), .int .i64 (gt w2 b)]) [(0, .int .i64 (gt w2 a)), (1, .int .i64 (gt w2 b))] rfl rfl (fun w => bld60_2 _ _ w) <| lx_appendL (E := encP) (B := h.size) [(gt w2 a, gt w2 b)] [.agg #[.int .i64 (gt w2 a), .int .i64 (gt w2 b)]] rfl rfl (fun _ => rfl) rfl eT38 rfl rfl rfl rfl ho18 (fun _ => rfl) (by show out.length + 1 ≤ _; omega) (by show (out.length + 1) * 16 ≤ _; omega) hx0_11.size (fun _ _ => trivial) fun u2 v3 h15 ho27 hc9 hg2 => ?_
          have hx0_16 := hx0_11.trans (ho18.ext hc9 hx0_11.size)
          have ho28 := ho17.chg hc9 hdj1
          have hb20 := hb7.chg hc9 hdj3
          have hb21 := hb8.chg hc9 hdj5
          have hb22 := hbk7.chg hc9 hdj7
          refine lx_assign (v3) rfl rfl <| lx_nil <| wi_inBlock <| wi_reg rfl <| lx_add (((k + 1 : Nat) : Int)) rfl rfl rfl (by omega) (by omega) (by omega) <| lx_move (.int .i64 ((k + 1 : Nat) : Int)) rfl rfl <| lx_nil <| ?_
          -- L2.2
          refine IH2 _ _ (k + 1, w2, v3, out ++ [(gt w2 a, gt w2 b)]) (agree_ups rfl agree_self) ⟨rfl, rfl, trivial⟩ ⟨?_, ?_, hx0_16, (dj_app hdj1 ho17 hg2), ?_, ?_, ?_⟩ ?_
          · first | exact ho28 | (simpa using ho28)
          · first | exact ho27 | (simpa using ho27)
          · try dsimp only
            omega
          · try dsimp only
            exact stA_no hw hgc (by omega)
          · try dsimp only
            exact stO_step hw hout hgc (by omega) (by omega)
          · first | omega | (dsimp only; omega)
      · refine lx_nil <| wi_seq <| wi_false rfl <| wi_exit rfl <| wi_seq <| wi_reg rfl <| lx_move (vo) rfl rfl <| lx_move (v1) rfl rfl <| lx_assign (vo) rfl rfl <| lx_assign (v1) rfl rfl <| lx_assign (.int .i64 0) rfl rfl <| lx_nil <| ?_
        -- R2
        refine wi_ret ⟨.tuple #[vo, v1, .int .i64 0], (res_three rfl rfl rfl rfl), ⟨vo, v1, out, w2, ?_, ho6, ho5, ?_, hx0_5⟩⟩
        · first | rfl | (simp; done) | (simp; omega)
        · refine .inr ⟨hc0, ?_⟩
          rw [Int.toNat_natCast, show ls.length = k from by omega]
          exact ⟨hout, hw⟩

end Go.Proofs.Ytjfickfgpkejpaa
