/-
  Walk: TopAntichains.
-/
import Derived.Test.YtdokijbdnajhgaaOP
import Derived.Test.YtdokijbdnajhgaaOH
import Derived.Test.YtdokijbdnajhgaaXAnti
set_option linter.unusedSimpArgs false
set_option linter.unusedVariables false
namespace Go.Proofs.Ytdokijbdnajhgaa
open Go Go.X

theorem chkS_filt {n : Nat} (hn : n ≤ 10) (P : Nat → Bool) : chkS (n : Int) (filtF (2 ^ n) P) = 0 := chkS_ok (by omega) fun i hi => by
  obtain ⟨a, h1, h2, _⟩ := filtF_gt hi
  rw [Int.toNat_natCast]
  refine ⟨?_, by rw [h1]; omega⟩
  split
  · omega
  · exact gt_asc (filtF_asc _ _) (by omega) hi

set_option maxRecDepth 10000 in
theorem topAntichains_spec (h : Heap) (n : Int) (vl : Value) (ls : List (Int × Int)) (hr_vl : RdE encP h vl ls) (hp1 : ls.length ≤ 9223372036854775807) : Fx Try.prog 11 [.int .i64 n, vl] h (fun v h' => v = .bool true ∧ Ext h.size h h') := by
  refine fx_intro (n := 102) [(0, .int .i64 n), (1, vl)] Try.func11 rfl rfl (by simp) ⟨rfl, rfl, trivial⟩ fun g0 => ?_
  refine wi_seq <| wi_reg rfl <| lx_assign (.bool false) rfl rfl <| lx_nil <| wi_seq <| wi_reg rfl <| lx_move (.int .i64 n) rfl rfl <| lx_call [.int .i64 n, .int .i64 6] rfl rfl Try.call65 rfl (small_spec h n 6 (by omega)) (fun _ _ _ => trivial) ?_
  rintro _ h1 ⟨rfl, rfl⟩
  refine lx_add (((1 + (ur n % (6 + 1)) : Nat) : Int)) rfl rfl rfl (by omega) (by omega) (by omega) <| lx_assign (.int .i64 ((1 + (ur n % (6 + 1)) : Nat) : Int)) rfl rfl <| lx_nil <| wi_seq <| wi_reg rfl <| ?_
  generalize hk : 1 + (ur n % (6 + 1)) = k
  replace hk : 1 ≤ k ∧ k ≤ 7 := by have := Nat.mod_lt (ur n) (show 0 < 6 + 1 by omega); omega
  have hpw := pow10 (show k ≤ 10 by omega)
  refine lx_move (.int .i64 ((k : Nat) : Int)) rfl rfl <| lx_move (vl) rfl rfl <| lx_call [.int .i64 ((k : Nat) : Int), vl] rfl rfl Try.call66 rfl (relation_spec h k vl ls hr_vl (by omega) (by omega) (by omega)) (fun _ _ _ => trivial) ?_
  rintro vp h2 ⟨_, hsp, p, rfl, ho1, hot1, hpl, hpt, hx1⟩
  have ho2 := ho1.base (Nat.le_refl h.size)
  have hot2 := hot1.base (Nat.le_refl h.size)
  have hl_hot2 := hot2.1
  refine lx_assign (vp) rfl rfl <| lx_nil <| wi_seq <| wi_reg rfl <| ?_
  have hpq := isT_sq hpt
  have hck := ok_chkT (p := p) (by omega) (by omega) hpt
  have hsq : ∀ i, i < p.length → (gt p i).length = p.length := hpq.2
  have hle : ∀ i, i < p.length → (gt p i).length ≤ 1000000 := fun i hi => by rw [hsq i hi]; omega
  refine lx_move (vp) rfl rfl <| lx_call [vp] rfl rfl Try.call16 rfl (oideals_spec h2 vp hsp p ho2.rd hot2.rt (by omega) hle) (fun _ _ _ => trivial) ?_
  rintro _ h3 ⟨vi, xi, rfl, ho3, hid, hx2⟩
  have hx0_1 := hx1.trans2 hx2 hx1.size
  have ho4 := ho2.extS hx2
  have hot3 := hot2.extS hx2
  have ho5 := ho3.base hx1.size
  refine lx_move (.tuple #[vi, .int .i64 (chkT p)]) rfl rfl <| lx_extract (vi) rfl rfl rfl <| lx_extract (.int .i64 (chkT p)) rfl rfl rfl <| lx_assign (vi) rfl rfl <| lx_assign (.int .i64 (chkT p)) rfl rfl <| lx_nil <| wi_seq <| wi_reg rfl <| ?_
  have hxi := good_ hid hck
  rw [hpl] at hxi
  have hil := filtF_length (2 ^ k) (idlB k (pb p))
  have hil2 : xi.length ≤ 1024 := by rw [hxi]; exact Nat.le_trans hil hpw
  have hcs : chkS (k : Int) xi = 0 := by rw [hxi]; exact chkS_filt (by omega) _
  refine lx_move (.int .i64 ((k : Nat) : Int)) rfl rfl <| lx_move (vi) rfl rfl <| lx_call [.int .i64 ((k : Nat) : Int), vi] rfl rfl Try.call67 rfl (shattered_all_spec h3 k vi xi ho5.rd (by omega) (by omega)) (fun _ _ _ => trivial) ?_
  rintro _ h4 ⟨vsh, ysh, rfl, ho6, hsh, hx3⟩
  have hx0_2 := hx0_1.trans2 hx3 hx0_1.size
  have ho7 := ho4.extS hx3
  have hot4 := hot3.extS hx3
  have ho8 := ho5.extS hx3
  have ho9 := ho6.base hx0_1.size
  refine lx_move (.tuple #[vsh, .int .i64 (chkS k xi)]) rfl rfl <| lx_extract (vsh) rfl rfl rfl <| lx_extract (.int .i64 (chkS k xi)) rfl rfl rfl <| lx_assign (vsh) rfl rfl <| lx_assign (.int .i64 (chkS k xi)) rfl rfl <| lx_nil <| wi_seq <| wi_seq <| wi_reg rfl <| ?_
  have hys := good_ hsh hcs
  have hio : IsO k (pb p) := by rw [← hpl]; exact isT_o hpt
  have hys2 : ysh = filtF (2 ^ k) (alnB k (pb p)) := by rw [hys, hxi]; exact filtF_congr fun q hq => shat_anti hio hq
  have hyl : ysh.length = xi.length := by rw [hys2, hxi]; exact anti_ideals hio
  refine lx_move (.int .i64 (chkT p)) rfl rfl <| lx_neqF rfl rfl rfl (fun h9 => h9 hck) <| lx_move (.bool false) rfl rfl <| lx_move (.int .i64 (chkS k xi)) rfl rfl <| lx_neqF rfl rfl rfl (fun h9 => h9 hcs) <| lx_pick false (.bool false) rfl rfl rfl <| lx_move (.bool false) rfl rfl <| lx_move (vsh) rfl rfl <| lx_len rfl Try.underlying25 ho9.rd rfl <| lx_move (vi) rfl rfl <| lx_len rfl Try.underlying25 ho8.rd rfl <| lx_neqF rfl rfl rfl (by omega) <| lx_pick false (.bool false) rfl rfl rfl <| lx_nil <| wi_false rfl <| wi_skip <| wi_seq <| wi_reg rfl <| lx_assign (.slice none 0 0) rfl rfl <| lx_nil <| wi_seq <| wi_seq <| wi_reg rfl <| lx_assign (.int .i64 0) rfl rfl <| lx_nil <| wi_block <| ?_
  refine wi_loop (σ := Nat × Value × (List Int)) (rngB 46 96 [11, 12, 13, 14, 15]) (fun (ss : Nat × Value × (List Int)) => [(12, .int .i64 ((ss.1 : Nat) : Int)), (11, ss.2.1)]) (fun (ss : Nat × Value × (List Int)) (hh : Heap) => OwE encI hh h.size 3 ss.2.1 ss.2.2 ∧ OwE encI hh h.size 3 vsh ysh ∧ OwE encHd hh h.size 70 vp hsp ∧ OT encB hh h.size 4 hsp p ∧ Ext h.size h hh ∧ Dj ss.2.1 vsh ∧ (ss.1 ≤ 2 ^ k) ∧ (ss.2.2 = filtF ss.1 (alnB k (pb p)))) (fun (ss : Nat × Value × (List Int)) => 2 ^ k - ss.1) (0, .slice none 0 0, []) ⟨rfl, rfl, trivial⟩ ⟨?_, ?_, ?_, ?_, hx0_2, (dj_nil_l _), ?_, ?_⟩ ?_
  · first | exact (owE_nil encI _ h.size 3) | (simpa using (owE_nil encI _ h.size 3))
  · first | exact ho9 | (simpa using ho9)
  · first | exact ho7 | (simpa using ho7)
  · first | exact hot4 | (simpa using hot4)
  · try dsimp only
    exact Nat.zero_le _
  · try dsimp only
    first | done | rfl
  rintro g1 ⟨t, v, xs⟩ hh1 ⟨ho10, ho11, ho12, hot5, hx0_3, hdj1, ht, hxs⟩ IH1
  dsimp only at *
  have hxl : xs.length ≤ t := by rw [hxs]; exact filtF_length _ _
  have hl_hot5 := hot5.1
  refine wi_seq <| wi_seq <| wi_reg rfl <| lx_move (.int .i64 ((t : Nat) : Int)) rfl rfl <| lx_move (.int .i64 ((k : Nat) : Int)) rfl rfl <| lx_conv ((k : Nat) : Int) rfl Try.underlying3 Try.underlying45 rfl (wrap_u64 (by omega) (by omega)) <| lx_shl (m := 1) (n := k) rfl rfl rfl (by show _ ≤ 64; omega) (wrap_i64 (by omega) (by omega)) <| lx_lssS rfl rfl rfl (fun c1 => ?_) (fun c1 => ?_)
  · refine lx_nil <| wi_true rfl <| wi_skip <| wi_seq <| wi_block <| wi_seq <| wi_reg rfl <| lx_assign (.bool true) rfl rfl <| lx_nil <| wi_seq <| wi_seq <| wi_reg rfl <| lx_assign (.int .i64 0) rfl rfl <| lx_nil <| wi_block <| ?_
    refine wi_loop (σ := Nat × Bool) (rngB 53 91 [13, 14, 15]) (fun (ss : Nat × Bool) => [(14, .int .i64 ((ss.1 : Nat) : Int)), (13, .bool ss.2)]) (fun (ss : Nat × Bool) (hh : Heap) => hh1 = hh ∧ (ss.1 ≤ k) ∧ (ss.2 = (List.range ss.1).all fun q => alnR k (pb p) t q)) (fun (ss : Nat × Bool) => k - ss.1) (0, true) ⟨rfl, rfl, trivial⟩ ⟨rfl, ?_, ?_⟩ ?_
    · try dsimp only
      omega
    · try dsimp only
      first | done | rfl
    rintro g2 ⟨x, a⟩ hh2 ⟨rfl, hx, ha⟩ IH2
    dsimp only at *
    refine wi_seq <| wi_seq <| wi_reg rfl <| lx_move (.int .i64 ((x : Nat) : Int)) rfl rfl <| lx_move (.int .i64 ((k : Nat) : Int)) rfl rfl <| lx_lssS rfl rfl rfl (fun c2 => ?_) (fun c2 => ?_)
    · refine lx_nil <| wi_true rfl <| wi_skip <| wi_seq <| wi_block <| wi_seq <| wi_reg rfl <| lx_assign (.int .i64 0) rfl rfl <| lx_nil <| wi_block <| ?_
      refine wi_loop (σ := Nat × Bool) (rngB 58 91 [13, 15]) (fun (ss : Nat × Bool) => [(15, .int .i64 ((ss.1 : Nat) : Int)), (13, .bool ss.2)]) (fun (ss : Nat × Bool) (hh : Heap) => hh1 = hh ∧ (ss.1 ≤ k) ∧ (ss.2 = (a && (List.range ss.1).all fun q => decide (x = q) || !t.testBit x || !t.testBit q || !pb p x q))) (fun (ss : Nat × Bool) => k - ss.1) (0, a) ⟨rfl, rfl, trivial⟩ ⟨rfl, ?_, ?_⟩ ?_
      · try dsimp only
        omega
      · try dsimp only
        simp
      rintro g3 ⟨y, b⟩ hh3 ⟨rfl, hy, hb⟩ IH3
      dsimp only at *
      refine wi_seq <| wi_seq <| wi_reg rfl <| lx_move (.int .i64 ((y : Nat) : Int)) rfl rfl <| lx_move (.int .i64 ((k : Nat) : Int)) rfl rfl <| lx_lssS rfl rfl rfl (fun c3 => ?_) (fun c3 => ?_)
      · refine lx_nil <| wi_true rfl <| wi_skip <| wi_seq <| wi_block <| wi_seq <| wi_reg rfl <| ?_
        have hd1 := Nat.div_le_self t (2 ^ x)
        have hd2 := Nat.div_le_self t (2 ^ y)
        have hm1 := Nat.mod_lt (t / 2 ^ x) (show 0 < 2 by omega)
        have hm2 := Nat.mod_lt (t / 2 ^ y) (show 0 < 2 by omega)
        refine lx_move (.int .i64 ((x : Nat) : Int)) rfl rfl <| lx_move (.int .i64 ((y : Nat) : Int)) rfl rfl <| lx_neqS rfl rfl rfl (fun c4 => ?_) (fun c4 => ?_)
        · refine lx_move (.bool true) rfl rfl <| lx_move (.int .i64 ((t : Nat) : Int)) rfl rfl <| lx_move (.int .i64 ((x : Nat) : Int)) rfl rfl <| lx_conv ((x : Nat) : Int) rfl Try.underlying3 Try.underlying45 rfl (wrap_u64 (by omega) (by omega)) <| lx_shr (m := t) (n := x) rfl rfl rfl (by show _ ≤ 64; omega) <| lx_rem (m := t / 2 ^ x) (n := 2) rfl rfl rfl (by omega) <| lx_eqlS rfl rfl rfl (fun c5 => ?_) (fun c5 => ?_)
          · refine lx_pick true (.bool true) rfl rfl rfl <| lx_move (.bool true) rfl rfl <| lx_move (.int .i64 ((t : Nat) : Int)) rfl rfl <| lx_move (.int .i64 ((y : Nat) : Int)) rfl rfl <| lx_conv ((y : Nat) : Int) rfl Try.underlying3 Try.underlying45 rfl (wrap_u64 (by omega) (by omega)) <| lx_shr (m := t) (n := y) rfl rfl rfl (by show _ ≤ 64; omega) <| lx_rem (m := t / 2 ^ y) (n := 2) rfl rfl rfl (by omega) <| lx_eqlS rfl rfl rfl (fun c6 => ?_) (fun c6 => ?_)
            · refine lx_pick true (.bool true) rfl rfl rfl <| lx_move (.bool true) rfl rfl <| lx_move (vp) rfl rfl <| lx_move (.int .i64 ((x : Nat) : Int)) rfl rfl <| lx_ix (i := x) rfl eT29 ho12.rd rfl rfl (by first | omega | (simp only [List.length_set, List.length_append, List.length_cons, List.length_nil, List.length_replicate, List.length_take, swp_length, exch_length]; omega)) <| lx_ld (i := x) (j := 0) ((gt hsp x).v) rfl rfl fl70 ho12.rd (by first | omega | (simp only [List.length_set, List.length_append, List.length_cons, List.length_nil, List.length_replicate, List.length_take, swp_length, exch_length]; omega)) rfl rfl <| lx_move (.int .i64 ((y : Nat) : Int)) rfl rfl <| lx_ix (i := y) rfl eT70 (hot5.2.1 x (by first | omega | (simp only [List.length_set, List.length_append, List.length_cons, List.length_nil, List.length_replicate, List.length_take, swp_length, exch_length]; omega))).rd rfl rfl (by rw [hsq x (by first | omega | (simp only [List.length_set, List.length_append, List.length_cons, List.length_nil, List.length_replicate, List.length_take, swp_length, exch_length]; omega))]; omega) <| lx_ld (i := y) (j := 0) (.bool (gt (gt p x) y)) rfl rfl fl4 (hot5.2.1 x (by first | omega | (simp only [List.length_set, List.length_append, List.length_cons, List.length_nil, List.length_replicate, List.length_take, swp_length, exch_length]; omega))).rd (by rw [hsq x (by first | omega | (simp only [List.length_set, List.length_append, List.length_cons, List.length_nil, List.length_replicate, List.length_take, swp_length, exch_length]; omega))]; omega) rfl rfl <| lx_pick true (.bool (gt (gt p x) y)) rfl rfl rfl <| lx_nil <| wi_condS (t := gt (gt p x) y) rfl (fun c7 => ?_) (fun c7 => ?_)
              · refine wi_reg rfl <| lx_assign (.bool false) rfl rfl <| lx_nil <| wi_inBlock <| wi_reg rfl <| lx_move (.int .i64 ((y : Nat) : Int)) rfl rfl <| lx_add (((y + 1 : Nat) : Int)) rfl rfl rfl (by omega) (by omega) (by omega) <| lx_assign (.int .i64 ((y + 1 : Nat) : Int)) rfl rfl <| lx_nil <| ?_
                -- L4.1
                refine IH3 _ _ (y + 1, false) (agree_ups rfl agree_self) ⟨rfl, rfl, trivial⟩ ⟨rfl, ?_, ?_⟩ ?_
                · try dsimp only
                  omega
                · try dsimp only
                  rw [rall_succ, ← Bool.and_assoc, ← hb]
                  first
                  | (rw [decide_eq_true (show x = y by omega)]; simp; done)
                  | (rw [show t.testBit x = false from bit_no (by omega)]; simp; done)
                  | (rw [show t.testBit y = false from bit_no (by omega)]; simp; done)
                  | (rw [show pb p x y = false from by assumption]; simp; done)
                  | (rw [decide_eq_false (show ¬ x = y by omega), show t.testBit x = true from bit_mod.1 (by omega), show t.testBit y = true from bit_mod.1 (by omega), show pb p x y = true from by assumption]; simp; done)
                · first | omega | (dsimp only; omega)
              · refine wi_skip <| wi_inBlock <| wi_reg rfl <| lx_move (.int .i64 ((y : Nat) : Int)) rfl rfl <| lx_add (((y + 1 : Nat) : Int)) rfl rfl rfl (by omega) (by omega) (by omega) <| lx_assign (.int .i64 ((y + 1 : Nat) : Int)) rfl rfl <| lx_nil <| ?_
                -- L4.2
                refine IH3 _ _ (y + 1, b) (agree_ups rfl agree_self) ⟨rfl, rfl, trivial⟩ ⟨rfl, ?_, ?_⟩ ?_
                · try dsimp only
                  omega
                · try dsimp only
                  rw [rall_succ, ← Bool.and_assoc, ← hb]
                  first
                  | (rw [decide_eq_true (show x = y by omega)]; simp; done)
                  | (rw [show t.testBit x = false from bit_no (by omega)]; simp; done)
                  | (rw [show t.testBit y = false from bit_no (by omega)]; simp; done)
                  | (rw [show pb p x y = false from by assumption]; simp; done)
                  | (rw [decide_eq_false (show ¬ x = y by omega), show t.testBit x = true from bit_mod.1 (by omega), show t.testBit y = true from bit_mod.1 (by omega), show pb p x y = true from by assumption]; simp; done)
                · first | omega | (dsimp only; omega)
            · refine lx_pick true (.bool false) rfl rfl rfl <| lx_move (.bool false) rfl rfl <| lx_skip rfl <| lx_skip rfl <| lx_skip rfl <| lx_skip rfl <| lx_skip rfl <| lx_skip rfl <| lx_skip rfl <| lx_pick false (.bool false) rfl rfl rfl <| lx_nil <| wi_false rfl <| wi_skip <| wi_inBlock <| wi_reg rfl <| lx_move (.int .i64 ((y : Nat) : Int)) rfl rfl <| lx_add (((y + 1 : Nat) : Int)) rfl rfl rfl (by omega) (by omega) (by omega) <| lx_assign (.int .i64 ((y + 1 : Nat) : Int)) rfl rfl <| lx_nil <| ?_
              -- L4.3
              refine IH3 _ _ (y + 1, b) (agree_ups rfl agree_self) ⟨rfl, rfl, trivial⟩ ⟨rfl, ?_, ?_⟩ ?_
              · try dsimp only
                omega
              · try dsimp only
                rw [rall_succ, ← Bool.and_assoc, ← hb]
                first
                | (rw [decide_eq_true (show x = y by omega)]; simp; done)
                | (rw [show t.testBit x = false from bit_no (by omega)]; simp; done)
                | (rw [show t.testBit y = false from bit_no (by omega)]; simp; done)
                | (rw [show pb p x y = false from by assumption]; simp; done)
                | (rw [decide_eq_false (show ¬ x = y by omega), show t.testBit x = true from bit_mod.1 (by omega), show t.testBit y = true from bit_mod.1 (by omega), show pb p x y = true from by assumption]; simp; done)
              · first | omega | (dsimp only; omega)
          · refine lx_pick true (.bool false) rfl rfl rfl <| lx_move (.bool false) rfl rfl <| lx_skip rfl <| lx_skip rfl <| lx_skip rfl <| lx_skip rfl <| lx_skip rfl <| lx_skip rfl <| lx_pick false (.bool false) rfl rfl rfl <| lx_move (.bool false) rfl rfl <| lx_skip rfl <| lx_skip rfl <| lx_skip rfl <| lx_skip rfl <| lx_skip rfl <| lx_skip rfl <| lx_skip rfl <| lx_pick false (.bool false) rfl rfl rfl <| lx_nil <| wi_false rfl <| wi_skip <| wi_inBlock <| wi_reg rfl <| lx_move (.int .i64 ((y : Nat) : Int)) rfl rfl <| lx_add (((y + 1 : Nat) : Int)) rfl rfl rfl (by omega) (by omega) (by omega) <| lx_assign (.int .i64 ((y + 1 : Nat) : Int)) rfl rfl <| lx_nil <| ?_
            -- L4.4
            refine IH3 _ _ (y + 1, b) (agree_ups rfl agree_self) ⟨rfl, rfl, trivial⟩ ⟨rfl, ?_, ?_⟩ ?_
            · try dsimp only
              omega
            · try dsimp only
              rw [rall_succ, ← Bool.and_assoc, ← hb]
              first
              | (rw [decide_eq_true (show x = y by omega)]; simp; done)
              | (rw [show t.testBit x = false from bit_no (by omega)]; simp; done)
              | (rw [show t.testBit y = false from bit_no (by omega)]; simp; done)
              | (rw [show pb p x y = false from by assumption]; simp; done)
              | (rw [decide_eq_false (show ¬ x = y by omega), show t.testBit x = true from bit_mod.1 (by omega), show t.testBit y = true from bit_mod.1 (by omega), show pb p x y = true from by assumption]; simp; done)
            · first | omega | (dsimp only; omega)
        · refine lx_move (.bool false) rfl rfl <| lx_skip rfl <| lx_skip rfl <| lx_skip rfl <| lx_skip rfl <| lx_skip rfl <| lx_skip rfl <| lx_pick false (.bool false) rfl rfl rfl <| lx_move (.bool false) rfl rfl <| lx_skip rfl <| lx_skip rfl <| lx_skip rfl <| lx_skip rfl <| lx_skip rfl <| lx_skip rfl <| lx_pick false (.bool false) rfl rfl rfl <| lx_move (.bool false) rfl rfl <| lx_skip rfl <| lx_skip rfl <| lx_skip rfl <| lx_skip rfl <| lx_skip rfl <| lx_skip rfl <| lx_skip rfl <| lx_pick false (.bool false) rfl rfl rfl <| lx_nil <| wi_false rfl <| wi_skip <| wi_inBlock <| wi_reg rfl <| lx_move (.int .i64 ((y : Nat) : Int)) rfl rfl <| lx_add (((y + 1 : Nat) : Int)) rfl rfl rfl (by omega) (by omega) (by omega) <| lx_assign (.int .i64 ((y + 1 : Nat) : Int)) rfl rfl <| lx_nil <| ?_
          -- L4.5
          refine IH3 _ _ (y + 1, b) (agree_ups rfl agree_self) ⟨rfl, rfl, trivial⟩ ⟨rfl, ?_, ?_⟩ ?_
          · try dsimp only
            omega
          · try dsimp only
            rw [rall_succ, ← Bool.and_assoc, ← hb]
            first
            | (rw [decide_eq_true (show x = y by omega)]; simp; done)
            | (rw [show t.testBit x = false from bit_no (by omega)]; simp; done)
            | (rw [show t.testBit y = false from bit_no (by omega)]; simp; done)
            | (rw [show pb p x y = false from by assumption]; simp; done)
            | (rw [decide_eq_false (show ¬ x = y by omega), show t.testBit x = true from bit_mod.1 (by omega), show t.testBit y = true from bit_mod.1 (by omega), show pb p x y = true from by assumption]; simp; done)
          · first | omega | (dsimp only; omega)
      · refine lx_nil <| wi_false rfl <| wi_exit rfl <| wi_inBlock <| wi_reg rfl <| lx_move (.int .i64 ((x : Nat) : Int)) rfl rfl <| lx_add (((x + 1 : Nat) : Int)) rfl rfl rfl (by omega) (by omega) (by omega) <| lx_assign (.int .i64 ((x + 1 : Nat) : Int)) rfl rfl <| lx_nil <| ?_
        -- L2.1
        refine IH2 _ _ (x + 1, b) (agree_ups rfl (agree_mix (rngB_sub (by decide) (by decide) rfl) (agree_ups rfl agree_self))) ⟨rfl, rfl, trivial⟩ ⟨rfl, ?_, ?_⟩ ?_
        · try dsimp only
          omega
        · try dsimp only
          rw [rall_succ, ← ha, hb, show y = k from by omega]; rfl
        · first | omega | (dsimp only; omega)
    · refine lx_nil <| wi_false rfl <| wi_exit rfl <| wi_seq <| wi_reg rfl <| lx_move (.bool a) rfl rfl <| lx_nil <| wi_condS (t := a) rfl (fun c8 => ?_) (fun c8 => ?_)
      · refine wi_reg rfl <| lx_move (v) rfl rfl <| lx_move (.int .i64 ((t : Nat) : Int)) rfl rfl <| lx_appendL (E := encI) (B := h.size) [((t : Nat) : Int)] [.int .i64 ((t : Nat) : Int)] rfl rfl (fun _ => rfl) rfl eT25 rfl rfl rfl rfl ho10 (fun _ => rfl) (by show xs.length + 1 ≤ _; omega) (by show (xs.length + 1) * 8 ≤ _; omega) hx0_3.size (fun _ _ => trivial) fun u1 v1 h5 ho13 hc1 hg1 => ?_
        have hx0_4 := hx0_3.trans (ho10.ext hc1 hx0_3.size)
        have ho14 := ho12.chg hc1 (dj_ty ho12 ho10 (by decide))
        have ho15 := ho11.chg hc1 (Dj.symm hdj1)
        have hot6 := hot5.chg hc1 (djt_ty hot5 ho10 (by decide))
        refine lx_assign (v1) rfl rfl <| lx_nil <| wi_inBlock <| wi_reg rfl <| lx_move (.int .i64 ((t : Nat) : Int)) rfl rfl <| lx_add (((t + 1 : Nat) : Int)) rfl rfl rfl (by omega) (by omega) (by omega) <| lx_assign (.int .i64 ((t + 1 : Nat) : Int)) rfl rfl <| lx_nil <| ?_
        -- L0.1
        refine IH1 _ _ (t + 1, v1, xs ++ [((t : Nat) : Int)]) (agree_ups rfl (agree_mix (rngB_sub (by decide) (by decide) rfl) (agree_ups rfl agree_self))) ⟨rfl, rfl, trivial⟩ ⟨?_, ?_, ?_, ?_, hx0_4, (Dj.symm (dj_app (Dj.symm hdj1) ho11 hg1)), ?_, ?_⟩ ?_
        · first | exact ho13 | (simpa using ho13)
        · first | exact ho15 | (simpa using ho15)
        · first | exact ho14 | (simpa using ho14)
        · first | exact hot6 | (simpa using hot6)
        · try dsimp only
          omega
        · try dsimp only
          rw [hxs]
          have hid2 : a = alnB k (pb p) t := by rw [ha, show x = k from by omega]; rfl
          first
          | exact filtF_yes (by rw [← hid2]; assumption)
          | exact filtF_no (by rw [← hid2]; assumption)
        · first | omega | (dsimp only; omega)
      · refine wi_skip <| wi_inBlock <| wi_reg rfl <| lx_move (.int .i64 ((t : Nat) : Int)) rfl rfl <| lx_add (((t + 1 : Nat) : Int)) rfl rfl rfl (by omega) (by omega) (by omega) <| lx_assign (.int .i64 ((t + 1 : Nat) : Int)) rfl rfl <| lx_nil <| ?_
        -- L0.2
        refine IH1 _ _ (t + 1, v, xs) (agree_ups rfl (agree_mix (rngB_sub (by decide) (by decide) rfl) (agree_ups rfl agree_self))) ⟨rfl, rfl, trivial⟩ ⟨?_, ?_, ?_, ?_, hx0_3, hdj1, ?_, ?_⟩ ?_
        · first | exact ho10 | (simpa using ho10)
        · first | exact ho11 | (simpa using ho11)
        · first | exact ho12 | (simpa using ho12)
        · first | exact hot5 | (simpa using hot5)
        · try dsimp only
          omega
        · try dsimp only
          rw [hxs]
          have hid2 : a = alnB k (pb p) t := by rw [ha, show x = k from by omega]; rfl
          first
          | exact filtF_yes (by rw [← hid2]; assumption)
          | exact filtF_no (by rw [← hid2]; assumption)
        · first | omega | (dsimp only; omega)
  · refine lx_nil <| wi_false rfl <| wi_exit rfl <| wi_seq <| wi_reg rfl <| ?_
    have hwx : ysh = xs := by rw [hys2, hxs, show t = 2 ^ k from by omega]
    refine lx_move (vsh) rfl rfl <| lx_move (v) rfl rfl <| lx_call [vsh, v] rfl rfl Try.call68 rfl (same_spec hh1 vsh ysh v xs ho11.rd ho10.rd (by omega) (by omega)) (fun _ _ _ => trivial) ?_
    rintro _ h6 ⟨rfl, rfl⟩
    rw [decide_eq_true hwx]
    refine lx_move (.bool true) rfl rfl <| lx_call [] rfl rfl Try.call69 rfl (ten_spec hh1 ) (fun _ _ _ => trivial) ?_
    rintro _ h7 ⟨rfl, hx4⟩
    have hx0_5 := hx0_3.trans2 hx4 hx0_3.size
    have ho16 := ho12.extS hx4
    have hot7 := hot5.extS hx4
    have ho17 := ho11.extS hx4
    have ho18 := ho10.extS hx4
    refine lx_pick true (.bool true) rfl rfl rfl <| lx_assign (.bool true) rfl rfl <| lx_nil <| ?_
    -- R1
    refine wi_ret ⟨.bool true, (res_one rfl rfl), ⟨rfl, hx0_5⟩⟩

end Go.Proofs.Ytdokijbdnajhgaa
