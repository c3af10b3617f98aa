/-
  Walks: orders of pairs.
-/
import Derived.Test.YtdokijbdnajhgaaOG
import Derived.Test.YtdokijbdnajhgaaOC
set_option linter.unusedSimpArgs false
set_option linter.unusedVariables false
namespace Go.Proofs.Ytdokijbdnajhgaa
open Go Go.X

set_option maxRecDepth 10000 in
theorem relation_spec (h : Heap) (n : Nat) (vl : Value) (ls : List (Int × Int)) (hr_vl : RdE encP h vl ls) (hp1 : 1 ≤ n) (hp2 : n ≤ 12) (hp3 : ls.length ≤ 9223372036854775807) : Fx Try.prog 66 [.int .i64 ((n : Nat) : Int), vl] h (fun v h' => ∃ (s : Value) (hs : List Hdr) (p : List (List Bool)), v = s ∧ OwE encHd h' h.size 70 s hs ∧ OT encB h' h.size 4 hs p ∧ (p.length = n) ∧ (isT p = true) ∧ Ext h.size h h') := by
  refine fx_intro (n := 57) [(0, .int .i64 ((n : Nat) : Int)), (1, vl)] Try.func66 rfl rfl (by simp) ⟨rfl, rfl, trivial⟩ fun g0 => ?_
  refine wi_seq <| wi_reg rfl <| lx_assign (.slice none 0 0) rfl rfl <| lx_nil <| wi_seq <| wi_reg rfl <| lx_assign (.slice none 0 0) rfl rfl <| lx_nil <| wi_seq <| wi_seq <| wi_reg rfl <| lx_assign (.int .i64 0) rfl rfl <| lx_nil <| wi_block <| ?_
  refine wi_loop (σ := Nat × Value × (List (Int × Int))) (rngB 11 50 [5, 6, 7, 8]) (fun (ss : Nat × Value × (List (Int × Int))) => [(6, .int .i64 ((ss.1 : Nat) : Int)), (5, ss.2.1)]) (fun (ss : Nat × Value × (List (Int × Int))) (hh : Heap) => OwE encP hh h.size 85 ss.2.1 ss.2.2 ∧ Ext h.size h hh ∧ (ss.1 ≤ ls.length) ∧ (ss.1 ≤ 15) ∧ (ss.2.2 = relL n ls ss.1)) (fun (ss : Nat × Value × (List (Int × Int))) => ls.length - ss.1) (0, .slice none 0 0, []) ⟨rfl, rfl, trivial⟩ ⟨?_, (Ext.refl _ _), ?_, ?_, ?_⟩ ?_
  · first | exact (owE_nil encP _ h.size 85) | (simpa using (owE_nil encP _ h.size 85))
  · try dsimp only
    omega
  · try dsimp only
    omega
  · try dsimp only
    first | done | rfl
  rintro g1 ⟨i, v, xs⟩ hh1 ⟨ho1, hx0_1, hi, hi2, hxs⟩ IH1
  dsimp only at *
  have hxl := relL_len (n := n) (show i ≤ ls.length by omega)
  rw [← hxs] at hxl
  refine wi_seq <| wi_seq <| wi_reg rfl <| lx_move (.int .i64 ((i : Nat) : Int)) rfl rfl <| lx_move (vl) rfl rfl <| lx_len rfl Try.underlying22 hr_vl rfl <| lx_lssS rfl rfl rfl (fun c1 => ?_) (fun c1 => ?_)
  · refine lx_move (.bool true) rfl rfl <| lx_move (.int .i64 ((i : Nat) : Int)) rfl rfl <| lx_lssS rfl rfl rfl (fun c2 => ?_) (fun c2 => ?_)
    · refine lx_pick true (.bool true) rfl rfl rfl <| lx_nil <| wi_true rfl <| wi_skip <| wi_seq <| wi_block <| wi_seq <| wi_drawS (fun h9 => hh1 = h9) (fun o => match o.dst with | some 25 | some 33 => .free | _ => kindOf o) mo rfl (by decide +kernel) rfl <| ?_
      have hma := Nat.mod_lt (ur (gt ls i).1) (show 0 < n - 1 + 1 by omega)
      have hmb := Nat.mod_lt (ur (gt ls i).2) (show 0 < n - 1 + 1 by omega)
      have hne : n - 1 + 1 = n := by omega
      rw [hne] at hma hmb
      refine lx_move (vl) rfl rfl <| lx_move (.int .i64 ((i : Nat) : Int)) rfl rfl <| lx_ix (i := i) rfl eT22 hr_vl rfl rfl (by first | omega | (simp only [List.length_set, List.length_append, List.length_cons, List.length_nil, List.length_replicate, List.length_take, swp_length, exch_length]; omega)) <| lx_ixP (i := i) (c := 0) rfl Try.underlying85 Try.sizeOf3 hr_vl (by first | omega | (simp only [List.length_set, List.length_append, List.length_cons, List.length_nil, List.length_replicate, List.length_take, swp_length, exch_length]; omega)) rfl rfl (by decide) <| lx_ldF (i := i) (j := 0) (.int .i64 ((gt ls i).1)) rfl fl3 (fun _ e9 => e9 ▸ (hr_vl.extS hx0_1)) (by first | omega | (simp only [List.length_set, List.length_append, List.length_cons, List.length_nil, List.length_replicate, List.length_take, swp_length, exch_length]; omega)) rfl rfl <| lx_move (.int .i64 ((n : Nat) : Int)) rfl rfl <| lx_sub (((n - 1 : Nat) : Int)) rfl rfl rfl (by omega) (by omega) (by omega) <| lx_call [.int .i64 ((gt ls i).1), .int .i64 ((n - 1 : Nat) : Int)] rfl rfl Try.call65 rfl (small_spec hh1 ((gt ls i).1) (n - 1) (by omega)) (by rintro _ _ ⟨_, e⟩; exact e) ?_
      rintro _ h1 ⟨rfl, rfl⟩
      rw [hne]
      refine lx_move (vl) rfl rfl <| lx_move (.int .i64 ((i : Nat) : Int)) rfl rfl <| lx_ix (i := i) rfl eT22 hr_vl rfl rfl (by first | omega | (simp only [List.length_set, List.length_append, List.length_cons, List.length_nil, List.length_replicate, List.length_take, swp_length, exch_length]; omega)) <| lx_ixP (i := i) (c := 1) rfl Try.underlying85 Try.sizeOf3 hr_vl (by first | omega | (simp only [List.length_set, List.length_append, List.length_cons, List.length_nil, List.length_replicate, List.length_take, swp_length, exch_length]; omega)) rfl rfl (by decide) <| lx_ldF (i := i) (j := 1) (.int .i64 ((gt ls i).2)) rfl fl3 (fun _ e9 => e9 ▸ (hr_vl.extS hx0_1)) (by first | omega | (simp only [List.length_set, List.length_append, List.length_cons, List.length_nil, List.length_replicate, List.length_take, swp_length, exch_length]; omega)) rfl rfl <| lx_move (.int .i64 ((n : Nat) : Int)) rfl rfl <| lx_sub (((n - 1 : Nat) : Int)) rfl rfl rfl (by omega) (by omega) (by omega) <| lx_call [.int .i64 ((gt ls i).2), .int .i64 ((n - 1 : Nat) : Int)] rfl rfl Try.call65 rfl (small_spec hh1 ((gt ls i).2) (n - 1) (by omega)) (by rintro _ _ ⟨_, e⟩; exact e) ?_
      rintro _ h2 ⟨rfl, rfl⟩
      rw [hne]
      refine lx_assign (.int .i64 ((ur (gt ls i).1 % n : Nat) : Int)) rfl rfl <| lx_assign (.int .i64 ((ur (gt ls i).2 % n : Nat) : Int)) rfl rfl <| lx_nil <| wi_seq <| wi_reg rfl <| lx_move (.int .i64 ((ur (gt ls i).1 % n : Nat) : Int)) rfl rfl <| lx_move (.int .i64 ((ur (gt ls i).2 % n : Nat) : Int)) rfl rfl <| lx_neqS rfl rfl rfl (fun c3 => ?_) (fun c3 => ?_)
      · refine lx_nil <| wi_true rfl <| wi_reg rfl <| lx_move (v) rfl rfl <| lx_move (.int .i64 ((ur (gt ls i).1 % n : Nat) : Int)) rfl rfl <| lx_move (.int .i64 ((ur (gt ls i).2 % n : Nat) : Int)) rfl rfl <| lx_min (((min (ur (gt ls i).1 % n) (ur (gt ls i).2 % n) : Nat) : Int)) rfl rfl rfl (by omega) <| lx_move (.int .i64 ((ur (gt ls i).1 % n : Nat) : Int)) rfl rfl <| lx_move (.int .i64 ((ur (gt ls i).2 % n : Nat) : Int)) rfl rfl <| lx_max (((max (ur (gt ls i).1 % n) (ur (gt ls i).2 % n) : Nat) : Int)) rfl rfl rfl (by omega) <| lx_build (.agg #[.int .i64 ((min (ur (gt ls i).1 % n) (ur (gt ls i).2 % n) : Nat) : Int), .int .i64 ((max (ur (gt ls i).1 % n) (ur (gt ls i).2 % n) : Nat) : Int)]) [(0, .int .i64 ((min (ur (gt ls i).1 % n) (ur (gt ls i).2 % n) : Nat) : Int)), (1, .int .i64 ((max (ur (gt ls i).1 % n) (ur (gt ls i).2 % n) : Nat) : Int))] rfl rfl (fun w => bld85_2 _ _ w) <| lx_appendL (E := encP) (B := h.size) [(((min (ur (gt ls i).1 % n) (ur (gt ls i).2 % n) : Nat) : Int), ((max (ur (gt ls i).1 % n) (ur (gt ls i).2 % n) : Nat) : Int))] [.agg #[.int .i64 ((min (ur (gt ls i).1 % n) (ur (gt ls i).2 % n) : Nat) : Int), .int .i64 ((max (ur (gt ls i).1 % n) (ur (gt ls i).2 % n) : Nat) : Int)]] rfl rfl (fun _ => rfl) rfl eT22 rfl rfl rfl rfl ho1 (fun _ => rfl) (by show xs.length + 1 ≤ _; omega) (by show (xs.length + 1) * 16 ≤ _; omega) hx0_1.size (fun _ _ => trivial) fun u1 v1 h3 ho2 hc1 hg1 => ?_
        have hx0_2 := hx0_1.trans (ho1.ext hc1 hx0_1.size)
        refine lx_assign (v1) rfl rfl <| lx_nil <| wi_inBlock <| wi_reg rfl <| lx_move (.int .i64 ((i : Nat) : Int)) rfl rfl <| lx_add (((i + 1 : Nat) : Int)) rfl rfl rfl (by omega) (by omega) (by omega) <| lx_assign (.int .i64 ((i + 1 : Nat) : Int)) rfl rfl <| lx_nil <| ?_
        -- L0.1
        refine IH1 _ _ (i + 1, v1, xs ++ [(((min (ur (gt ls i).1 % n) (ur (gt ls i).2 % n) : Nat) : Int), ((max (ur (gt ls i).1 % n) (ur (gt ls i).2 % n) : Nat) : Int))]) (agree_ups rfl agree_self) ⟨rfl, rfl, trivial⟩ ⟨?_, hx0_2, ?_, ?_, ?_⟩ ?_
        · first | exact ho2 | (simpa using ho2)
        · try dsimp only
          omega
        · try dsimp only
          omega
        · try dsimp only
          rw [relL_succ (by omega), relC, if_pos (by omega), hxs]
        · first | omega | (dsimp only; omega)
      · refine lx_nil <| wi_false rfl <| wi_skip <| wi_inBlock <| wi_reg rfl <| lx_move (.int .i64 ((i : Nat) : Int)) rfl rfl <| lx_add (((i + 1 : Nat) : Int)) rfl rfl rfl (by omega) (by omega) (by omega) <| lx_assign (.int .i64 ((i + 1 : Nat) : Int)) rfl rfl <| lx_nil <| ?_
        -- L0.2
        refine IH1 _ _ (i + 1, v, xs) (agree_ups rfl agree_self) ⟨rfl, rfl, trivial⟩ ⟨?_, hx0_1, ?_, ?_, ?_⟩ ?_
        · first | exact ho1 | (simpa using ho1)
        · try dsimp only
          omega
        · try dsimp only
          omega
        · try dsimp only
          rw [relL_succ (by omega), relC, if_neg (by omega), hxs, List.append_nil]
        · first | omega | (dsimp only; omega)
    · refine lx_pick true (.bool false) rfl rfl rfl <| lx_nil <| wi_false rfl <| wi_exit rfl <| wi_seq <| wi_reg rfl <| ?_
      have hll := relL_len (n := n) (show i ≤ ls.length by omega)
      rw [← hxs] at hll
      have hup := up_closE hp1 hp2 (ls := xs) (fun d hd => relL_ok hp1 (by rw [hxs] at hd; exact hd))
      refine lx_move (.int .i64 ((n : Nat) : Int)) rfl rfl <| lx_move (v) rfl rfl <| lx_call [.int .i64 ((n : Nat) : Int), v] rfl rfl Try.call63 rfl (oclosure_spec hh1 (((n : Nat) : Int)) v xs ho1.rd (by omega)) (fun _ _ _ => trivial) ?_
      rintro _ h4 ⟨vp, hsp, p, rfl, ho3, hot1, hcl, hx1⟩
      have hx0_3 := hx0_1.trans2 hx1 hx0_1.size
      have ho4 := ho1.extS hx1
      have ho5 := ho3.base hx0_1.size
      have hot2 := hot1.base hx0_1.size
      have hl_hot2 := hot2.1
      refine lx_move (.tuple #[vp, .int .i64 (closE (((n : Nat) : Int)) xs)]) rfl rfl <| lx_extract (vp) rfl rfl rfl <| lx_extract (.int .i64 (closE (((n : Nat) : Int)) xs)) rfl rfl rfl <| lx_assign (vp) rfl rfl <| lx_assign (.int .i64 (closE (((n : Nat) : Int)) xs)) rfl rfl <| lx_nil <| wi_seq <| wi_reg rfl <| lx_move (vp) rfl rfl <| lx_assign (vp) rfl rfl <| lx_nil <| ?_
      -- R1
      refine wi_ret ⟨vp, (res_one rfl rfl), ⟨vp, hsp, p, rfl, ?_, ?_, ?_, ?_, hx0_3⟩⟩
      · exact ho5
      · exact hot2
      · obtain ⟨h8, h9⟩ | ⟨h8, h9⟩ := hcl
        · omega
        · rw [h9, tabF_length]; omega
      · obtain ⟨h8, h9⟩ | ⟨h8, h9⟩ := hcl
        · omega
        · rw [h9, Int.toNat_natCast]; exact isT_tabF (up_order (n := n) fun d hd => relL_ok hp1 (by rw [hxs] at hd; exact hd))
  · refine lx_move (.bool false) rfl rfl <| lx_skip rfl <| lx_skip rfl <| lx_pick false (.bool false) rfl rfl rfl <| lx_nil <| wi_false rfl <| wi_exit rfl <| wi_seq <| wi_reg rfl <| ?_
    have hll := relL_len (n := n) (show i ≤ ls.length by omega)
    rw [← hxs] at hll
    have hup := up_closE hp1 hp2 (ls := xs) (fun d hd => relL_ok hp1 (by rw [hxs] at hd; exact hd))
    refine lx_move (.int .i64 ((n : Nat) : Int)) rfl rfl <| lx_move (v) rfl rfl <| lx_call [.int .i64 ((n : Nat) : Int), v] rfl rfl Try.call63 rfl (oclosure_spec hh1 (((n : Nat) : Int)) v xs ho1.rd (by omega)) (fun _ _ _ => trivial) ?_
    rintro _ h5 ⟨vp, hsp, p, rfl, ho6, hot3, hcl, hx2⟩
    have hx0_4 := hx0_1.trans2 hx2 hx0_1.size
    have ho7 := ho1.extS hx2
    have ho8 := ho6.base hx0_1.size
    have hot4 := hot3.base hx0_1.size
    have hl_hot4 := hot4.1
    refine lx_move (.tuple #[vp, .int .i64 (closE (((n : Nat) : Int)) xs)]) rfl rfl <| lx_extract (vp) rfl rfl rfl <| lx_extract (.int .i64 (closE (((n : Nat) : Int)) xs)) rfl rfl rfl <| lx_assign (vp) rfl rfl <| lx_assign (.int .i64 (closE (((n : Nat) : Int)) xs)) rfl rfl <| lx_nil <| wi_seq <| wi_reg rfl <| lx_move (vp) rfl rfl <| lx_assign (vp) rfl rfl <| lx_nil <| ?_
    -- R2
    refine wi_ret ⟨vp, (res_one rfl rfl), ⟨vp, hsp, p, rfl, ?_, ?_, ?_, ?_, hx0_4⟩⟩
    · exact ho8
    · exact hot4
    · obtain ⟨h8, h9⟩ | ⟨h8, h9⟩ := hcl
      · omega
      · rw [h9, tabF_length]; omega
    · obtain ⟨h8, h9⟩ | ⟨h8, h9⟩ := hcl
      · omega
      · rw [h9, Int.toNat_natCast]; exact isT_tabF (up_order (n := n) fun d hd => relL_ok hp1 (by rw [hxs] at hd; exact hd))

end Go.Proofs.Ytdokijbdnajhgaa
