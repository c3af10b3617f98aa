/-
  Texts in one: OA, OB, XNet, XLoose, XRunV.
-/
import Derived.Test.YtdokijbdnajhgaaMCompl2
set_option linter.unusedSimpArgs false
set_option linter.unusedVariables false
namespace Go.Proofs.Ytdokijbdnajhgaa
open Go Go.X

set_option maxRecDepth 10000 in
theorem ochk1_spec (h : Heap) (vr : Value) (xs : List Bool) (vp : Value) (hs : List Hdr) (p : List (List Bool)) (bx : Nat) (hb_bx : Blk h bx (#[vp]) 29) (hr_vp : RdE encHd h vp hs) (ht_vp : RT encB h hs p) (hr_vr : RdE encB h vr xs) (hp1 : xs.length ≤ 4611686018427387904) : Fx Try.prog 114 [vr, .pointer (some ⟨bx, 0, none⟩)] h (fun v h' => v = .bool (decide (((xs.length : Nat) : Int) ≠ ((hs.length : Nat) : Int))) ∧ h = h') := by
  have hl_vp := ht_vp.1
  refine fx_intro (n := 9) [(0, vr), (1, .pointer (some ⟨bx, 0, none⟩))] Try.func114 rfl rfl (by simp) ⟨rfl, rfl, trivial⟩ fun g0 => ?_
  refine wi_seq <| wi_reg rfl <| lx_assign (.bool false) rfl rfl <| lx_nil <| wi_seq <| wi_reg rfl <| lx_move (vr) rfl rfl <| lx_len rfl Try.underlying70 hr_vr rfl <| lx_ldB (vp) rfl rfl fl29 hb_bx rfl rfl <| lx_len rfl Try.underlying29 hr_vp rfl <| lx_neq rfl rfl rfl <| lx_assign (.bool (decide (((xs.length : Nat) : Int) ≠ ((hs.length : Nat) : Int)))) rfl rfl <| lx_nil <| ?_
  -- R1
  refine wi_ret ⟨.bool (decide (((xs.length : Nat) : Int) ≠ ((hs.length : Nat) : Int))), (res_one rfl rfl), ⟨rfl, rfl⟩⟩

set_option maxRecDepth 10000 in
theorem oindex_spec (h : Heap) (vp : Value) (hs : List Hdr) (p : List (List Bool)) (bx : Nat) (hb_bx : Blk h bx (#[vp]) 29) (hr_vp : RdE encHd h vp hs) (ht_vp : RT encB h hs p) (hp1 : p.length ≤ 1000000) (hp2 : ∀ i, i < p.length → (gt p i).length ≤ 1000000) : Fx Try.prog 146 [vp, .func (.func 114) #[] #[.pointer (some ⟨bx, 0, none⟩)]] h (fun v h' => ∃ (r : Int), v = .int .i64 r ∧ ((r = -1 ∧ ∀ i, i < p.length → (gt p i).length = p.length) ∨ (0 ≤ r ∧ ∃ i, i < p.length ∧ (gt p i).length ≠ p.length)) ∧ h = h') := by
  have hl_vp := ht_vp.1
  refine fx_intro (n := 19) [(0, vp), (1, .func (.func 114) #[] #[.pointer (some ⟨bx, 0, none⟩)])] Try.func146 rfl rfl (by simp) ⟨rfl, rfl, trivial⟩ fun g0 => ?_
  refine wi_seq <| wi_reg rfl <| lx_assign (.int .i64 0) rfl rfl <| lx_nil <| wi_seq <| wi_seq <| wi_reg rfl <| lx_move (vp) rfl rfl <| lx_len rfl Try.underlying29 hr_vp rfl <| lx_move (.int .i64 0) rfl rfl <| lx_nil <| wi_block <| ?_
  refine wi_loop (σ := Nat) (rngB 8 19 [4, 5]) (fun (i : Nat) => [(8, .int .i64 ((i : Nat) : Int))]) (fun (i : Nat) (hh : Heap) => h = hh ∧ (i ≤ p.length) ∧ (∀ j, j < i → (gt p j).length = p.length)) (fun (i : Nat) => p.length - i) 0 ⟨rfl, trivial⟩ ⟨rfl, ?_, ?_⟩ ?_
  · try dsimp only
    omega
  · try dsimp only
    intro j hj; omega
  rintro g1 i hh1 ⟨rfl, hi, he⟩ IH1
  refine wi_seq <| wi_reg rfl <| lx_lssS rfl rfl rfl (fun c1 => ?_) (fun c1 => ?_)
  · refine lx_nil <| wi_seq <| wi_true rfl <| wi_skip <| wi_seq <| wi_block <| wi_seq <| wi_reg rfl <| lx_move (.int .i64 ((i : Nat) : Int)) rfl rfl <| lx_assign (.int .i64 ((i : Nat) : Int)) rfl rfl <| lx_nil <| wi_seq <| wi_reg rfl <| ?_
    have hgl := hp2 i (by omega)
    refine lx_move (.func (.func 114) #[] #[.pointer (some ⟨bx, 0, none⟩)]) rfl rfl <| lx_move (vp) rfl rfl <| lx_move (.int .i64 ((i : Nat) : Int)) rfl rfl <| lx_ix (i := i) rfl eT29 hr_vp rfl rfl (by first | omega | (simp only [List.length_set, List.length_append, List.length_cons, List.length_nil, List.length_replicate, List.length_take, swp_length, exch_length]; omega)) <| lx_ld (i := i) (j := 0) ((gt hs i).v) rfl rfl fl70 hr_vp (by first | omega | (simp only [List.length_set, List.length_append, List.length_cons, List.length_nil, List.length_replicate, List.length_take, swp_length, exch_length]; omega)) rfl rfl <| lx_callV [] [.pointer (some ⟨bx, 0, none⟩)] [(gt hs i).v] rfl rfl Try.call114 rfl rfl (ochk1_spec h ((gt hs i).v) (gt p i) vp hs p bx hb_bx hr_vp ht_vp (ht_vp.2 i (by first | omega | (simp only [List.length_set, List.length_append, List.length_cons, List.length_nil, List.length_replicate, List.length_take, swp_length, exch_length]; omega))) (by omega)) (fun _ _ _ => trivial) ?_
    rintro _ h1 ⟨rfl, rfl⟩
    refine lx_nil <| wi_condS (t := decide ((((gt p i).length : Nat) : Int) ≠ ((hs.length : Nat) : Int))) rfl (fun c2 => ?_) (fun c2 => ?_)
    · refine wi_seq <| wi_reg rfl <| lx_move (.int .i64 ((i : Nat) : Int)) rfl rfl <| lx_assign (.int .i64 ((i : Nat) : Int)) rfl rfl <| lx_nil <| ?_
      -- R1
      refine wi_ret ⟨.int .i64 ((i : Nat) : Int), (res_one rfl rfl), ⟨((i : Nat) : Int), ?_, ?_, rfl⟩⟩
      · first | rfl | (simp; done) | (simp; omega)
      · refine .inr ⟨by omega, i, by omega, ?_⟩
        have h9 := of_decide_eq_true c2; omega
    · refine wi_skip <| wi_inBlock <| wi_reg rfl <| lx_add (((i + 1 : Nat) : Int)) rfl rfl rfl (by omega) (by omega) (by omega) <| lx_move (.int .i64 ((i + 1 : Nat) : Int)) rfl rfl <| lx_nil <| ?_
      -- L0.1
      refine IH1 _ _ (i + 1) (agree_ups rfl agree_self) ⟨rfl, trivial⟩ ⟨rfl, ?_, ?_⟩ ?_
      · try dsimp only
        omega
      · try dsimp only
        intro j hj; by_cases e : j = i
        · subst e; have h9 := of_decide_eq_false c2; omega
        · exact he j (by omega)
      · first | omega | (dsimp only; omega)
  · refine lx_nil <| wi_seq <| wi_false rfl <| wi_exit rfl <| wi_seq <| wi_reg rfl <| lx_assign (.int .i64 (-1)) rfl rfl <| lx_nil <| ?_
    -- R2
    refine wi_ret ⟨.int .i64 (-1), (res_one rfl rfl), ⟨(-1), ?_, ?_, rfl⟩⟩
    · first | rfl | (simp; done) | (simp; omega)
    · exact .inl ⟨rfl, fun j hj => he j (by omega)⟩

set_option maxRecDepth 10000 in
theorem ocontains_spec (h : Heap) (vp : Value) (hs : List Hdr) (p : List (List Bool)) (bx : Nat) (hb_bx : Blk h bx (#[vp]) 29) (hr_vp : RdE encHd h vp hs) (ht_vp : RT encB h hs p) (hp1 : p.length ≤ 1000000) (hp2 : ∀ i, i < p.length → (gt p i).length ≤ 1000000) : Fx Try.prog 113 [vp, .func (.func 114) #[] #[.pointer (some ⟨bx, 0, none⟩)]] h (fun v h' => v = .bool (!sqB p) ∧ h = h') := by
  have hl_vp := ht_vp.1
  refine fx_intro (n := 9) [(0, vp), (1, .func (.func 114) #[] #[.pointer (some ⟨bx, 0, none⟩)])] Try.func113 rfl rfl (by simp) ⟨rfl, rfl, trivial⟩ fun g0 => ?_
  refine wi_seq <| wi_reg rfl <| lx_assign (.bool false) rfl rfl <| lx_nil <| wi_seq <| wi_reg rfl <| lx_move (vp) rfl rfl <| lx_move (.func (.func 114) #[] #[.pointer (some ⟨bx, 0, none⟩)]) rfl rfl <| lx_call [vp, .func (.func 114) #[] #[.pointer (some ⟨bx, 0, none⟩)]] rfl rfl Try.call146 rfl (oindex_spec h vp hs p bx hb_bx hr_vp ht_vp (by omega) hp2) (fun _ _ _ => trivial) ?_
  rintro _ h1 ⟨r_1, rfl, hr_1, rfl⟩
  refine lx_geq rfl rfl rfl <| lx_assign (.bool (decide ((0 : Int) ≤ r_1))) rfl rfl <| lx_nil <| ?_
  -- R1
  refine wi_ret ⟨.bool (decide ((0 : Int) ≤ r_1)), (res_one rfl rfl), ⟨?_, rfl⟩⟩
  · congr 1
    rcases hr_1 with ⟨h1, h2⟩ | ⟨h1, j, h2, h3⟩
    · rw [decide_eq_false (by omega), sqB_iff.2 ⟨rfl, h2⟩]; rfl
    · rw [decide_eq_true (by omega)]
      symm
      rw [Bool.not_eq_true', Bool.eq_false_iff]
      exact fun h => h3 ((sqB_iff.1 h).2 j h2)

set_option maxRecDepth 10000 in
theorem ocheck_spec (h : Heap) (vp : Value) (hs : List Hdr) (p : List (List Bool)) (hr_vp : RdE encHd h vp hs) (ht_vp : RT encB h hs p) (hp1 : p.length ≤ 1000000) (hp2 : ∀ i, i < p.length → (gt p i).length ≤ 1000000) : Fx Try.prog 62 [vp] h (fun v h' => v = .int .i64 (chkT p) ∧ Ext h.size h h') := by
  have hl_vp := ht_vp.1
  refine fx_intro (n := 99) [(0, vp)] Try.func62 rfl rfl (by simp) ⟨rfl, trivial⟩ fun g0 => ?_
  refine wi_seq <| wi_reg rfl <| lx_box #[vp] rfl rfl (sl_cells hr_vp) (fun _ _ _ => trivial) fun bn1 h1 hbn1 hbk1 hx1 hsz1 => ?_
  have hbb1 : h.size ≤ bn1 := by have := (Nat.le_refl h.size); omega
  refine lx_assign (.int .i64 0) rfl rfl <| lx_nil <| wi_seq <| wi_seq <| wi_reg rfl <| lx_ldB (vp) rfl rfl fl29 hbk1 rfl rfl <| lx_len rfl Try.underlying29 hr_vp rfl <| lx_lssS rfl rfl rfl (fun c1 => ?_) (fun c1 => ?_)
  · refine lx_move (.bool true) rfl rfl <| lx_skip rfl <| lx_skip rfl <| lx_skip rfl <| lx_pick true (.bool true) rfl rfl rfl <| lx_move (.bool true) rfl rfl <| lx_skip rfl <| lx_skip rfl <| lx_skip rfl <| lx_pick true (.bool true) rfl rfl rfl <| lx_nil <| wi_true rfl <| wi_seq <| wi_reg rfl <| lx_assign (.int .i64 90) rfl rfl <| lx_nil <| ?_
    -- R1
    refine wi_ret ⟨.int .i64 90, (res_one rfl rfl), ⟨?_, hx1⟩⟩
    · first
      | (rw [chkT_size (by omega)]; done)
      | rw [chkT_bad (bad_ok (x := x) (y := y) (by omega) (by omega) (by first | exact bad_tri (z := z) (by omega) (by first | assumption | exact nbf (by assumption) | exact nbt (by assumption)) (by first | assumption | exact nbf (by assumption) | exact nbt (by assumption)) (by first | assumption | exact nbf (by assumption) | exact nbt (by assumption)) | exact bad_refl (by omega) (by first | assumption | exact nbf (by assumption) | exact nbt (by assumption)) | exact bad_anti (by omega) (by first | assumption | exact nbf (by assumption) | exact nbt (by assumption)) (by first | assumption | exact nbf (by assumption) | exact nbt (by assumption))))]
      | (have h9 : isT p = false := by
           unfold isT; rw [show sqB p = false from by simpa using ‹(!sqB p) = true›]; rfl
         rw [chkT_bad h9])
      | (have h9 : isT p = true := isT_iff.2 ⟨hsQ, fun a b ha hb => hA a (by omega) b hb⟩
         rw [ok_chkT (by omega) (by omega) h9])
  · refine lx_move (.bool false) rfl rfl <| lx_ldB (vp) rfl rfl fl29 hbk1 rfl rfl <| lx_len rfl Try.underlying29 hr_vp rfl <| lx_gtrS rfl rfl rfl (fun c2 => ?_) (fun c2 => ?_)
    · refine lx_pick false (.bool true) rfl rfl rfl <| lx_move (.bool true) rfl rfl <| lx_skip rfl <| lx_skip rfl <| lx_skip rfl <| lx_pick true (.bool true) rfl rfl rfl <| lx_nil <| wi_true rfl <| wi_seq <| wi_reg rfl <| lx_assign (.int .i64 90) rfl rfl <| lx_nil <| ?_
      -- R2
      refine wi_ret ⟨.int .i64 90, (res_one rfl rfl), ⟨?_, hx1⟩⟩
      · first
        | (rw [chkT_size (by omega)]; done)
        | rw [chkT_bad (bad_ok (x := x) (y := y) (by omega) (by omega) (by first | exact bad_tri (z := z) (by omega) (by first | assumption | exact nbf (by assumption) | exact nbt (by assumption)) (by first | assumption | exact nbf (by assumption) | exact nbt (by assumption)) (by first | assumption | exact nbf (by assumption) | exact nbt (by assumption)) | exact bad_refl (by omega) (by first | assumption | exact nbf (by assumption) | exact nbt (by assumption)) | exact bad_anti (by omega) (by first | assumption | exact nbf (by assumption) | exact nbt (by assumption)) (by first | assumption | exact nbf (by assumption) | exact nbt (by assumption))))]
        | (have h9 : isT p = false := by
             unfold isT; rw [show sqB p = false from by simpa using ‹(!sqB p) = true›]; rfl
           rw [chkT_bad h9])
        | (have h9 : isT p = true := isT_iff.2 ⟨hsQ, fun a b ha hb => hA a (by omega) b hb⟩
           rw [ok_chkT (by omega) (by omega) h9])
    · refine lx_pick false (.bool false) rfl rfl rfl <| lx_move (.bool false) rfl rfl <| lx_ldB (vp) rfl rfl fl29 hbk1 rfl rfl <| lx_makeFunc [] [.pointer (some ⟨bn1, 0, none⟩)] rfl rfl rfl <| lx_call [vp, .func (.func 114) #[] #[.pointer (some ⟨bn1, 0, none⟩)]] rfl rfl Try.call113 rfl (ocontains_spec h1 vp hs p bn1 hbk1 (hr_vp.extS hx1) (ht_vp.extS hx1) (by omega) hp2) (fun _ _ _ => trivial) ?_
      rintro _ h2 ⟨rfl, rfl⟩
      refine lx_pick false (.bool (!sqB p)) rfl rfl rfl <| lx_nil <| wi_condS (t := !sqB p) rfl (fun c3 => ?_) (fun c3 => ?_)
      · refine wi_seq <| wi_reg rfl <| lx_assign (.int .i64 90) rfl rfl <| lx_nil <| ?_
        -- R3
        refine wi_ret ⟨.int .i64 90, (res_one rfl rfl), ⟨?_, hx1⟩⟩
        · first
          | (rw [chkT_size (by omega)]; done)
          | rw [chkT_bad (bad_ok (x := x) (y := y) (by omega) (by omega) (by first | exact bad_tri (z := z) (by omega) (by first | assumption | exact nbf (by assumption) | exact nbt (by assumption)) (by first | assumption | exact nbf (by assumption) | exact nbt (by assumption)) (by first | assumption | exact nbf (by assumption) | exact nbt (by assumption)) | exact bad_refl (by omega) (by first | assumption | exact nbf (by assumption) | exact nbt (by assumption)) | exact bad_anti (by omega) (by first | assumption | exact nbf (by assumption) | exact nbt (by assumption)) (by first | assumption | exact nbf (by assumption) | exact nbt (by assumption))))]
          | (have h9 : isT p = false := by
               unfold isT; rw [show sqB p = false from by simpa using ‹(!sqB p) = true›]; rfl
             rw [chkT_bad h9])
          | (have h9 : isT p = true := isT_iff.2 ⟨hsQ, fun a b ha hb => hA a (by omega) b hb⟩
             rw [ok_chkT (by omega) (by omega) h9])
      · refine wi_skip <| wi_seq <| wi_seq <| wi_reg rfl <| ?_
        have hsB : sqB p = true := by simpa using ‹(!sqB p) = false›
        have hsQ := sqB_iff.1 hsB
        have hsq : ∀ i, i < p.length → (gt p i).length = p.length := hsQ.2
        refine lx_ldB (vp) rfl rfl fl29 hbk1 rfl rfl <| lx_len rfl Try.underlying29 hr_vp rfl <| lx_move (.int .i64 0) rfl rfl <| lx_nil <| wi_block <| ?_
        refine wi_loop (σ := Nat) (rngB 21 99 [2, 3, 4, 5]) (fun (x : Nat) => [(21, .int .i64 ((x : Nat) : Int))]) (fun (x : Nat) (hh : Heap) => h1 = hh ∧ (x ≤ p.length) ∧ (∀ a, a < x → ∀ b, b < p.length → okP p.length (pb p) a b)) (fun (x : Nat) => p.length - x) 0 ⟨rfl, trivial⟩ ⟨rfl, ?_, ?_⟩ ?_
        · try dsimp only
          omega
        · try dsimp only
          intro a ha; omega
        rintro g1 x hh1 ⟨rfl, hx, hA⟩ IH1
        refine wi_seq <| wi_reg rfl <| lx_lssS rfl rfl rfl (fun c4 => ?_) (fun c4 => ?_)
        · refine lx_nil <| wi_seq <| wi_true rfl <| wi_skip <| wi_seq <| wi_block <| wi_seq <| wi_reg rfl <| lx_move (.int .i64 ((x : Nat) : Int)) rfl rfl <| lx_assign (.int .i64 ((x : Nat) : Int)) rfl rfl <| lx_nil <| wi_seq <| wi_reg rfl <| lx_ldB (vp) rfl rfl fl29 hbk1 rfl rfl <| lx_len rfl Try.underlying29 hr_vp rfl <| lx_move (.int .i64 0) rfl rfl <| lx_nil <| wi_block <| ?_
          refine wi_loop (σ := Nat) (rngB 26 98 [2, 4, 5]) (fun (y : Nat) => [(26, .int .i64 ((y : Nat) : Int))]) (fun (y : Nat) (hh : Heap) => h1 = hh ∧ (y ≤ p.length) ∧ (∀ b, b < y → okP p.length (pb p) x b)) (fun (y : Nat) => p.length - y) 0 ⟨rfl, trivial⟩ ⟨rfl, ?_, ?_⟩ ?_
          · try dsimp only
            omega
          · try dsimp only
            intro b hb; omega
          rintro g2 y hh2 ⟨rfl, hy, hB⟩ IH2
          refine wi_seq <| wi_reg rfl <| lx_lssS rfl rfl rfl (fun c5 => ?_) (fun c5 => ?_)
          · refine lx_nil <| wi_seq <| wi_true rfl <| wi_skip <| wi_seq <| wi_block <| wi_seq <| wi_reg rfl <| lx_move (.int .i64 ((y : Nat) : Int)) rfl rfl <| lx_assign (.int .i64 ((y : Nat) : Int)) rfl rfl <| lx_nil <| wi_seq <| wi_seq <| wi_reg rfl <| lx_move (.int .i64 ((x : Nat) : Int)) rfl rfl <| lx_move (.int .i64 ((y : Nat) : Int)) rfl rfl <| lx_eqlS rfl rfl rfl (fun c6 => ?_) (fun c6 => ?_)
            · refine lx_move (.bool true) rfl rfl <| lx_ldB (vp) rfl rfl fl29 hbk1 rfl rfl <| lx_move (.int .i64 ((x : Nat) : Int)) rfl rfl <| lx_ix (i := x) rfl eT29 hr_vp rfl rfl (by first | omega | (simp only [List.length_set, List.length_append, List.length_cons, List.length_nil, List.length_replicate, List.length_take, swp_length, exch_length]; omega)) <| lx_ld (i := x) (j := 0) ((gt hs x).v) rfl rfl fl70 (hr_vp.extS hx1) (by first | omega | (simp only [List.length_set, List.length_append, List.length_cons, List.length_nil, List.length_replicate, List.length_take, swp_length, exch_length]; omega)) rfl rfl <| lx_move (.int .i64 ((y : Nat) : Int)) rfl rfl <| lx_ix (i := y) rfl eT70 (ht_vp.2 x (by first | omega | (simp only [List.length_set, List.length_append, List.length_cons, List.length_nil, List.length_replicate, List.length_take, swp_length, exch_length]; omega))) rfl rfl (by rw [hsq x (by first | omega | (simp only [List.length_set, List.length_append, List.length_cons, List.length_nil, List.length_replicate, List.length_take, swp_length, exch_length]; omega))]; omega) <| lx_ld (i := y) (j := 0) (.bool (gt (gt p x) y)) rfl rfl fl4 ((ht_vp.extS hx1).2 x (by first | omega | (simp only [List.length_set, List.length_append, List.length_cons, List.length_nil, List.length_replicate, List.length_take, swp_length, exch_length]; omega))) (by rw [hsq x (by first | omega | (simp only [List.length_set, List.length_append, List.length_cons, List.length_nil, List.length_replicate, List.length_take, swp_length, exch_length]; omega))]; omega) rfl rfl <| lx_not rfl rfl <| lx_pick true (.bool (!(gt (gt p x) y))) rfl rfl rfl <| lx_move (.bool (!(gt (gt p x) y))) rfl rfl <| ?_
              cases c7 : (gt (gt p x) y)
              · refine lx_skip rfl <| lx_skip rfl <| lx_skip rfl <| lx_skip rfl <| lx_skip rfl <| lx_skip rfl <| lx_skip rfl <| lx_skip rfl <| lx_skip rfl <| lx_skip rfl <| lx_skip rfl <| lx_skip rfl <| lx_skip rfl <| lx_skip rfl <| lx_skip rfl <| lx_skip rfl <| lx_skip rfl <| lx_skip rfl <| lx_skip rfl <| lx_skip rfl <| lx_skip rfl <| lx_pick true (.bool true) rfl rfl rfl <| lx_nil <| wi_true rfl <| wi_seq <| wi_reg rfl <| lx_assign (.int .i64 90) rfl rfl <| lx_nil <| ?_
                -- R4
                refine wi_ret ⟨.int .i64 90, (res_one rfl rfl), ⟨?_, hx1⟩⟩
                · first
                  | (rw [chkT_size (by omega)]; done)
                  | rw [chkT_bad (bad_ok (x := x) (y := y) (by omega) (by omega) (by first | exact bad_tri (z := z) (by omega) (by first | assumption | exact nbf (by assumption) | exact nbt (by assumption)) (by first | assumption | exact nbf (by assumption) | exact nbt (by assumption)) (by first | assumption | exact nbf (by assumption) | exact nbt (by assumption)) | exact bad_refl (by omega) (by first | assumption | exact nbf (by assumption) | exact nbt (by assumption)) | exact bad_anti (by omega) (by first | assumption | exact nbf (by assumption) | exact nbt (by assumption)) (by first | assumption | exact nbf (by assumption) | exact nbt (by assumption))))]
                  | (have h9 : isT p = false := by
                       unfold isT; rw [show sqB p = false from by simpa using ‹(!sqB p) = true›]; rfl
                     rw [chkT_bad h9])
                  | (have h9 : isT p = true := isT_iff.2 ⟨hsQ, fun a b ha hb => hA a (by omega) b hb⟩
                     rw [ok_chkT (by omega) (by omega) h9])
              · refine lx_move (.int .i64 ((x : Nat) : Int)) rfl rfl <| lx_move (.int .i64 ((y : Nat) : Int)) rfl rfl <| lx_neqS rfl rfl rfl (fun c8 => ?_) (fun c8 => ?_)
                · refine lx_move (.bool true) rfl rfl <| lx_ldB (vp) rfl rfl fl29 hbk1 rfl rfl <| lx_move (.int .i64 ((x : Nat) : Int)) rfl rfl <| lx_ix (i := x) rfl eT29 hr_vp rfl rfl (by first | omega | (simp only [List.length_set, List.length_append, List.length_cons, List.length_nil, List.length_replicate, List.length_take, swp_length, exch_length]; omega)) <| lx_ld (i := x) (j := 0) ((gt hs x).v) rfl rfl fl70 (hr_vp.extS hx1) (by first | omega | (simp only [List.length_set, List.length_append, List.length_cons, List.length_nil, List.length_replicate, List.length_take, swp_length, exch_length]; omega)) rfl rfl <| lx_move (.int .i64 ((y : Nat) : Int)) rfl rfl <| lx_ix (i := y) rfl eT70 (ht_vp.2 x (by first | omega | (simp only [List.length_set, List.length_append, List.length_cons, List.length_nil, List.length_replicate, List.length_take, swp_length, exch_length]; omega))) rfl rfl (by rw [hsq x (by first | omega | (simp only [List.length_set, List.length_append, List.length_cons, List.length_nil, List.length_replicate, List.length_take, swp_length, exch_length]; omega))]; omega) <| lx_ld (i := y) (j := 0) (.bool true) rfl rfl fl4 ((ht_vp.extS hx1).2 x (by first | omega | (simp only [List.length_set, List.length_append, List.length_cons, List.length_nil, List.length_replicate, List.length_take, swp_length, exch_length]; omega))) (by rw [hsq x (by first | omega | (simp only [List.length_set, List.length_append, List.length_cons, List.length_nil, List.length_replicate, List.length_take, swp_length, exch_length]; omega))]; omega) (by show some (Value.bool (gt (gt p x) y)) = _; rw [c7]) rfl <| lx_pick true (.bool true) rfl rfl rfl <| lx_move (.bool true) rfl rfl <| lx_ldB (vp) rfl rfl fl29 hbk1 rfl rfl <| lx_move (.int .i64 ((y : Nat) : Int)) rfl rfl <| lx_ix (i := y) rfl eT29 hr_vp rfl rfl (by first | omega | (simp only [List.length_set, List.length_append, List.length_cons, List.length_nil, List.length_replicate, List.length_take, swp_length, exch_length]; omega)) <| lx_ld (i := y) (j := 0) ((gt hs y).v) rfl rfl fl70 (hr_vp.extS hx1) (by first | omega | (simp only [List.length_set, List.length_append, List.length_cons, List.length_nil, List.length_replicate, List.length_take, swp_length, exch_length]; omega)) rfl rfl <| lx_move (.int .i64 ((x : Nat) : Int)) rfl rfl <| lx_ix (i := x) rfl eT70 (ht_vp.2 y (by first | omega | (simp only [List.length_set, List.length_append, List.length_cons, List.length_nil, List.length_replicate, List.length_take, swp_length, exch_length]; omega))) rfl rfl (by rw [hsq y (by first | omega | (simp only [List.length_set, List.length_append, List.length_cons, List.length_nil, List.length_replicate, List.length_take, swp_length, exch_length]; omega))]; omega) <| lx_ld (i := x) (j := 0) (.bool (gt (gt p y) x)) rfl rfl fl4 ((ht_vp.extS hx1).2 y (by first | omega | (simp only [List.length_set, List.length_append, List.length_cons, List.length_nil, List.length_replicate, List.length_take, swp_length, exch_length]; omega))) (by rw [hsq y (by first | omega | (simp only [List.length_set, List.length_append, List.length_cons, List.length_nil, List.length_replicate, List.length_take, swp_length, exch_length]; omega))]; omega) rfl rfl <| lx_pick true (.bool (gt (gt p y) x)) rfl rfl rfl <| lx_pick false (.bool (gt (gt p y) x)) rfl rfl rfl <| lx_nil <| wi_condS (t := gt (gt p y) x) rfl (fun c9 => ?_) (fun c9 => ?_)
                  · refine wi_seq <| wi_reg rfl <| lx_assign (.int .i64 90) rfl rfl <| lx_nil <| ?_
                    -- R5
                    refine wi_ret ⟨.int .i64 90, (res_one rfl rfl), ⟨?_, hx1⟩⟩
                    · first
                      | (rw [chkT_size (by omega)]; done)
                      | rw [chkT_bad (bad_ok (x := x) (y := y) (by omega) (by omega) (by first | exact bad_tri (z := z) (by omega) (by first | assumption | exact nbf (by assumption) | exact nbt (by assumption)) (by first | assumption | exact nbf (by assumption) | exact nbt (by assumption)) (by first | assumption | exact nbf (by assumption) | exact nbt (by assumption)) | exact bad_refl (by omega) (by first | assumption | exact nbf (by assumption) | exact nbt (by assumption)) | exact bad_anti (by omega) (by first | assumption | exact nbf (by assumption) | exact nbt (by assumption)) (by first | assumption | exact nbf (by assumption) | exact nbt (by assumption))))]
                      | (have h9 : isT p = false := by
                           unfold isT; rw [show sqB p = false from by simpa using ‹(!sqB p) = true›]; rfl
                         rw [chkT_bad h9])
                      | (have h9 : isT p = true := isT_iff.2 ⟨hsQ, fun a b ha hb => hA a (by omega) b hb⟩
                         rw [ok_chkT (by omega) (by omega) h9])
                  · refine wi_skip <| wi_seq <| wi_reg rfl <| lx_ldB (vp) rfl rfl fl29 hbk1 rfl rfl <| lx_len rfl Try.underlying29 hr_vp rfl <| lx_move (.int .i64 0) rfl rfl <| lx_nil <| wi_block <| ?_
                    refine wi_loop (σ := Nat) (rngB 67 97 [2, 5]) (fun (z : Nat) => [(67, .int .i64 ((z : Nat) : Int))]) (fun (z : Nat) (hh : Heap) => h1 = hh ∧ (z ≤ p.length) ∧ (∀ c, c < z → pb p x y = true → pb p y c = true → pb p x c = true)) (fun (z : Nat) => p.length - z) 0 ⟨rfl, trivial⟩ ⟨rfl, ?_, ?_⟩ ?_
                    · try dsimp only
                      omega
                    · try dsimp only
                      intro c hc; omega
                    rintro g3 z hh3 ⟨rfl, hz, hC⟩ IH3
                    refine wi_seq <| wi_reg rfl <| lx_lssS rfl rfl rfl (fun c10 => ?_) (fun c10 => ?_)
                    · refine lx_nil <| wi_seq <| wi_true rfl <| wi_skip <| wi_seq <| wi_block <| wi_seq <| wi_reg rfl <| lx_move (.int .i64 ((z : Nat) : Int)) rfl rfl <| lx_assign (.int .i64 ((z : Nat) : Int)) rfl rfl <| lx_nil <| wi_seq <| wi_reg rfl <| lx_ldB (vp) rfl rfl fl29 hbk1 rfl rfl <| lx_move (.int .i64 ((x : Nat) : Int)) rfl rfl <| lx_ix (i := x) rfl eT29 hr_vp rfl rfl (by first | omega | (simp only [List.length_set, List.length_append, List.length_cons, List.length_nil, List.length_replicate, List.length_take, swp_length, exch_length]; omega)) <| lx_ld (i := x) (j := 0) ((gt hs x).v) rfl rfl fl70 (hr_vp.extS hx1) (by first | omega | (simp only [List.length_set, List.length_append, List.length_cons, List.length_nil, List.length_replicate, List.length_take, swp_length, exch_length]; omega)) rfl rfl <| lx_move (.int .i64 ((y : Nat) : Int)) rfl rfl <| lx_ix (i := y) rfl eT70 (ht_vp.2 x (by first | omega | (simp only [List.length_set, List.length_append, List.length_cons, List.length_nil, List.length_replicate, List.length_take, swp_length, exch_length]; omega))) rfl rfl (by rw [hsq x (by first | omega | (simp only [List.length_set, List.length_append, List.length_cons, List.length_nil, List.length_replicate, List.length_take, swp_length, exch_length]; omega))]; omega) <| lx_ld (i := y) (j := 0) (.bool true) rfl rfl fl4 ((ht_vp.extS hx1).2 x (by first | omega | (simp only [List.length_set, List.length_append, List.length_cons, List.length_nil, List.length_replicate, List.length_take, swp_length, exch_length]; omega))) (by rw [hsq x (by first | omega | (simp only [List.length_set, List.length_append, List.length_cons, List.length_nil, List.length_replicate, List.length_take, swp_length, exch_length]; omega))]; omega) (by show some (Value.bool (gt (gt p x) y)) = _; rw [c7]) rfl <| lx_move (.bool true) rfl rfl <| lx_ldB (vp) rfl rfl fl29 hbk1 rfl rfl <| lx_move (.int .i64 ((y : Nat) : Int)) rfl rfl <| lx_ix (i := y) rfl eT29 hr_vp rfl rfl (by first | omega | (simp only [List.length_set, List.length_append, List.length_cons, List.length_nil, List.length_replicate, List.length_take, swp_length, exch_length]; omega)) <| lx_ld (i := y) (j := 0) ((gt hs y).v) rfl rfl fl70 (hr_vp.extS hx1) (by first | omega | (simp only [List.length_set, List.length_append, List.length_cons, List.length_nil, List.length_replicate, List.length_take, swp_length, exch_length]; omega)) rfl rfl <| lx_move (.int .i64 ((z : Nat) : Int)) rfl rfl <| lx_ix (i := z) rfl eT70 (ht_vp.2 y (by first | omega | (simp only [List.length_set, List.length_append, List.length_cons, List.length_nil, List.length_replicate, List.length_take, swp_length, exch_length]; omega))) rfl rfl (by rw [hsq y (by first | omega | (simp only [List.length_set, List.length_append, List.length_cons, List.length_nil, List.length_replicate, List.length_take, swp_length, exch_length]; omega))]; omega) <| lx_ld (i := z) (j := 0) (.bool (gt (gt p y) z)) rfl rfl fl4 ((ht_vp.extS hx1).2 y (by first | omega | (simp only [List.length_set, List.length_append, List.length_cons, List.length_nil, List.length_replicate, List.length_take, swp_length, exch_length]; omega))) (by rw [hsq y (by first | omega | (simp only [List.length_set, List.length_append, List.length_cons, List.length_nil, List.length_replicate, List.length_take, swp_length, exch_length]; omega))]; omega) rfl rfl <| lx_pick true (.bool (gt (gt p y) z)) rfl rfl rfl <| lx_move (.bool (gt (gt p y) z)) rfl rfl <| ?_
                      cases c11 : (gt (gt p y) z)
                      · refine lx_skip rfl <| lx_skip rfl <| lx_skip rfl <| lx_skip rfl <| lx_skip rfl <| lx_skip rfl <| lx_skip rfl <| lx_skip rfl <| lx_pick false (.bool false) rfl rfl rfl <| lx_nil <| wi_false rfl <| wi_skip <| wi_inBlock <| wi_reg rfl <| lx_add (((z + 1 : Nat) : Int)) rfl rfl rfl (by omega) (by omega) (by omega) <| lx_move (.int .i64 ((z + 1 : Nat) : Int)) rfl rfl <| lx_nil <| ?_
                        -- L4.1
                        refine IH3 _ _ (z + 1) (agree_ups rfl agree_self) ⟨rfl, trivial⟩ ⟨rfl, ?_, ?_⟩ ?_
                        · try dsimp only
                          omega
                        · try dsimp only
                          intro c hc h1 h2
                          by_cases e : c = z
                          · subst e; first | assumption | exact nbf (by assumption) | exact absurd h1 (ntb (by first | assumption | exact nbt (by assumption))) | exact absurd h2 (ntb (by first | assumption | exact nbt (by assumption)))
                          · exact hC c (by omega) h1 h2
                        · first | omega | (dsimp only; omega)
                      · refine lx_ldB (vp) rfl rfl fl29 hbk1 rfl rfl <| lx_move (.int .i64 ((x : Nat) : Int)) rfl rfl <| lx_ix (i := x) rfl eT29 hr_vp rfl rfl (by first | omega | (simp only [List.length_set, List.length_append, List.length_cons, List.length_nil, List.length_replicate, List.length_take, swp_length, exch_length]; omega)) <| lx_ld (i := x) (j := 0) ((gt hs x).v) rfl rfl fl70 (hr_vp.extS hx1) (by first | omega | (simp only [List.length_set, List.length_append, List.length_cons, List.length_nil, List.length_replicate, List.length_take, swp_length, exch_length]; omega)) rfl rfl <| lx_move (.int .i64 ((z : Nat) : Int)) rfl rfl <| lx_ix (i := z) rfl eT70 (ht_vp.2 x (by first | omega | (simp only [List.length_set, List.length_append, List.length_cons, List.length_nil, List.length_replicate, List.length_take, swp_length, exch_length]; omega))) rfl rfl (by rw [hsq x (by first | omega | (simp only [List.length_set, List.length_append, List.length_cons, List.length_nil, List.length_replicate, List.length_take, swp_length, exch_length]; omega))]; omega) <| lx_ld (i := z) (j := 0) (.bool (gt (gt p x) z)) rfl rfl fl4 ((ht_vp.extS hx1).2 x (by first | omega | (simp only [List.length_set, List.length_append, List.length_cons, List.length_nil, List.length_replicate, List.length_take, swp_length, exch_length]; omega))) (by rw [hsq x (by first | omega | (simp only [List.length_set, List.length_append, List.length_cons, List.length_nil, List.length_replicate, List.length_take, swp_length, exch_length]; omega))]; omega) rfl rfl <| lx_not rfl rfl <| lx_pick true (.bool (!(gt (gt p x) z))) rfl rfl rfl <| lx_nil <| wi_condS (t := !(gt (gt p x) z)) rfl (fun c12 => ?_) (fun c12 => ?_)
                        · refine wi_seq <| wi_reg rfl <| lx_assign (.int .i64 90) rfl rfl <| lx_nil <| ?_
                          -- R6
                          refine wi_ret ⟨.int .i64 90, (res_one rfl rfl), ⟨?_, hx1⟩⟩
                          · first
                            | (rw [chkT_size (by omega)]; done)
                            | rw [chkT_bad (bad_ok (x := x) (y := y) (by omega) (by omega) (by first | exact bad_tri (z := z) (by omega) (by first | assumption | exact nbf (by assumption) | exact nbt (by assumption)) (by first | assumption | exact nbf (by assumption) | exact nbt (by assumption)) (by first | assumption | exact nbf (by assumption) | exact nbt (by assumption)) | exact bad_refl (by omega) (by first | assumption | exact nbf (by assumption) | exact nbt (by assumption)) | exact bad_anti (by omega) (by first | assumption | exact nbf (by assumption) | exact nbt (by assumption)) (by first | assumption | exact nbf (by assumption) | exact nbt (by assumption))))]
                            | (have h9 : isT p = false := by
                                 unfold isT; rw [show sqB p = false from by simpa using ‹(!sqB p) = true›]; rfl
                               rw [chkT_bad h9])
                            | (have h9 : isT p = true := isT_iff.2 ⟨hsQ, fun a b ha hb => hA a (by omega) b hb⟩
                               rw [ok_chkT (by omega) (by omega) h9])
                        · refine wi_skip <| wi_inBlock <| wi_reg rfl <| lx_add (((z + 1 : Nat) : Int)) rfl rfl rfl (by omega) (by omega) (by omega) <| lx_move (.int .i64 ((z + 1 : Nat) : Int)) rfl rfl <| lx_nil <| ?_
                          -- L4.2
                          refine IH3 _ _ (z + 1) (agree_ups rfl agree_self) ⟨rfl, trivial⟩ ⟨rfl, ?_, ?_⟩ ?_
                          · try dsimp only
                            omega
                          · try dsimp only
                            intro c hc h1 h2
                            by_cases e : c = z
                            · subst e; first | assumption | exact nbf (by assumption) | exact absurd h1 (ntb (by first | assumption | exact nbt (by assumption))) | exact absurd h2 (ntb (by first | assumption | exact nbt (by assumption)))
                            · exact hC c (by omega) h1 h2
                          · first | omega | (dsimp only; omega)
                    · refine lx_nil <| wi_seq <| wi_false rfl <| wi_exit rfl <| wi_inBlock <| wi_reg rfl <| lx_add (((y + 1 : Nat) : Int)) rfl rfl rfl (by omega) (by omega) (by omega) <| lx_move (.int .i64 ((y + 1 : Nat) : Int)) rfl rfl <| lx_nil <| ?_
                      -- L2.1
                      refine IH2 _ _ (y + 1) (agree_ups rfl (agree_mix (rngB_sub (by decide) (by decide) rfl) (agree_ups rfl agree_self))) ⟨rfl, trivial⟩ ⟨rfl, ?_, ?_⟩ ?_
                      · try dsimp only
                        omega
                      · try dsimp only
                        intro b hb
                        by_cases e : b = y
                        · subst e; exact ⟨fun e => (by first | assumption | exact nbf (by assumption) | (exfalso; omega)), fun h1 h2 => (by first | (exfalso; omega) | assumption | exact nbt (by assumption) | exact absurd h2 (ntb (by assumption))), fun c hc h1 h2 => hC c (by omega) h1 h2⟩
                        · exact hB b (by omega)
                      · first | omega | (dsimp only; omega)
                · refine lx_move (.bool false) rfl rfl <| lx_skip rfl <| lx_skip rfl <| lx_skip rfl <| lx_skip rfl <| lx_skip rfl <| lx_skip rfl <| lx_skip rfl <| lx_pick false (.bool false) rfl rfl rfl <| lx_move (.bool false) rfl rfl <| lx_skip rfl <| lx_skip rfl <| lx_skip rfl <| lx_skip rfl <| lx_skip rfl <| lx_skip rfl <| lx_skip rfl <| lx_pick false (.bool false) rfl rfl rfl <| lx_pick false (.bool false) rfl rfl rfl <| lx_nil <| wi_false rfl <| wi_skip <| wi_seq <| wi_reg rfl <| lx_ldB (vp) rfl rfl fl29 hbk1 rfl rfl <| lx_len rfl Try.underlying29 hr_vp rfl <| lx_move (.int .i64 0) rfl rfl <| lx_nil <| wi_block <| ?_
                  refine wi_loop (σ := Nat) (rngB 67 97 [2, 5]) (fun (z : Nat) => [(67, .int .i64 ((z : Nat) : Int))]) (fun (z : Nat) (hh : Heap) => h1 = hh ∧ (z ≤ p.length) ∧ (∀ c, c < z → pb p x y = true → pb p y c = true → pb p x c = true)) (fun (z : Nat) => p.length - z) 0 ⟨rfl, trivial⟩ ⟨rfl, ?_, ?_⟩ ?_
                  · try dsimp only
                    omega
                  · try dsimp only
                    intro c hc; omega
                  rintro g4 z hh4 ⟨rfl, hz, hC⟩ IH4
                  refine wi_seq <| wi_reg rfl <| lx_lssS rfl rfl rfl (fun c13 => ?_) (fun c13 => ?_)
                  · refine lx_nil <| wi_seq <| wi_true rfl <| wi_skip <| wi_seq <| wi_block <| wi_seq <| wi_reg rfl <| lx_move (.int .i64 ((z : Nat) : Int)) rfl rfl <| lx_assign (.int .i64 ((z : Nat) : Int)) rfl rfl <| lx_nil <| wi_seq <| wi_reg rfl <| lx_ldB (vp) rfl rfl fl29 hbk1 rfl rfl <| lx_move (.int .i64 ((x : Nat) : Int)) rfl rfl <| lx_ix (i := x) rfl eT29 hr_vp rfl rfl (by first | omega | (simp only [List.length_set, List.length_append, List.length_cons, List.length_nil, List.length_replicate, List.length_take, swp_length, exch_length]; omega)) <| lx_ld (i := x) (j := 0) ((gt hs x).v) rfl rfl fl70 (hr_vp.extS hx1) (by first | omega | (simp only [List.length_set, List.length_append, List.length_cons, List.length_nil, List.length_replicate, List.length_take, swp_length, exch_length]; omega)) rfl rfl <| lx_move (.int .i64 ((y : Nat) : Int)) rfl rfl <| lx_ix (i := y) rfl eT70 (ht_vp.2 x (by first | omega | (simp only [List.length_set, List.length_append, List.length_cons, List.length_nil, List.length_replicate, List.length_take, swp_length, exch_length]; omega))) rfl rfl (by rw [hsq x (by first | omega | (simp only [List.length_set, List.length_append, List.length_cons, List.length_nil, List.length_replicate, List.length_take, swp_length, exch_length]; omega))]; omega) <| lx_ld (i := y) (j := 0) (.bool true) rfl rfl fl4 ((ht_vp.extS hx1).2 x (by first | omega | (simp only [List.length_set, List.length_append, List.length_cons, List.length_nil, List.length_replicate, List.length_take, swp_length, exch_length]; omega))) (by rw [hsq x (by first | omega | (simp only [List.length_set, List.length_append, List.length_cons, List.length_nil, List.length_replicate, List.length_take, swp_length, exch_length]; omega))]; omega) (by show some (Value.bool (gt (gt p x) y)) = _; rw [c7]) rfl <| lx_move (.bool true) rfl rfl <| lx_ldB (vp) rfl rfl fl29 hbk1 rfl rfl <| lx_move (.int .i64 ((y : Nat) : Int)) rfl rfl <| lx_ix (i := y) rfl eT29 hr_vp rfl rfl (by first | omega | (simp only [List.length_set, List.length_append, List.length_cons, List.length_nil, List.length_replicate, List.length_take, swp_length, exch_length]; omega)) <| lx_ld (i := y) (j := 0) ((gt hs y).v) rfl rfl fl70 (hr_vp.extS hx1) (by first | omega | (simp only [List.length_set, List.length_append, List.length_cons, List.length_nil, List.length_replicate, List.length_take, swp_length, exch_length]; omega)) rfl rfl <| lx_move (.int .i64 ((z : Nat) : Int)) rfl rfl <| lx_ix (i := z) rfl eT70 (ht_vp.2 y (by first | omega | (simp only [List.length_set, List.length_append, List.length_cons, List.length_nil, List.length_replicate, List.length_take, swp_length, exch_length]; omega))) rfl rfl (by rw [hsq y (by first | omega | (simp only [List.length_set, List.length_append, List.length_cons, List.length_nil, List.length_replicate, List.length_take, swp_length, exch_length]; omega))]; omega) <| lx_ld (i := z) (j := 0) (.bool (gt (gt p y) z)) rfl rfl fl4 ((ht_vp.extS hx1).2 y (by first | omega | (simp only [List.length_set, List.length_append, List.length_cons, List.length_nil, List.length_replicate, List.length_take, swp_length, exch_length]; omega))) (by rw [hsq y (by first | omega | (simp only [List.length_set, List.length_append, List.length_cons, List.length_nil, List.length_replicate, List.length_take, swp_length, exch_length]; omega))]; omega) rfl rfl <| lx_pick true (.bool (gt (gt p y) z)) rfl rfl rfl <| lx_move (.bool (gt (gt p y) z)) rfl rfl <| ?_
                    cases c14 : (gt (gt p y) z)
                    · refine lx_skip rfl <| lx_skip rfl <| lx_skip rfl <| lx_skip rfl <| lx_skip rfl <| lx_skip rfl <| lx_skip rfl <| lx_skip rfl <| lx_pick false (.bool false) rfl rfl rfl <| lx_nil <| wi_false rfl <| wi_skip <| wi_inBlock <| wi_reg rfl <| lx_add (((z + 1 : Nat) : Int)) rfl rfl rfl (by omega) (by omega) (by omega) <| lx_move (.int .i64 ((z + 1 : Nat) : Int)) rfl rfl <| lx_nil <| ?_
                      -- L4.1
                      refine IH4 _ _ (z + 1) (agree_ups rfl agree_self) ⟨rfl, trivial⟩ ⟨rfl, ?_, ?_⟩ ?_
                      · try dsimp only
                        omega
                      · try dsimp only
                        intro c hc h1 h2
                        by_cases e : c = z
                        · subst e; first | assumption | exact nbf (by assumption) | exact absurd h1 (ntb (by first | assumption | exact nbt (by assumption))) | exact absurd h2 (ntb (by first | assumption | exact nbt (by assumption)))
                        · exact hC c (by omega) h1 h2
                      · first | omega | (dsimp only; omega)
                    · refine lx_ldB (vp) rfl rfl fl29 hbk1 rfl rfl <| lx_move (.int .i64 ((x : Nat) : Int)) rfl rfl <| lx_ix (i := x) rfl eT29 hr_vp rfl rfl (by first | omega | (simp only [List.length_set, List.length_append, List.length_cons, List.length_nil, List.length_replicate, List.length_take, swp_length, exch_length]; omega)) <| lx_ld (i := x) (j := 0) ((gt hs x).v) rfl rfl fl70 (hr_vp.extS hx1) (by first | omega | (simp only [List.length_set, List.length_append, List.length_cons, List.length_nil, List.length_replicate, List.length_take, swp_length, exch_length]; omega)) rfl rfl <| lx_move (.int .i64 ((z : Nat) : Int)) rfl rfl <| lx_ix (i := z) rfl eT70 (ht_vp.2 x (by first | omega | (simp only [List.length_set, List.length_append, List.length_cons, List.length_nil, List.length_replicate, List.length_take, swp_length, exch_length]; omega))) rfl rfl (by rw [hsq x (by first | omega | (simp only [List.length_set, List.length_append, List.length_cons, List.length_nil, List.length_replicate, List.length_take, swp_length, exch_length]; omega))]; omega) <| lx_ld (i := z) (j := 0) (.bool (gt (gt p x) z)) rfl rfl fl4 ((ht_vp.extS hx1).2 x (by first | omega | (simp only [List.length_set, List.length_append, List.length_cons, List.length_nil, List.length_replicate, List.length_take, swp_length, exch_length]; omega))) (by rw [hsq x (by first | omega | (simp only [List.length_set, List.length_append, List.length_cons, List.length_nil, List.length_replicate, List.length_take, swp_length, exch_length]; omega))]; omega) rfl rfl <| lx_not rfl rfl <| lx_pick true (.bool (!(gt (gt p x) z))) rfl rfl rfl <| lx_nil <| wi_condS (t := !(gt (gt p x) z)) rfl (fun c15 => ?_) (fun c15 => ?_)
                      · refine wi_seq <| wi_reg rfl <| lx_assign (.int .i64 90) rfl rfl <| lx_nil <| ?_
                        -- R7
                        refine wi_ret ⟨.int .i64 90, (res_one rfl rfl), ⟨?_, hx1⟩⟩
                        · first
                          | (rw [chkT_size (by omega)]; done)
                          | rw [chkT_bad (bad_ok (x := x) (y := y) (by omega) (by omega) (by first | exact bad_tri (z := z) (by omega) (by first | assumption | exact nbf (by assumption) | exact nbt (by assumption)) (by first | assumption | exact nbf (by assumption) | exact nbt (by assumption)) (by first | assumption | exact nbf (by assumption) | exact nbt (by assumption)) | exact bad_refl (by omega) (by first | assumption | exact nbf (by assumption) | exact nbt (by assumption)) | exact bad_anti (by omega) (by first | assumption | exact nbf (by assumption) | exact nbt (by assumption)) (by first | assumption | exact nbf (by assumption) | exact nbt (by assumption))))]
                          | (have h9 : isT p = false := by
                               unfold isT; rw [show sqB p = false from by simpa using ‹(!sqB p) = true›]; rfl
                             rw [chkT_bad h9])
                          | (have h9 : isT p = true := isT_iff.2 ⟨hsQ, fun a b ha hb => hA a (by omega) b hb⟩
                             rw [ok_chkT (by omega) (by omega) h9])
                      · refine wi_skip <| wi_inBlock <| wi_reg rfl <| lx_add (((z + 1 : Nat) : Int)) rfl rfl rfl (by omega) (by omega) (by omega) <| lx_move (.int .i64 ((z + 1 : Nat) : Int)) rfl rfl <| lx_nil <| ?_
                        -- L4.2
                        refine IH4 _ _ (z + 1) (agree_ups rfl agree_self) ⟨rfl, trivial⟩ ⟨rfl, ?_, ?_⟩ ?_
                        · try dsimp only
                          omega
                        · try dsimp only
                          intro c hc h1 h2
                          by_cases e : c = z
                          · subst e; first | assumption | exact nbf (by assumption) | exact absurd h1 (ntb (by first | assumption | exact nbt (by assumption))) | exact absurd h2 (ntb (by first | assumption | exact nbt (by assumption)))
                          · exact hC c (by omega) h1 h2
                        · first | omega | (dsimp only; omega)
                  · refine lx_nil <| wi_seq <| wi_false rfl <| wi_exit rfl <| wi_inBlock <| wi_reg rfl <| lx_add (((y + 1 : Nat) : Int)) rfl rfl rfl (by omega) (by omega) (by omega) <| lx_move (.int .i64 ((y + 1 : Nat) : Int)) rfl rfl <| lx_nil <| ?_
                    -- L2.2
                    refine IH2 _ _ (y + 1) (agree_ups rfl (agree_mix (rngB_sub (by decide) (by decide) rfl) (agree_ups rfl agree_self))) ⟨rfl, trivial⟩ ⟨rfl, ?_, ?_⟩ ?_
                    · try dsimp only
                      omega
                    · try dsimp only
                      intro b hb
                      by_cases e : b = y
                      · subst e; exact ⟨fun e => (by first | assumption | exact nbf (by assumption) | (exfalso; omega)), fun h1 h2 => (by first | (exfalso; omega) | assumption | exact nbt (by assumption) | exact absurd h2 (ntb (by assumption))), fun c hc h1 h2 => hC c (by omega) h1 h2⟩
                      · exact hB b (by omega)
                    · first | omega | (dsimp only; omega)
            · refine lx_move (.bool false) rfl rfl <| lx_skip rfl <| lx_skip rfl <| lx_skip rfl <| lx_skip rfl <| lx_skip rfl <| lx_skip rfl <| lx_skip rfl <| lx_skip rfl <| lx_pick false (.bool false) rfl rfl rfl <| lx_move (.bool false) rfl rfl <| lx_move (.int .i64 ((x : Nat) : Int)) rfl rfl <| lx_move (.int .i64 ((y : Nat) : Int)) rfl rfl <| lx_neqS rfl rfl rfl (fun c16 => ?_) (fun c16 => ?_)
              · refine lx_move (.bool true) rfl rfl <| lx_ldB (vp) rfl rfl fl29 hbk1 rfl rfl <| lx_move (.int .i64 ((x : Nat) : Int)) rfl rfl <| lx_ix (i := x) rfl eT29 hr_vp rfl rfl (by first | omega | (simp only [List.length_set, List.length_append, List.length_cons, List.length_nil, List.length_replicate, List.length_take, swp_length, exch_length]; omega)) <| lx_ld (i := x) (j := 0) ((gt hs x).v) rfl rfl fl70 (hr_vp.extS hx1) (by first | omega | (simp only [List.length_set, List.length_append, List.length_cons, List.length_nil, List.length_replicate, List.length_take, swp_length, exch_length]; omega)) rfl rfl <| lx_move (.int .i64 ((y : Nat) : Int)) rfl rfl <| lx_ix (i := y) rfl eT70 (ht_vp.2 x (by first | omega | (simp only [List.length_set, List.length_append, List.length_cons, List.length_nil, List.length_replicate, List.length_take, swp_length, exch_length]; omega))) rfl rfl (by rw [hsq x (by first | omega | (simp only [List.length_set, List.length_append, List.length_cons, List.length_nil, List.length_replicate, List.length_take, swp_length, exch_length]; omega))]; omega) <| lx_ld (i := y) (j := 0) (.bool (gt (gt p x) y)) rfl rfl fl4 ((ht_vp.extS hx1).2 x (by first | omega | (simp only [List.length_set, List.length_append, List.length_cons, List.length_nil, List.length_replicate, List.length_take, swp_length, exch_length]; omega))) (by rw [hsq x (by first | omega | (simp only [List.length_set, List.length_append, List.length_cons, List.length_nil, List.length_replicate, List.length_take, swp_length, exch_length]; omega))]; omega) rfl rfl <| lx_pick true (.bool (gt (gt p x) y)) rfl rfl rfl <| lx_move (.bool (gt (gt p x) y)) rfl rfl <| ?_
                cases c17 : (gt (gt p x) y)
                · refine lx_skip rfl <| lx_skip rfl <| lx_skip rfl <| lx_skip rfl <| lx_skip rfl <| lx_skip rfl <| lx_skip rfl <| lx_pick false (.bool false) rfl rfl rfl <| lx_pick false (.bool false) rfl rfl rfl <| lx_nil <| wi_false rfl <| wi_skip <| wi_seq <| wi_reg rfl <| lx_ldB (vp) rfl rfl fl29 hbk1 rfl rfl <| lx_len rfl Try.underlying29 hr_vp rfl <| lx_move (.int .i64 0) rfl rfl <| lx_nil <| wi_block <| ?_
                  refine wi_loop (σ := Nat) (rngB 67 97 [2, 5]) (fun (z : Nat) => [(67, .int .i64 ((z : Nat) : Int))]) (fun (z : Nat) (hh : Heap) => h1 = hh ∧ (z ≤ p.length) ∧ (∀ c, c < z → pb p x y = true → pb p y c = true → pb p x c = true)) (fun (z : Nat) => p.length - z) 0 ⟨rfl, trivial⟩ ⟨rfl, ?_, ?_⟩ ?_
                  · try dsimp only
                    omega
                  · try dsimp only
                    intro c hc; omega
                  rintro g5 z hh5 ⟨rfl, hz, hC⟩ IH5
                  refine wi_seq <| wi_reg rfl <| lx_lssS rfl rfl rfl (fun c18 => ?_) (fun c18 => ?_)
                  · refine lx_nil <| wi_seq <| wi_true rfl <| wi_skip <| wi_seq <| wi_block <| wi_seq <| wi_reg rfl <| lx_move (.int .i64 ((z : Nat) : Int)) rfl rfl <| lx_assign (.int .i64 ((z : Nat) : Int)) rfl rfl <| lx_nil <| wi_seq <| wi_reg rfl <| lx_ldB (vp) rfl rfl fl29 hbk1 rfl rfl <| lx_move (.int .i64 ((x : Nat) : Int)) rfl rfl <| lx_ix (i := x) rfl eT29 hr_vp rfl rfl (by first | omega | (simp only [List.length_set, List.length_append, List.length_cons, List.length_nil, List.length_replicate, List.length_take, swp_length, exch_length]; omega)) <| lx_ld (i := x) (j := 0) ((gt hs x).v) rfl rfl fl70 (hr_vp.extS hx1) (by first | omega | (simp only [List.length_set, List.length_append, List.length_cons, List.length_nil, List.length_replicate, List.length_take, swp_length, exch_length]; omega)) rfl rfl <| lx_move (.int .i64 ((y : Nat) : Int)) rfl rfl <| lx_ix (i := y) rfl eT70 (ht_vp.2 x (by first | omega | (simp only [List.length_set, List.length_append, List.length_cons, List.length_nil, List.length_replicate, List.length_take, swp_length, exch_length]; omega))) rfl rfl (by rw [hsq x (by first | omega | (simp only [List.length_set, List.length_append, List.length_cons, List.length_nil, List.length_replicate, List.length_take, swp_length, exch_length]; omega))]; omega) <| lx_ld (i := y) (j := 0) (.bool false) rfl rfl fl4 ((ht_vp.extS hx1).2 x (by first | omega | (simp only [List.length_set, List.length_append, List.length_cons, List.length_nil, List.length_replicate, List.length_take, swp_length, exch_length]; omega))) (by rw [hsq x (by first | omega | (simp only [List.length_set, List.length_append, List.length_cons, List.length_nil, List.length_replicate, List.length_take, swp_length, exch_length]; omega))]; omega) (by show some (Value.bool (gt (gt p x) y)) = _; rw [c17]) rfl <| lx_move (.bool false) rfl rfl <| lx_skip rfl <| lx_skip rfl <| lx_skip rfl <| lx_skip rfl <| lx_skip rfl <| lx_skip rfl <| lx_skip rfl <| lx_pick false (.bool false) rfl rfl rfl <| lx_move (.bool false) rfl rfl <| lx_skip rfl <| lx_skip rfl <| lx_skip rfl <| lx_skip rfl <| lx_skip rfl <| lx_skip rfl <| lx_skip rfl <| lx_skip rfl <| lx_pick false (.bool false) rfl rfl rfl <| lx_nil <| wi_false rfl <| wi_skip <| wi_inBlock <| wi_reg rfl <| lx_add (((z + 1 : Nat) : Int)) rfl rfl rfl (by omega) (by omega) (by omega) <| lx_move (.int .i64 ((z + 1 : Nat) : Int)) rfl rfl <| lx_nil <| ?_
                    -- L4.1
                    refine IH5 _ _ (z + 1) (agree_ups rfl agree_self) ⟨rfl, trivial⟩ ⟨rfl, ?_, ?_⟩ ?_
                    · try dsimp only
                      omega
                    · try dsimp only
                      intro c hc h1 h2
                      by_cases e : c = z
                      · subst e; first | assumption | exact nbf (by assumption) | exact absurd h1 (ntb (by first | assumption | exact nbt (by assumption))) | exact absurd h2 (ntb (by first | assumption | exact nbt (by assumption)))
                      · exact hC c (by omega) h1 h2
                    · first | omega | (dsimp only; omega)
                  · refine lx_nil <| wi_seq <| wi_false rfl <| wi_exit rfl <| wi_inBlock <| wi_reg rfl <| lx_add (((y + 1 : Nat) : Int)) rfl rfl rfl (by omega) (by omega) (by omega) <| lx_move (.int .i64 ((y + 1 : Nat) : Int)) rfl rfl <| lx_nil <| ?_
                    -- L2.3
                    refine IH2 _ _ (y + 1) (agree_ups rfl (agree_mix (rngB_sub (by decide) (by decide) rfl) (agree_ups rfl agree_self))) ⟨rfl, trivial⟩ ⟨rfl, ?_, ?_⟩ ?_
                    · try dsimp only
                      omega
                    · try dsimp only
                      intro b hb
                      by_cases e : b = y
                      · subst e; exact ⟨fun e => (by first | assumption | exact nbf (by assumption) | (exfalso; omega)), fun h1 h2 => (by first | (exfalso; omega) | assumption | exact nbt (by assumption) | exact absurd h2 (ntb (by assumption))), fun c hc h1 h2 => hC c (by omega) h1 h2⟩
                      · exact hB b (by omega)
                    · first | omega | (dsimp only; omega)
                · refine lx_ldB (vp) rfl rfl fl29 hbk1 rfl rfl <| lx_move (.int .i64 ((y : Nat) : Int)) rfl rfl <| lx_ix (i := y) rfl eT29 hr_vp rfl rfl (by first | omega | (simp only [List.length_set, List.length_append, List.length_cons, List.length_nil, List.length_replicate, List.length_take, swp_length, exch_length]; omega)) <| lx_ld (i := y) (j := 0) ((gt hs y).v) rfl rfl fl70 (hr_vp.extS hx1) (by first | omega | (simp only [List.length_set, List.length_append, List.length_cons, List.length_nil, List.length_replicate, List.length_take, swp_length, exch_length]; omega)) rfl rfl <| lx_move (.int .i64 ((x : Nat) : Int)) rfl rfl <| lx_ix (i := x) rfl eT70 (ht_vp.2 y (by first | omega | (simp only [List.length_set, List.length_append, List.length_cons, List.length_nil, List.length_replicate, List.length_take, swp_length, exch_length]; omega))) rfl rfl (by rw [hsq y (by first | omega | (simp only [List.length_set, List.length_append, List.length_cons, List.length_nil, List.length_replicate, List.length_take, swp_length, exch_length]; omega))]; omega) <| lx_ld (i := x) (j := 0) (.bool (gt (gt p y) x)) rfl rfl fl4 ((ht_vp.extS hx1).2 y (by first | omega | (simp only [List.length_set, List.length_append, List.length_cons, List.length_nil, List.length_replicate, List.length_take, swp_length, exch_length]; omega))) (by rw [hsq y (by first | omega | (simp only [List.length_set, List.length_append, List.length_cons, List.length_nil, List.length_replicate, List.length_take, swp_length, exch_length]; omega))]; omega) rfl rfl <| lx_pick true (.bool (gt (gt p y) x)) rfl rfl rfl <| lx_pick false (.bool (gt (gt p y) x)) rfl rfl rfl <| lx_nil <| wi_condS (t := gt (gt p y) x) rfl (fun c19 => ?_) (fun c19 => ?_)
                  · refine wi_seq <| wi_reg rfl <| lx_assign (.int .i64 90) rfl rfl <| lx_nil <| ?_
                    -- R8
                    refine wi_ret ⟨.int .i64 90, (res_one rfl rfl), ⟨?_, hx1⟩⟩
                    · first
                      | (rw [chkT_size (by omega)]; done)
                      | rw [chkT_bad (bad_ok (x := x) (y := y) (by omega) (by omega) (by first | exact bad_tri (z := z) (by omega) (by first | assumption | exact nbf (by assumption) | exact nbt (by assumption)) (by first | assumption | exact nbf (by assumption) | exact nbt (by assumption)) (by first | assumption | exact nbf (by assumption) | exact nbt (by assumption)) | exact bad_refl (by omega) (by first | assumption | exact nbf (by assumption) | exact nbt (by assumption)) | exact bad_anti (by omega) (by first | assumption | exact nbf (by assumption) | exact nbt (by assumption)) (by first | assumption | exact nbf (by assumption) | exact nbt (by assumption))))]
                      | (have h9 : isT p = false := by
                           unfold isT; rw [show sqB p = false from by simpa using ‹(!sqB p) = true›]; rfl
                         rw [chkT_bad h9])
                      | (have h9 : isT p = true := isT_iff.2 ⟨hsQ, fun a b ha hb => hA a (by omega) b hb⟩
                         rw [ok_chkT (by omega) (by omega) h9])
                  · refine wi_skip <| wi_seq <| wi_reg rfl <| lx_ldB (vp) rfl rfl fl29 hbk1 rfl rfl <| lx_len rfl Try.underlying29 hr_vp rfl <| lx_move (.int .i64 0) rfl rfl <| lx_nil <| wi_block <| ?_
                    refine wi_loop (σ := Nat) (rngB 67 97 [2, 5]) (fun (z : Nat) => [(67, .int .i64 ((z : Nat) : Int))]) (fun (z : Nat) (hh : Heap) => h1 = hh ∧ (z ≤ p.length) ∧ (∀ c, c < z → pb p x y = true → pb p y c = true → pb p x c = true)) (fun (z : Nat) => p.length - z) 0 ⟨rfl, trivial⟩ ⟨rfl, ?_, ?_⟩ ?_
                    · try dsimp only
                      omega
                    · try dsimp only
                      intro c hc; omega
                    rintro g6 z hh6 ⟨rfl, hz, hC⟩ IH6
                    refine wi_seq <| wi_reg rfl <| lx_lssS rfl rfl rfl (fun c20 => ?_) (fun c20 => ?_)
                    · refine lx_nil <| wi_seq <| wi_true rfl <| wi_skip <| wi_seq <| wi_block <| wi_seq <| wi_reg rfl <| lx_move (.int .i64 ((z : Nat) : Int)) rfl rfl <| lx_assign (.int .i64 ((z : Nat) : Int)) rfl rfl <| lx_nil <| wi_seq <| wi_reg rfl <| lx_ldB (vp) rfl rfl fl29 hbk1 rfl rfl <| lx_move (.int .i64 ((x : Nat) : Int)) rfl rfl <| lx_ix (i := x) rfl eT29 hr_vp rfl rfl (by first | omega | (simp only [List.length_set, List.length_append, List.length_cons, List.length_nil, List.length_replicate, List.length_take, swp_length, exch_length]; omega)) <| lx_ld (i := x) (j := 0) ((gt hs x).v) rfl rfl fl70 (hr_vp.extS hx1) (by first | omega | (simp only [List.length_set, List.length_append, List.length_cons, List.length_nil, List.length_replicate, List.length_take, swp_length, exch_length]; omega)) rfl rfl <| lx_move (.int .i64 ((y : Nat) : Int)) rfl rfl <| lx_ix (i := y) rfl eT70 (ht_vp.2 x (by first | omega | (simp only [List.length_set, List.length_append, List.length_cons, List.length_nil, List.length_replicate, List.length_take, swp_length, exch_length]; omega))) rfl rfl (by rw [hsq x (by first | omega | (simp only [List.length_set, List.length_append, List.length_cons, List.length_nil, List.length_replicate, List.length_take, swp_length, exch_length]; omega))]; omega) <| lx_ld (i := y) (j := 0) (.bool true) rfl rfl fl4 ((ht_vp.extS hx1).2 x (by first | omega | (simp only [List.length_set, List.length_append, List.length_cons, List.length_nil, List.length_replicate, List.length_take, swp_length, exch_length]; omega))) (by rw [hsq x (by first | omega | (simp only [List.length_set, List.length_append, List.length_cons, List.length_nil, List.length_replicate, List.length_take, swp_length, exch_length]; omega))]; omega) (by show some (Value.bool (gt (gt p x) y)) = _; rw [c17]) rfl <| lx_move (.bool true) rfl rfl <| lx_ldB (vp) rfl rfl fl29 hbk1 rfl rfl <| lx_move (.int .i64 ((y : Nat) : Int)) rfl rfl <| lx_ix (i := y) rfl eT29 hr_vp rfl rfl (by first | omega | (simp only [List.length_set, List.length_append, List.length_cons, List.length_nil, List.length_replicate, List.length_take, swp_length, exch_length]; omega)) <| lx_ld (i := y) (j := 0) ((gt hs y).v) rfl rfl fl70 (hr_vp.extS hx1) (by first | omega | (simp only [List.length_set, List.length_append, List.length_cons, List.length_nil, List.length_replicate, List.length_take, swp_length, exch_length]; omega)) rfl rfl <| lx_move (.int .i64 ((z : Nat) : Int)) rfl rfl <| lx_ix (i := z) rfl eT70 (ht_vp.2 y (by first | omega | (simp only [List.length_set, List.length_append, List.length_cons, List.length_nil, List.length_replicate, List.length_take, swp_length, exch_length]; omega))) rfl rfl (by rw [hsq y (by first | omega | (simp only [List.length_set, List.length_append, List.length_cons, List.length_nil, List.length_replicate, List.length_take, swp_length, exch_length]; omega))]; omega) <| lx_ld (i := z) (j := 0) (.bool (gt (gt p y) z)) rfl rfl fl4 ((ht_vp.extS hx1).2 y (by first | omega | (simp only [List.length_set, List.length_append, List.length_cons, List.length_nil, List.length_replicate, List.length_take, swp_length, exch_length]; omega))) (by rw [hsq y (by first | omega | (simp only [List.length_set, List.length_append, List.length_cons, List.length_nil, List.length_replicate, List.length_take, swp_length, exch_length]; omega))]; omega) rfl rfl <| lx_pick true (.bool (gt (gt p y) z)) rfl rfl rfl <| lx_move (.bool (gt (gt p y) z)) rfl rfl <| ?_
                      cases c21 : (gt (gt p y) z)
                      · refine lx_skip rfl <| lx_skip rfl <| lx_skip rfl <| lx_skip rfl <| lx_skip rfl <| lx_skip rfl <| lx_skip rfl <| lx_skip rfl <| lx_pick false (.bool false) rfl rfl rfl <| lx_nil <| wi_false rfl <| wi_skip <| wi_inBlock <| wi_reg rfl <| lx_add (((z + 1 : Nat) : Int)) rfl rfl rfl (by omega) (by omega) (by omega) <| lx_move (.int .i64 ((z + 1 : Nat) : Int)) rfl rfl <| lx_nil <| ?_
                        -- L4.1
                        refine IH6 _ _ (z + 1) (agree_ups rfl agree_self) ⟨rfl, trivial⟩ ⟨rfl, ?_, ?_⟩ ?_
                        · try dsimp only
                          omega
                        · try dsimp only
                          intro c hc h1 h2
                          by_cases e : c = z
                          · subst e; first | assumption | exact nbf (by assumption) | exact absurd h1 (ntb (by first | assumption | exact nbt (by assumption))) | exact absurd h2 (ntb (by first | assumption | exact nbt (by assumption)))
                          · exact hC c (by omega) h1 h2
                        · first | omega | (dsimp only; omega)
                      · refine lx_ldB (vp) rfl rfl fl29 hbk1 rfl rfl <| lx_move (.int .i64 ((x : Nat) : Int)) rfl rfl <| lx_ix (i := x) rfl eT29 hr_vp rfl rfl (by first | omega | (simp only [List.length_set, List.length_append, List.length_cons, List.length_nil, List.length_replicate, List.length_take, swp_length, exch_length]; omega)) <| lx_ld (i := x) (j := 0) ((gt hs x).v) rfl rfl fl70 (hr_vp.extS hx1) (by first | omega | (simp only [List.length_set, List.length_append, List.length_cons, List.length_nil, List.length_replicate, List.length_take, swp_length, exch_length]; omega)) rfl rfl <| lx_move (.int .i64 ((z : Nat) : Int)) rfl rfl <| lx_ix (i := z) rfl eT70 (ht_vp.2 x (by first | omega | (simp only [List.length_set, List.length_append, List.length_cons, List.length_nil, List.length_replicate, List.length_take, swp_length, exch_length]; omega))) rfl rfl (by rw [hsq x (by first | omega | (simp only [List.length_set, List.length_append, List.length_cons, List.length_nil, List.length_replicate, List.length_take, swp_length, exch_length]; omega))]; omega) <| lx_ld (i := z) (j := 0) (.bool (gt (gt p x) z)) rfl rfl fl4 ((ht_vp.extS hx1).2 x (by first | omega | (simp only [List.length_set, List.length_append, List.length_cons, List.length_nil, List.length_replicate, List.length_take, swp_length, exch_length]; omega))) (by rw [hsq x (by first | omega | (simp only [List.length_set, List.length_append, List.length_cons, List.length_nil, List.length_replicate, List.length_take, swp_length, exch_length]; omega))]; omega) rfl rfl <| lx_not rfl rfl <| lx_pick true (.bool (!(gt (gt p x) z))) rfl rfl rfl <| lx_nil <| wi_condS (t := !(gt (gt p x) z)) rfl (fun c22 => ?_) (fun c22 => ?_)
                        · refine wi_seq <| wi_reg rfl <| lx_assign (.int .i64 90) rfl rfl <| lx_nil <| ?_
                          -- R9
                          refine wi_ret ⟨.int .i64 90, (res_one rfl rfl), ⟨?_, hx1⟩⟩
                          · first
                            | (rw [chkT_size (by omega)]; done)
                            | rw [chkT_bad (bad_ok (x := x) (y := y) (by omega) (by omega) (by first | exact bad_tri (z := z) (by omega) (by first | assumption | exact nbf (by assumption) | exact nbt (by assumption)) (by first | assumption | exact nbf (by assumption) | exact nbt (by assumption)) (by first | assumption | exact nbf (by assumption) | exact nbt (by assumption)) | exact bad_refl (by omega) (by first | assumption | exact nbf (by assumption) | exact nbt (by assumption)) | exact bad_anti (by omega) (by first | assumption | exact nbf (by assumption) | exact nbt (by assumption)) (by first | assumption | exact nbf (by assumption) | exact nbt (by assumption))))]
                            | (have h9 : isT p = false := by
                                 unfold isT; rw [show sqB p = false from by simpa using ‹(!sqB p) = true›]; rfl
                               rw [chkT_bad h9])
                            | (have h9 : isT p = true := isT_iff.2 ⟨hsQ, fun a b ha hb => hA a (by omega) b hb⟩
                               rw [ok_chkT (by omega) (by omega) h9])
                        · refine wi_skip <| wi_inBlock <| wi_reg rfl <| lx_add (((z + 1 : Nat) : Int)) rfl rfl rfl (by omega) (by omega) (by omega) <| lx_move (.int .i64 ((z + 1 : Nat) : Int)) rfl rfl <| lx_nil <| ?_
                          -- L4.2
                          refine IH6 _ _ (z + 1) (agree_ups rfl agree_self) ⟨rfl, trivial⟩ ⟨rfl, ?_, ?_⟩ ?_
                          · try dsimp only
                            omega
                          · try dsimp only
                            intro c hc h1 h2
                            by_cases e : c = z
                            · subst e; first | assumption | exact nbf (by assumption) | exact absurd h1 (ntb (by first | assumption | exact nbt (by assumption))) | exact absurd h2 (ntb (by first | assumption | exact nbt (by assumption)))
                            · exact hC c (by omega) h1 h2
                          · first | omega | (dsimp only; omega)
                    · refine lx_nil <| wi_seq <| wi_false rfl <| wi_exit rfl <| wi_inBlock <| wi_reg rfl <| lx_add (((y + 1 : Nat) : Int)) rfl rfl rfl (by omega) (by omega) (by omega) <| lx_move (.int .i64 ((y + 1 : Nat) : Int)) rfl rfl <| lx_nil <| ?_
                      -- L2.4
                      refine IH2 _ _ (y + 1) (agree_ups rfl (agree_mix (rngB_sub (by decide) (by decide) rfl) (agree_ups rfl agree_self))) ⟨rfl, trivial⟩ ⟨rfl, ?_, ?_⟩ ?_
                      · try dsimp only
                        omega
                      · try dsimp only
                        intro b hb
                        by_cases e : b = y
                        · subst e; exact ⟨fun e => (by first | assumption | exact nbf (by assumption) | (exfalso; omega)), fun h1 h2 => (by first | (exfalso; omega) | assumption | exact nbt (by assumption) | exact absurd h2 (ntb (by assumption))), fun c hc h1 h2 => hC c (by omega) h1 h2⟩
                        · exact hB b (by omega)
                      · first | omega | (dsimp only; omega)
              · refine lx_move (.bool false) rfl rfl <| lx_skip rfl <| lx_skip rfl <| lx_skip rfl <| lx_skip rfl <| lx_skip rfl <| lx_skip rfl <| lx_skip rfl <| lx_pick false (.bool false) rfl rfl rfl <| lx_move (.bool false) rfl rfl <| lx_skip rfl <| lx_skip rfl <| lx_skip rfl <| lx_skip rfl <| lx_skip rfl <| lx_skip rfl <| lx_skip rfl <| lx_pick false (.bool false) rfl rfl rfl <| lx_pick false (.bool false) rfl rfl rfl <| lx_nil <| wi_false rfl <| wi_skip <| wi_seq <| wi_reg rfl <| lx_ldB (vp) rfl rfl fl29 hbk1 rfl rfl <| lx_len rfl Try.underlying29 hr_vp rfl <| lx_move (.int .i64 0) rfl rfl <| lx_nil <| wi_block <| ?_
                refine wi_loop (σ := Nat) (rngB 67 97 [2, 5]) (fun (z : Nat) => [(67, .int .i64 ((z : Nat) : Int))]) (fun (z : Nat) (hh : Heap) => h1 = hh ∧ (z ≤ p.length) ∧ (∀ c, c < z → pb p x y = true → pb p y c = true → pb p x c = true)) (fun (z : Nat) => p.length - z) 0 ⟨rfl, trivial⟩ ⟨rfl, ?_, ?_⟩ ?_
                · try dsimp only
                  omega
                · try dsimp only
                  intro c hc; omega
                rintro g7 z hh7 ⟨rfl, hz, hC⟩ IH7
                refine wi_seq <| wi_reg rfl <| lx_lssS rfl rfl rfl (fun c23 => ?_) (fun c23 => ?_)
                · refine lx_nil <| wi_seq <| wi_true rfl <| wi_skip <| wi_seq <| wi_block <| wi_seq <| wi_reg rfl <| lx_move (.int .i64 ((z : Nat) : Int)) rfl rfl <| lx_assign (.int .i64 ((z : Nat) : Int)) rfl rfl <| lx_nil <| wi_seq <| wi_reg rfl <| lx_ldB (vp) rfl rfl fl29 hbk1 rfl rfl <| lx_move (.int .i64 ((x : Nat) : Int)) rfl rfl <| lx_ix (i := x) rfl eT29 hr_vp rfl rfl (by first | omega | (simp only [List.length_set, List.length_append, List.length_cons, List.length_nil, List.length_replicate, List.length_take, swp_length, exch_length]; omega)) <| lx_ld (i := x) (j := 0) ((gt hs x).v) rfl rfl fl70 (hr_vp.extS hx1) (by first | omega | (simp only [List.length_set, List.length_append, List.length_cons, List.length_nil, List.length_replicate, List.length_take, swp_length, exch_length]; omega)) rfl rfl <| lx_move (.int .i64 ((y : Nat) : Int)) rfl rfl <| lx_ix (i := y) rfl eT70 (ht_vp.2 x (by first | omega | (simp only [List.length_set, List.length_append, List.length_cons, List.length_nil, List.length_replicate, List.length_take, swp_length, exch_length]; omega))) rfl rfl (by rw [hsq x (by first | omega | (simp only [List.length_set, List.length_append, List.length_cons, List.length_nil, List.length_replicate, List.length_take, swp_length, exch_length]; omega))]; omega) <| lx_ld (i := y) (j := 0) (.bool (gt (gt p x) y)) rfl rfl fl4 ((ht_vp.extS hx1).2 x (by first | omega | (simp only [List.length_set, List.length_append, List.length_cons, List.length_nil, List.length_replicate, List.length_take, swp_length, exch_length]; omega))) (by rw [hsq x (by first | omega | (simp only [List.length_set, List.length_append, List.length_cons, List.length_nil, List.length_replicate, List.length_take, swp_length, exch_length]; omega))]; omega) rfl rfl <| lx_move (.bool (gt (gt p x) y)) rfl rfl <| ?_
                  cases c24 : (gt (gt p x) y)
                  · refine lx_skip rfl <| lx_skip rfl <| lx_skip rfl <| lx_skip rfl <| lx_skip rfl <| lx_skip rfl <| lx_skip rfl <| lx_pick false (.bool false) rfl rfl rfl <| lx_move (.bool false) rfl rfl <| lx_skip rfl <| lx_skip rfl <| lx_skip rfl <| lx_skip rfl <| lx_skip rfl <| lx_skip rfl <| lx_skip rfl <| lx_skip rfl <| lx_pick false (.bool false) rfl rfl rfl <| lx_nil <| wi_false rfl <| wi_skip <| wi_inBlock <| wi_reg rfl <| lx_add (((z + 1 : Nat) : Int)) rfl rfl rfl (by omega) (by omega) (by omega) <| lx_move (.int .i64 ((z + 1 : Nat) : Int)) rfl rfl <| lx_nil <| ?_
                    -- L4.1
                    refine IH7 _ _ (z + 1) (agree_ups rfl agree_self) ⟨rfl, trivial⟩ ⟨rfl, ?_, ?_⟩ ?_
                    · try dsimp only
                      omega
                    · try dsimp only
                      intro c hc h1 h2
                      by_cases e : c = z
                      · subst e; first | assumption | exact nbf (by assumption) | exact absurd h1 (ntb (by first | assumption | exact nbt (by assumption))) | exact absurd h2 (ntb (by first | assumption | exact nbt (by assumption)))
                      · exact hC c (by omega) h1 h2
                    · first | omega | (dsimp only; omega)
                  · refine lx_ldB (vp) rfl rfl fl29 hbk1 rfl rfl <| lx_move (.int .i64 ((y : Nat) : Int)) rfl rfl <| lx_ix (i := y) rfl eT29 hr_vp rfl rfl (by first | omega | (simp only [List.length_set, List.length_append, List.length_cons, List.length_nil, List.length_replicate, List.length_take, swp_length, exch_length]; omega)) <| lx_ld (i := y) (j := 0) ((gt hs y).v) rfl rfl fl70 (hr_vp.extS hx1) (by first | omega | (simp only [List.length_set, List.length_append, List.length_cons, List.length_nil, List.length_replicate, List.length_take, swp_length, exch_length]; omega)) rfl rfl <| lx_move (.int .i64 ((z : Nat) : Int)) rfl rfl <| lx_ix (i := z) rfl eT70 (ht_vp.2 y (by first | omega | (simp only [List.length_set, List.length_append, List.length_cons, List.length_nil, List.length_replicate, List.length_take, swp_length, exch_length]; omega))) rfl rfl (by rw [hsq y (by first | omega | (simp only [List.length_set, List.length_append, List.length_cons, List.length_nil, List.length_replicate, List.length_take, swp_length, exch_length]; omega))]; omega) <| lx_ld (i := z) (j := 0) (.bool (gt (gt p y) z)) rfl rfl fl4 ((ht_vp.extS hx1).2 y (by first | omega | (simp only [List.length_set, List.length_append, List.length_cons, List.length_nil, List.length_replicate, List.length_take, swp_length, exch_length]; omega))) (by rw [hsq y (by first | omega | (simp only [List.length_set, List.length_append, List.length_cons, List.length_nil, List.length_replicate, List.length_take, swp_length, exch_length]; omega))]; omega) rfl rfl <| lx_pick true (.bool (gt (gt p y) z)) rfl rfl rfl <| lx_move (.bool (gt (gt p y) z)) rfl rfl <| ?_
                    cases c25 : (gt (gt p y) z)
                    · refine lx_skip rfl <| lx_skip rfl <| lx_skip rfl <| lx_skip rfl <| lx_skip rfl <| lx_skip rfl <| lx_skip rfl <| lx_skip rfl <| lx_pick false (.bool false) rfl rfl rfl <| lx_nil <| wi_false rfl <| wi_skip <| wi_inBlock <| wi_reg rfl <| lx_add (((z + 1 : Nat) : Int)) rfl rfl rfl (by omega) (by omega) (by omega) <| lx_move (.int .i64 ((z + 1 : Nat) : Int)) rfl rfl <| lx_nil <| ?_
                      -- L4.2
                      refine IH7 _ _ (z + 1) (agree_ups rfl agree_self) ⟨rfl, trivial⟩ ⟨rfl, ?_, ?_⟩ ?_
                      · try dsimp only
                        omega
                      · try dsimp only
                        intro c hc h1 h2
                        by_cases e : c = z
                        · subst e; first | assumption | exact nbf (by assumption) | exact absurd h1 (ntb (by first | assumption | exact nbt (by assumption))) | exact absurd h2 (ntb (by first | assumption | exact nbt (by assumption)))
                        · exact hC c (by omega) h1 h2
                      · first | omega | (dsimp only; omega)
                    · refine lx_ldB (vp) rfl rfl fl29 hbk1 rfl rfl <| lx_move (.int .i64 ((x : Nat) : Int)) rfl rfl <| lx_ix (i := x) rfl eT29 hr_vp rfl rfl (by first | omega | (simp only [List.length_set, List.length_append, List.length_cons, List.length_nil, List.length_replicate, List.length_take, swp_length, exch_length]; omega)) <| lx_ld (i := x) (j := 0) ((gt hs x).v) rfl rfl fl70 (hr_vp.extS hx1) (by first | omega | (simp only [List.length_set, List.length_append, List.length_cons, List.length_nil, List.length_replicate, List.length_take, swp_length, exch_length]; omega)) rfl rfl <| lx_move (.int .i64 ((z : Nat) : Int)) rfl rfl <| lx_ix (i := z) rfl eT70 (ht_vp.2 x (by first | omega | (simp only [List.length_set, List.length_append, List.length_cons, List.length_nil, List.length_replicate, List.length_take, swp_length, exch_length]; omega))) rfl rfl (by rw [hsq x (by first | omega | (simp only [List.length_set, List.length_append, List.length_cons, List.length_nil, List.length_replicate, List.length_take, swp_length, exch_length]; omega))]; omega) <| lx_ld (i := z) (j := 0) (.bool (gt (gt p x) z)) rfl rfl fl4 ((ht_vp.extS hx1).2 x (by first | omega | (simp only [List.length_set, List.length_append, List.length_cons, List.length_nil, List.length_replicate, List.length_take, swp_length, exch_length]; omega))) (by rw [hsq x (by first | omega | (simp only [List.length_set, List.length_append, List.length_cons, List.length_nil, List.length_replicate, List.length_take, swp_length, exch_length]; omega))]; omega) rfl rfl <| lx_not rfl rfl <| lx_pick true (.bool (!(gt (gt p x) z))) rfl rfl rfl <| lx_nil <| wi_condS (t := !(gt (gt p x) z)) rfl (fun c26 => ?_) (fun c26 => ?_)
                      · refine wi_seq <| wi_reg rfl <| lx_assign (.int .i64 90) rfl rfl <| lx_nil <| ?_
                        -- R10
                        refine wi_ret ⟨.int .i64 90, (res_one rfl rfl), ⟨?_, hx1⟩⟩
                        · first
                          | (rw [chkT_size (by omega)]; done)
                          | rw [chkT_bad (bad_ok (x := x) (y := y) (by omega) (by omega) (by first | exact bad_tri (z := z) (by omega) (by first | assumption | exact nbf (by assumption) | exact nbt (by assumption)) (by first | assumption | exact nbf (by assumption) | exact nbt (by assumption)) (by first | assumption | exact nbf (by assumption) | exact nbt (by assumption)) | exact bad_refl (by omega) (by first | assumption | exact nbf (by assumption) | exact nbt (by assumption)) | exact bad_anti (by omega) (by first | assumption | exact nbf (by assumption) | exact nbt (by assumption)) (by first | assumption | exact nbf (by assumption) | exact nbt (by assumption))))]
                          | (have h9 : isT p = false := by
                               unfold isT; rw [show sqB p = false from by simpa using ‹(!sqB p) = true›]; rfl
                             rw [chkT_bad h9])
                          | (have h9 : isT p = true := isT_iff.2 ⟨hsQ, fun a b ha hb => hA a (by omega) b hb⟩
                             rw [ok_chkT (by omega) (by omega) h9])
                      · refine wi_skip <| wi_inBlock <| wi_reg rfl <| lx_add (((z + 1 : Nat) : Int)) rfl rfl rfl (by omega) (by omega) (by omega) <| lx_move (.int .i64 ((z + 1 : Nat) : Int)) rfl rfl <| lx_nil <| ?_
                        -- L4.3
                        refine IH7 _ _ (z + 1) (agree_ups rfl agree_self) ⟨rfl, trivial⟩ ⟨rfl, ?_, ?_⟩ ?_
                        · try dsimp only
                          omega
                        · try dsimp only
                          intro c hc h1 h2
                          by_cases e : c = z
                          · subst e; first | assumption | exact nbf (by assumption) | exact absurd h1 (ntb (by first | assumption | exact nbt (by assumption))) | exact absurd h2 (ntb (by first | assumption | exact nbt (by assumption)))
                          · exact hC c (by omega) h1 h2
                        · first | omega | (dsimp only; omega)
                · refine lx_nil <| wi_seq <| wi_false rfl <| wi_exit rfl <| wi_inBlock <| wi_reg rfl <| lx_add (((y + 1 : Nat) : Int)) rfl rfl rfl (by omega) (by omega) (by omega) <| lx_move (.int .i64 ((y + 1 : Nat) : Int)) rfl rfl <| lx_nil <| ?_
                  -- L2.5
                  refine IH2 _ _ (y + 1) (agree_ups rfl (agree_mix (rngB_sub (by decide) (by decide) rfl) (agree_ups rfl agree_self))) ⟨rfl, trivial⟩ ⟨rfl, ?_, ?_⟩ ?_
                  · try dsimp only
                    omega
                  · try dsimp only
                    intro b hb
                    by_cases e : b = y
                    · subst e; exact ⟨fun e => (by first | assumption | exact nbf (by assumption) | (exfalso; omega)), fun h1 h2 => (by first | (exfalso; omega) | assumption | exact nbt (by assumption) | exact absurd h2 (ntb (by assumption))), fun c hc h1 h2 => hC c (by omega) h1 h2⟩
                    · exact hB b (by omega)
                  · first | omega | (dsimp only; omega)
          · refine lx_nil <| wi_seq <| wi_false rfl <| wi_exit rfl <| wi_inBlock <| wi_reg rfl <| lx_add (((x + 1 : Nat) : Int)) rfl rfl rfl (by omega) (by omega) (by omega) <| lx_move (.int .i64 ((x + 1 : Nat) : Int)) rfl rfl <| lx_nil <| ?_
            -- L0.1
            refine IH1 _ _ (x + 1) (agree_ups rfl (agree_mix (rngB_sub (by decide) (by decide) rfl) (agree_ups rfl agree_self))) ⟨rfl, trivial⟩ ⟨rfl, ?_, ?_⟩ ?_
            · try dsimp only
              omega
            · try dsimp only
              intro a ha b hb
              by_cases e : a = x
              · subst e; exact hB b (by omega)
              · exact hA a (by omega) b hb
            · first | omega | (dsimp only; omega)
        · refine lx_nil <| wi_seq <| wi_false rfl <| wi_exit rfl <| wi_seq <| wi_reg rfl <| lx_assign (.int .i64 0) rfl rfl <| lx_nil <| ?_
          -- R11
          refine wi_ret ⟨.int .i64 0, (res_one rfl rfl), ⟨?_, hx1⟩⟩
          · first
            | (rw [chkT_size (by omega)]; done)
            | rw [chkT_bad (bad_ok (x := x) (y := y) (by omega) (by omega) (by first | exact bad_tri (z := z) (by omega) (by first | assumption | exact nbf (by assumption) | exact nbt (by assumption)) (by first | assumption | exact nbf (by assumption) | exact nbt (by assumption)) (by first | assumption | exact nbf (by assumption) | exact nbt (by assumption)) | exact bad_refl (by omega) (by first | assumption | exact nbf (by assumption) | exact nbt (by assumption)) | exact bad_anti (by omega) (by first | assumption | exact nbf (by assumption) | exact nbt (by assumption)) (by first | assumption | exact nbf (by assumption) | exact nbt (by assumption))))]
            | (have h9 : isT p = false := by
                 unfold isT; rw [show sqB p = false from by simpa using ‹(!sqB p) = true›]; rfl
               rw [chkT_bad h9])
            | (have h9 : isT p = true := isT_iff.2 ⟨hsQ, fun a b ha hb => hA a (by omega) b hb⟩
               rw [ok_chkT (by omega) (by omega) h9])

end Go.Proofs.Ytdokijbdnajhgaa
namespace Go.Proofs.Ytdokijbdnajhgaa
open Go Go.X

set_option maxRecDepth 10000 in
theorem obare_spec (h : Heap) (n : Nat) (hp1 : n ≤ 1000000) : Fx Try.prog 115 [.int .i64 ((n : Nat) : Int)] h (fun v h' => ∃ (s : Value) (hs : List Hdr), v = s ∧ OwE encHd h' h.size 70 s hs ∧ OT encB h' h.size 4 hs (tabF n (fun x y => decide (x = y))) ∧ Ext h.size h h') := by
  refine fx_intro (n := 25) [(0, .int .i64 ((n : Nat) : Int))] Try.func115 rfl rfl (by simp) ⟨rfl, trivial⟩ fun g0 => ?_
  refine wi_seq <| wi_reg rfl <| lx_assign (.slice none 0 0) rfl rfl <| lx_nil <| wi_seq <| wi_reg rfl <| lx_move (.int .i64 ((n : Nat) : Int)) rfl rfl <| lx_make (E := encHd) (n := n) (B := h.size) (default : Hdr) rfl rfl Try.underlying29 (eZ29) rfl rfl (by omega) (by omega) (Nat.le_refl _) (fun _ _ => trivial) fun v1 h1 ho1 hx1 hvb1 => ?_
  have ho2 := ho1.base (Nat.le_refl h.size)
  have hot1 := OT.rep encB h1 h.size 4 n
  have hl_hot1 := hot1.1
  refine lx_assign (v1) rfl rfl <| lx_nil <| wi_seq <| wi_seq <| wi_reg rfl <| lx_move (v1) rfl rfl <| lx_len rfl Try.underlying29 ho2.rd rfl <| lx_move (.int .i64 0) rfl rfl <| lx_nil <| wi_block <| ?_
  refine wi_loop (σ := Nat × (List Hdr) × (List (List Bool))) (rngB 9 24 [4]) (fun (ss : Nat × (List Hdr) × (List (List Bool))) => [(9, .int .i64 ((ss.1 : Nat) : Int))]) (fun (ss : Nat × (List Hdr) × (List (List Bool))) (hh : Heap) => OwE encHd hh h.size 70 v1 ss.2.1 ∧ OT encB hh h.size 4 ss.2.1 ss.2.2 ∧ Ext h.size h hh ∧ (ss.1 ≤ n) ∧ (ss.2.2.length = n) ∧ (∀ i, i < ss.1 → gt ss.2.2 i = rowF n fun j => decide (i = j))) (fun (ss : Nat × (List Hdr) × (List (List Bool))) => n - ss.1) (0, List.replicate n default, List.replicate n []) ⟨rfl, trivial⟩ ⟨?_, ?_, hx1, ?_, ?_, ?_⟩ ?_
  · first | exact ho2 | (simpa using ho2)
  · first | exact hot1 | (simpa using hot1)
  · try dsimp only
    omega
  · try dsimp only
    simp
  · try dsimp only
    intro i hi; omega
  rintro g1 ⟨x, hs, rows⟩ hh1 ⟨ho3, hot2, hx0_1, hx, hrl, hrw⟩ IH1
  dsimp only at *
  have hrr : (List.replicate n ([] : List Bool)).length = n := by simp
  have hrr2 : (List.replicate n (default : Hdr)).length = n := by simp
  have hl_hot2 := hot2.1
  refine wi_seq <| wi_reg rfl <| lx_lssS rfl rfl rfl (fun c1 => ?_) (fun c1 => ?_)
  · refine lx_nil <| wi_seq <| wi_true rfl <| wi_skip <| wi_seq <| wi_block <| wi_seq <| wi_reg rfl <| lx_move (.int .i64 ((x : Nat) : Int)) rfl rfl <| lx_assign (.int .i64 ((x : Nat) : Int)) rfl rfl <| lx_nil <| wi_seq <| wi_reg rfl <| lx_move (v1) rfl rfl <| lx_move (.int .i64 ((x : Nat) : Int)) rfl rfl <| lx_move (.int .i64 ((n : Nat) : Int)) rfl rfl <| lx_make (E := encB) (n := n) (B := hh1.size) false rfl rfl Try.underlying70 (eZ70) rfl rfl (by omega) (by omega) (Nat.le_refl _) (fun _ _ => trivial) fun v2 h2 ho4 hx2 hvb2 => ?_
    have hx0_2 := hx0_1.trans2 hx2 hx0_1.size
    have ho5 := ho3.extS hx2
    have hot3 := hot2.extS hx2
    have ho6 := ho4.base hx0_1.size
    have hot4 : OT encB h2 h.size 4 (hs.set x (hdrOf v2)) (rows.set x (List.replicate n false)) := OT.set hot3 (by first | omega | (simp only [List.length_set, List.length_append, List.length_cons, List.length_nil, List.length_replicate, List.length_take, swp_length, exch_length]; omega)) ho6 (djt_ne (djt_new hot2 ho4))
    refine lx_ix (i := x) rfl eT29 ho5.rd rfl rfl (by first | omega | (simp only [List.length_set, List.length_append, List.length_cons, List.length_nil, List.length_replicate, List.length_take, swp_length, exch_length]; omega)) <| lx_st (i := x) (hdrOf v2) rfl rfl Try.sizeOf70 ho5 (by first | omega | (simp only [List.length_set, List.length_append, List.length_cons, List.length_nil, List.length_replicate, List.length_take, swp_length, exch_length]; omega)) rfl (hdr_cells ho6.rd) (fun _ _ _ _ _ => trivial) fun h3 ho7 hc1 hsz1 => ?_
    have hx0_3 := hx0_2.trans (ho5.ext hc1 hx0_2.size)
    have hot5 : OT encB h3 h.size 4 (hs.set x (hdrOf v2)) (rows.set x (List.replicate n false)) := hot4.chg hc1 (djt_ty hot4 ho5 (by decide))
    have hl_hot5 := hot5.1
    have ho7 : OwE encHd h3 h.size 70 v1 (hs.set x (hdrOf v2)) := ho7
    refine lx_nil <| wi_reg rfl <| ?_
    have hgx : (gt (rows.set x (List.replicate n false)) x).length = n := by rw [gt_set (by omega), if_pos rfl]; simp
    refine lx_move (v1) rfl rfl <| lx_move (.int .i64 ((x : Nat) : Int)) rfl rfl <| lx_ix (i := x) rfl eT29 ho7.rd rfl rfl (by first | omega | (simp only [List.length_set, List.length_append, List.length_cons, List.length_nil, List.length_replicate, List.length_take, swp_length, exch_length]; omega)) <| lx_ld (i := x) (j := 0) ((gt (hs.set x (hdrOf v2)) x).v) rfl rfl fl70 ho7.rd (by first | omega | (simp only [List.length_set, List.length_append, List.length_cons, List.length_nil, List.length_replicate, List.length_take, swp_length, exch_length]; omega)) rfl rfl <| lx_move (.int .i64 ((x : Nat) : Int)) rfl rfl <| lx_ix (i := x) rfl eT70 (hot5.2.1 x (by first | omega | (simp only [List.length_set, List.length_append, List.length_cons, List.length_nil, List.length_replicate, List.length_take, swp_length, exch_length]; omega))).rd rfl rfl (by first | omega | (simp only [List.length_set, List.length_append, List.length_cons, List.length_nil, List.length_replicate, List.length_take, swp_length, exch_length]; omega)) <| lx_st (i := x) true rfl rfl Try.sizeOf4 (hot5.2.1 x (by first | omega | (simp only [List.length_set, List.length_append, List.length_cons, List.length_nil, List.length_replicate, List.length_take, swp_length, exch_length]; omega))) (by first | omega | (simp only [List.length_set, List.length_append, List.length_cons, List.length_nil, List.length_replicate, List.length_take, swp_length, exch_length]; omega)) rfl rfl (fun _ _ _ _ _ => trivial) fun h4 ho8 hc2 hsz2 => ?_
    have hx0_4 := hx0_3.trans ((hot5.2.1 x (by first | omega | (simp only [List.length_set, List.length_append, List.length_cons, List.length_nil, List.length_replicate, List.length_take, swp_length, exch_length]; omega))).ext hc2 hx0_3.size)
    have ho9 := ho7.chg hc2 (Dj.symm ((djt_ty hot5 ho7 (by decide)) x (by rw [hot5.1]; exact (by first | omega | (simp only [List.length_set, List.length_append, List.length_cons, List.length_nil, List.length_replicate, List.length_take, swp_length, exch_length]; omega)))))
    have hot6 := OT.cell hot5 (by first | omega | (simp only [List.length_set, List.length_append, List.length_cons, List.length_nil, List.length_replicate, List.length_take, swp_length, exch_length]; omega)) hc2 ho8
    have hl_hot6 := hot6.1
    refine lx_nil <| wi_inBlock <| wi_reg rfl <| lx_add (((x + 1 : Nat) : Int)) rfl rfl rfl (by omega) (by omega) (by omega) <| lx_move (.int .i64 ((x + 1 : Nat) : Int)) rfl rfl <| lx_nil <| ?_
    -- L0.1
    refine IH1 _ _ (x + 1, hs.set x (hdrOf v2), (rows.set x (List.replicate n false)).set x ((gt (rows.set x (List.replicate n false)) x).set x true)) (agree_ups rfl agree_self) ⟨rfl, trivial⟩ ⟨?_, ?_, hx0_4, ?_, ?_, ?_⟩ ?_
    · first | exact ho9 | (simpa using ho9)
    · first | exact hot6 | (simpa using hot6)
    · try dsimp only
      omega
    · try dsimp only
      simpa using hrl
    · try dsimp only
      intro i hi
      rw [gt_set (by simpa using by omega)]
      split
      · rename_i e; subst e; rw [gt_set (by omega), if_pos rfl]; exact id_row (by omega)
      · rename_i e; rw [gt_set (by omega), if_neg e]; exact hrw i (by omega)
    · first | omega | (dsimp only; omega)
  · refine lx_nil <| wi_seq <| wi_false rfl <| wi_exit rfl <| wi_seq <| wi_reg rfl <| lx_move (v1) rfl rfl <| lx_assign (v1) rfl rfl <| lx_nil <| ?_
    -- R1
    refine wi_ret ⟨v1, (res_one rfl rfl), ⟨v1, hs, rfl, ?_, ?_, hx0_1⟩⟩
    · exact ho3
    · rw [← tab_rows hrl (fun i hi => hrw i (by omega))]; exact hot2

set_option maxRecDepth 10000 in
theorem oclosed_spec (h : Heap) (B : Nat) (vp : Value) (hs : List Hdr) (p : List (List Bool)) (ho_vp : OwE encHd h B 70 vp hs) (ht_vp : OT encB h B 4 hs p) (hB : B ≤ h.size) (hp1 : p.length ≤ 1000000) (hp2 : Sq p p.length) : Fx Try.prog 116 [vp] h (fun v h' => ∃ (r : List (List Bool)), v = vp ∧ OwE encHd h' B 70 vp hs ∧ OT encB h' B 4 hs r ∧ (r = tabF p.length (warN (pb p) p.length)) ∧ Ext B h h') := by
  have hl_vp := ht_vp.1
  refine fx_intro (n := 56) [(0, vp)] Try.func116 rfl rfl (by simp) ⟨rfl, trivial⟩ fun g0 => ?_
  refine wi_seq <| wi_reg rfl <| lx_assign (.slice none 0 0) rfl rfl <| lx_nil <| wi_seq <| wi_seq <| wi_reg rfl <| lx_move (vp) rfl rfl <| lx_len rfl Try.underlying29 ho_vp.rd rfl <| lx_move (.int .i64 0) rfl rfl <| lx_nil <| wi_block <| ?_
  refine wi_loop (σ := Nat × (List (List Bool))) (rngB 8 55 [3, 4, 5]) (fun (ss : Nat × (List (List Bool))) => [(8, .int .i64 ((ss.1 : Nat) : Int))]) (fun (ss : Nat × (List (List Bool))) (hh : Heap) => OwE encHd hh B 70 vp hs ∧ OT encB hh B 4 hs ss.2 ∧ Ext B h hh ∧ (ss.1 ≤ p.length) ∧ (Sq ss.2 p.length) ∧ (∀ a c, a < p.length → c < p.length → pb ss.2 a c = warN (pb p) ss.1 a c)) (fun (ss : Nat × (List (List Bool))) => p.length - ss.1) (0, p) ⟨rfl, trivial⟩ ⟨?_, ?_, (Ext.refl _ _), ?_, ?_, ?_⟩ ?_
  · first | exact ho_vp | (simpa using ho_vp)
  · first | exact ht_vp | (simpa using ht_vp)
  · try dsimp only
    omega
  · try dsimp only
    exact hp2
  · try dsimp only
    exact fun _ _ _ _ => rfl
  rintro g1 ⟨y, r⟩ hh1 ⟨ho1, hot1, hx0_1, hy, hq, hr⟩ IH1
  dsimp only at *
  have hq1 := hq.1
  have hl_hot1 := hot1.1
  refine wi_seq <| wi_reg rfl <| lx_lssS rfl rfl rfl (fun c1 => ?_) (fun c1 => ?_)
  · refine lx_nil <| wi_seq <| wi_true rfl <| wi_skip <| wi_seq <| wi_block <| wi_seq <| wi_reg rfl <| lx_move (.int .i64 ((y : Nat) : Int)) rfl rfl <| lx_assign (.int .i64 ((y : Nat) : Int)) rfl rfl <| lx_nil <| wi_seq <| wi_reg rfl <| lx_move (vp) rfl rfl <| lx_len rfl Try.underlying29 ho1.rd rfl <| lx_move (.int .i64 0) rfl rfl <| lx_nil <| wi_block <| ?_
    refine wi_loop (σ := Nat × (List (List Bool))) (rngB 13 54 [4, 5]) (fun (ss : Nat × (List (List Bool))) => [(13, .int .i64 ((ss.1 : Nat) : Int))]) (fun (ss : Nat × (List (List Bool))) (hh : Heap) => OwE encHd hh B 70 vp hs ∧ OT encB hh B 4 hs ss.2 ∧ Ext B h hh ∧ (ss.1 ≤ p.length) ∧ (Sq ss.2 p.length) ∧ (∀ a c, a < p.length → c < p.length → pb ss.2 a c = warS (warN (pb p) y) y ss.1 0 a c)) (fun (ss : Nat × (List (List Bool))) => p.length - ss.1) (0, r) ⟨rfl, trivial⟩ ⟨?_, ?_, hx0_1, ?_, ?_, ?_⟩ ?_
    · first | exact ho1 | (simpa using ho1)
    · first | exact hot1 | (simpa using hot1)
    · try dsimp only
      omega
    · try dsimp only
      exact hq
    · try dsimp only
      intro a c ha hc; rw [warS_zero]; exact hr a c ha hc
    rintro g2 ⟨x, r⟩ hh2 ⟨ho2, hot2, hx0_2, hx, hq, hr⟩ IH2
    dsimp only at *
    have hq1 := hq.1
    have hl_hot2 := hot2.1
    refine wi_seq <| wi_reg rfl <| lx_lssS rfl rfl rfl (fun c2 => ?_) (fun c2 => ?_)
    · refine lx_nil <| wi_seq <| wi_true rfl <| wi_skip <| wi_seq <| wi_block <| wi_seq <| wi_reg rfl <| lx_move (.int .i64 ((x : Nat) : Int)) rfl rfl <| lx_assign (.int .i64 ((x : Nat) : Int)) rfl rfl <| lx_nil <| wi_seq <| wi_reg rfl <| lx_move (vp) rfl rfl <| lx_len rfl Try.underlying29 ho2.rd rfl <| lx_move (.int .i64 0) rfl rfl <| lx_nil <| wi_block <| ?_
      refine wi_loop (σ := Nat × (List (List Bool))) (rngB 18 53 [5]) (fun (ss : Nat × (List (List Bool))) => [(18, .int .i64 ((ss.1 : Nat) : Int))]) (fun (ss : Nat × (List (List Bool))) (hh : Heap) => OwE encHd hh B 70 vp hs ∧ OT encB hh B 4 hs ss.2 ∧ Ext B h hh ∧ (ss.1 ≤ p.length) ∧ (Sq ss.2 p.length) ∧ (∀ a c, a < p.length → c < p.length → pb ss.2 a c = warS (warN (pb p) y) y x ss.1 a c)) (fun (ss : Nat × (List (List Bool))) => p.length - ss.1) (0, r) ⟨rfl, trivial⟩ ⟨?_, ?_, hx0_2, ?_, ?_, ?_⟩ ?_
      · first | exact ho2 | (simpa using ho2)
      · first | exact hot2 | (simpa using hot2)
      · try dsimp only
        omega
      · try dsimp only
        exact hq
      · try dsimp only
        exact hr
      rintro g3 ⟨z, r⟩ hh3 ⟨ho3, hot3, hx0_3, hz, hq, hr⟩ IH3
      dsimp only at *
      have hq1 := hq.1
      have hl_hot3 := hot3.1
      refine wi_seq <| wi_reg rfl <| lx_lssS rfl rfl rfl (fun c3 => ?_) (fun c3 => ?_)
      · refine lx_nil <| wi_seq <| wi_true rfl <| wi_skip <| wi_seq <| wi_block <| wi_seq <| wi_reg rfl <| lx_move (.int .i64 ((z : Nat) : Int)) rfl rfl <| lx_assign (.int .i64 ((z : Nat) : Int)) rfl rfl <| lx_nil <| wi_draw mo rfl (by decide +kernel) <| lx_move (vp) rfl rfl <| lx_move (.int .i64 ((x : Nat) : Int)) rfl rfl <| lx_ix (i := x) rfl eT29 ho3.rd rfl rfl (by first | omega | (simp only [List.length_set, List.length_append, List.length_cons, List.length_nil, List.length_replicate, List.length_take, swp_length, exch_length]; omega)) <| lx_ld (i := x) (j := 0) ((gt hs x).v) rfl rfl fl70 ho3.rd (by first | omega | (simp only [List.length_set, List.length_append, List.length_cons, List.length_nil, List.length_replicate, List.length_take, swp_length, exch_length]; omega)) rfl rfl <| lx_move (.int .i64 ((z : Nat) : Int)) rfl rfl <| lx_move (vp) rfl rfl <| lx_move (.int .i64 ((x : Nat) : Int)) rfl rfl <| lx_ix (i := x) rfl eT29 ho3.rd rfl rfl (by first | omega | (simp only [List.length_set, List.length_append, List.length_cons, List.length_nil, List.length_replicate, List.length_take, swp_length, exch_length]; omega)) <| lx_ld (i := x) (j := 0) ((gt hs x).v) rfl rfl fl70 ho3.rd (by first | omega | (simp only [List.length_set, List.length_append, List.length_cons, List.length_nil, List.length_replicate, List.length_take, swp_length, exch_length]; omega)) rfl rfl <| lx_move (.int .i64 ((z : Nat) : Int)) rfl rfl <| lx_ix (i := z) rfl eT70 (hot3.2.1 x (by first | omega | (simp only [List.length_set, List.length_append, List.length_cons, List.length_nil, List.length_replicate, List.length_take, swp_length, exch_length]; omega))).rd rfl rfl (by rw [hq.2 x (by first | omega | (simp only [List.length_set, List.length_append, List.length_cons, List.length_nil, List.length_replicate, List.length_take, swp_length, exch_length]; omega))]; omega) <| lx_ld (i := z) (j := 0) (.bool (gt (gt r x) z)) rfl rfl fl4 (hot3.2.1 x (by first | omega | (simp only [List.length_set, List.length_append, List.length_cons, List.length_nil, List.length_replicate, List.length_take, swp_length, exch_length]; omega))).rd (by rw [hq.2 x (by first | omega | (simp only [List.length_set, List.length_append, List.length_cons, List.length_nil, List.length_replicate, List.length_take, swp_length, exch_length]; omega))]; omega) rfl rfl <| lx_move (.bool (gt (gt r x) z)) rfl rfl <| ?_
        cases c4 : (gt (gt r x) z)
        · refine lx_move (vp) rfl rfl <| lx_move (.int .i64 ((x : Nat) : Int)) rfl rfl <| lx_ix (i := x) rfl eT29 ho3.rd rfl rfl (by first | omega | (simp only [List.length_set, List.length_append, List.length_cons, List.length_nil, List.length_replicate, List.length_take, swp_length, exch_length]; omega)) <| lx_ld (i := x) (j := 0) ((gt hs x).v) rfl rfl fl70 ho3.rd (by first | omega | (simp only [List.length_set, List.length_append, List.length_cons, List.length_nil, List.length_replicate, List.length_take, swp_length, exch_length]; omega)) rfl rfl <| lx_move (.int .i64 ((y : Nat) : Int)) rfl rfl <| lx_ix (i := y) rfl eT70 (hot3.2.1 x (by first | omega | (simp only [List.length_set, List.length_append, List.length_cons, List.length_nil, List.length_replicate, List.length_take, swp_length, exch_length]; omega))).rd rfl rfl (by rw [hq.2 x (by first | omega | (simp only [List.length_set, List.length_append, List.length_cons, List.length_nil, List.length_replicate, List.length_take, swp_length, exch_length]; omega))]; omega) <| lx_ld (i := y) (j := 0) (.bool (gt (gt r x) y)) rfl rfl fl4 (hot3.2.1 x (by first | omega | (simp only [List.length_set, List.length_append, List.length_cons, List.length_nil, List.length_replicate, List.length_take, swp_length, exch_length]; omega))).rd (by rw [hq.2 x (by first | omega | (simp only [List.length_set, List.length_append, List.length_cons, List.length_nil, List.length_replicate, List.length_take, swp_length, exch_length]; omega))]; omega) rfl rfl <| lx_move (.bool (gt (gt r x) y)) rfl rfl <| ?_
          cases c5 : (gt (gt r x) y)
          · refine lx_skip rfl <| lx_skip rfl <| lx_skip rfl <| lx_skip rfl <| lx_skip rfl <| lx_skip rfl <| lx_skip rfl <| lx_pick false (.bool false) rfl rfl rfl <| lx_pick false (.bool false) rfl rfl rfl <| lx_ix (i := z) rfl eT70 (hot3.2.1 x (by first | omega | (simp only [List.length_set, List.length_append, List.length_cons, List.length_nil, List.length_replicate, List.length_take, swp_length, exch_length]; omega))).rd rfl rfl (by rw [hq.2 x (by first | omega | (simp only [List.length_set, List.length_append, List.length_cons, List.length_nil, List.length_replicate, List.length_take, swp_length, exch_length]; omega))]; omega) <| lx_st (i := z) false rfl rfl Try.sizeOf4 (hot3.2.1 x (by first | omega | (simp only [List.length_set, List.length_append, List.length_cons, List.length_nil, List.length_replicate, List.length_take, swp_length, exch_length]; omega))) (by rw [hq.2 x (by first | omega | (simp only [List.length_set, List.length_append, List.length_cons, List.length_nil, List.length_replicate, List.length_take, swp_length, exch_length]; omega))]; omega) rfl rfl (fun _ _ _ _ _ => trivial) fun h1 ho4 hc1 hsz1 => ?_
            have hx0_4 := hx0_3.trans ((hot3.2.1 x (by first | omega | (simp only [List.length_set, List.length_append, List.length_cons, List.length_nil, List.length_replicate, List.length_take, swp_length, exch_length]; omega))).ext hc1 (Nat.le_trans hB hx0_3.size))
            have ho5 := ho3.chg hc1 (Dj.symm ((djt_ty hot3 ho3 (by decide)) x (by rw [hot3.1]; exact (by first | omega | (simp only [List.length_set, List.length_append, List.length_cons, List.length_nil, List.length_replicate, List.length_take, swp_length, exch_length]; omega)))))
            have hot4 := OT.cell hot3 (by first | omega | (simp only [List.length_set, List.length_append, List.length_cons, List.length_nil, List.length_replicate, List.length_take, swp_length, exch_length]; omega)) hc1 ho4
            have hl_hot4 := hot4.1
            refine lx_nil <| wi_inBlock <| wi_reg rfl <| lx_add (((z + 1 : Nat) : Int)) rfl rfl rfl (by omega) (by omega) (by omega) <| lx_move (.int .i64 ((z + 1 : Nat) : Int)) rfl rfl <| lx_nil <| ?_
            -- L4.1
            refine IH3 _ _ (z + 1, r.set x ((gt r x).set z false)) (agree_ups rfl agree_self) ⟨rfl, trivial⟩ ⟨?_, ?_, hx0_4, ?_, ?_, ?_⟩ ?_
            · first | exact ho5 | (simpa using ho5)
            · first | exact hot4 | (simpa using hot4)
            · try dsimp only
              omega
            · try dsimp only
              exact sq_set hq (by omega)
            · try dsimp only
              exact warS_step hq (by omega) (by omega) hr (by rw [warS_val (r := r) (by omega) (by omega) (by omega) hr]; first | exact or_t (by with_reducible assumption) | exact or_f (by with_reducible assumption) (by with_reducible assumption) | exact or_v (by with_reducible assumption) (by with_reducible assumption))
            · first | omega | (dsimp only; omega)
          · refine lx_move (vp) rfl rfl <| lx_move (.int .i64 ((y : Nat) : Int)) rfl rfl <| lx_ix (i := y) rfl eT29 ho3.rd rfl rfl (by first | omega | (simp only [List.length_set, List.length_append, List.length_cons, List.length_nil, List.length_replicate, List.length_take, swp_length, exch_length]; omega)) <| lx_ld (i := y) (j := 0) ((gt hs y).v) rfl rfl fl70 ho3.rd (by first | omega | (simp only [List.length_set, List.length_append, List.length_cons, List.length_nil, List.length_replicate, List.length_take, swp_length, exch_length]; omega)) rfl rfl <| lx_move (.int .i64 ((z : Nat) : Int)) rfl rfl <| lx_ix (i := z) rfl eT70 (hot3.2.1 y (by first | omega | (simp only [List.length_set, List.length_append, List.length_cons, List.length_nil, List.length_replicate, List.length_take, swp_length, exch_length]; omega))).rd rfl rfl (by rw [hq.2 y (by first | omega | (simp only [List.length_set, List.length_append, List.length_cons, List.length_nil, List.length_replicate, List.length_take, swp_length, exch_length]; omega))]; omega) <| lx_ld (i := z) (j := 0) (.bool (gt (gt r y) z)) rfl rfl fl4 (hot3.2.1 y (by first | omega | (simp only [List.length_set, List.length_append, List.length_cons, List.length_nil, List.length_replicate, List.length_take, swp_length, exch_length]; omega))).rd (by rw [hq.2 y (by first | omega | (simp only [List.length_set, List.length_append, List.length_cons, List.length_nil, List.length_replicate, List.length_take, swp_length, exch_length]; omega))]; omega) rfl rfl <| lx_pick true (.bool (gt (gt r y) z)) rfl rfl rfl <| lx_pick false (.bool (gt (gt r y) z)) rfl rfl rfl <| lx_ix (i := z) rfl eT70 (hot3.2.1 x (by first | omega | (simp only [List.length_set, List.length_append, List.length_cons, List.length_nil, List.length_replicate, List.length_take, swp_length, exch_length]; omega))).rd rfl rfl (by rw [hq.2 x (by first | omega | (simp only [List.length_set, List.length_append, List.length_cons, List.length_nil, List.length_replicate, List.length_take, swp_length, exch_length]; omega))]; omega) <| lx_st (i := z) (gt (gt r y) z) rfl rfl Try.sizeOf4 (hot3.2.1 x (by first | omega | (simp only [List.length_set, List.length_append, List.length_cons, List.length_nil, List.length_replicate, List.length_take, swp_length, exch_length]; omega))) (by rw [hq.2 x (by first | omega | (simp only [List.length_set, List.length_append, List.length_cons, List.length_nil, List.length_replicate, List.length_take, swp_length, exch_length]; omega))]; omega) rfl rfl (fun _ _ _ _ _ => trivial) fun h2 ho6 hc2 hsz2 => ?_
            have hx0_5 := hx0_3.trans ((hot3.2.1 x (by first | omega | (simp only [List.length_set, List.length_append, List.length_cons, List.length_nil, List.length_replicate, List.length_take, swp_length, exch_length]; omega))).ext hc2 (Nat.le_trans hB hx0_3.size))
            have ho7 := ho3.chg hc2 (Dj.symm ((djt_ty hot3 ho3 (by decide)) x (by rw [hot3.1]; exact (by first | omega | (simp only [List.length_set, List.length_append, List.length_cons, List.length_nil, List.length_replicate, List.length_take, swp_length, exch_length]; omega)))))
            have hot5 := OT.cell hot3 (by first | omega | (simp only [List.length_set, List.length_append, List.length_cons, List.length_nil, List.length_replicate, List.length_take, swp_length, exch_length]; omega)) hc2 ho6
            have hl_hot5 := hot5.1
            refine lx_nil <| wi_inBlock <| wi_reg rfl <| lx_add (((z + 1 : Nat) : Int)) rfl rfl rfl (by omega) (by omega) (by omega) <| lx_move (.int .i64 ((z + 1 : Nat) : Int)) rfl rfl <| lx_nil <| ?_
            -- L4.2
            refine IH3 _ _ (z + 1, r.set x ((gt r x).set z (gt (gt r y) z))) (agree_ups rfl agree_self) ⟨rfl, trivial⟩ ⟨?_, ?_, hx0_5, ?_, ?_, ?_⟩ ?_
            · first | exact ho7 | (simpa using ho7)
            · first | exact hot5 | (simpa using hot5)
            · try dsimp only
              omega
            · try dsimp only
              exact sq_set hq (by omega)
            · try dsimp only
              exact warS_step hq (by omega) (by omega) hr (by rw [warS_val (r := r) (by omega) (by omega) (by omega) hr]; first | exact or_t (by with_reducible assumption) | exact or_f (by with_reducible assumption) (by with_reducible assumption) | exact or_v (by with_reducible assumption) (by with_reducible assumption))
            · first | omega | (dsimp only; omega)
        · refine lx_skip rfl <| lx_skip rfl <| lx_skip rfl <| lx_skip rfl <| lx_skip rfl <| lx_skip rfl <| lx_skip rfl <| lx_skip rfl <| lx_skip rfl <| lx_skip rfl <| lx_skip rfl <| lx_skip rfl <| lx_skip rfl <| lx_skip rfl <| lx_skip rfl <| lx_skip rfl <| lx_pick true (.bool true) rfl rfl rfl <| lx_ix (i := z) rfl eT70 (hot3.2.1 x (by first | omega | (simp only [List.length_set, List.length_append, List.length_cons, List.length_nil, List.length_replicate, List.length_take, swp_length, exch_length]; omega))).rd rfl rfl (by rw [hq.2 x (by first | omega | (simp only [List.length_set, List.length_append, List.length_cons, List.length_nil, List.length_replicate, List.length_take, swp_length, exch_length]; omega))]; omega) <| lx_st (i := z) true rfl rfl Try.sizeOf4 (hot3.2.1 x (by first | omega | (simp only [List.length_set, List.length_append, List.length_cons, List.length_nil, List.length_replicate, List.length_take, swp_length, exch_length]; omega))) (by rw [hq.2 x (by first | omega | (simp only [List.length_set, List.length_append, List.length_cons, List.length_nil, List.length_replicate, List.length_take, swp_length, exch_length]; omega))]; omega) rfl rfl (fun _ _ _ _ _ => trivial) fun h3 ho8 hc3 hsz3 => ?_
          have hx0_6 := hx0_3.trans ((hot3.2.1 x (by first | omega | (simp only [List.length_set, List.length_append, List.length_cons, List.length_nil, List.length_replicate, List.length_take, swp_length, exch_length]; omega))).ext hc3 (Nat.le_trans hB hx0_3.size))
          have ho9 := ho3.chg hc3 (Dj.symm ((djt_ty hot3 ho3 (by decide)) x (by rw [hot3.1]; exact (by first | omega | (simp only [List.length_set, List.length_append, List.length_cons, List.length_nil, List.length_replicate, List.length_take, swp_length, exch_length]; omega)))))
          have hot6 := OT.cell hot3 (by first | omega | (simp only [List.length_set, List.length_append, List.length_cons, List.length_nil, List.length_replicate, List.length_take, swp_length, exch_length]; omega)) hc3 ho8
          have hl_hot6 := hot6.1
          refine lx_nil <| wi_inBlock <| wi_reg rfl <| lx_add (((z + 1 : Nat) : Int)) rfl rfl rfl (by omega) (by omega) (by omega) <| lx_move (.int .i64 ((z + 1 : Nat) : Int)) rfl rfl <| lx_nil <| ?_
          -- L4.3
          refine IH3 _ _ (z + 1, r.set x ((gt r x).set z true)) (agree_ups rfl agree_self) ⟨rfl, trivial⟩ ⟨?_, ?_, hx0_6, ?_, ?_, ?_⟩ ?_
          · first | exact ho9 | (simpa using ho9)
          · first | exact hot6 | (simpa using hot6)
          · try dsimp only
            omega
          · try dsimp only
            exact sq_set hq (by omega)
          · try dsimp only
            exact warS_step hq (by omega) (by omega) hr (by rw [warS_val (r := r) (by omega) (by omega) (by omega) hr]; first | exact or_t (by with_reducible assumption) | exact or_f (by with_reducible assumption) (by with_reducible assumption) | exact or_v (by with_reducible assumption) (by with_reducible assumption))
          · first | omega | (dsimp only; omega)
      · refine lx_nil <| wi_seq <| wi_false rfl <| wi_exit rfl <| wi_inBlock <| wi_reg rfl <| lx_add (((x + 1 : Nat) : Int)) rfl rfl rfl (by omega) (by omega) (by omega) <| lx_move (.int .i64 ((x + 1 : Nat) : Int)) rfl rfl <| lx_nil <| ?_
        -- L2.1
        refine IH2 _ _ (x + 1, r) (agree_ups rfl (agree_mix (rngB_sub (by decide) (by decide) rfl) (agree_ups rfl agree_self))) ⟨rfl, trivial⟩ ⟨?_, ?_, hx0_3, ?_, ?_, ?_⟩ ?_
        · first | exact ho3 | (simpa using ho3)
        · first | exact hot3 | (simpa using hot3)
        · try dsimp only
          omega
        · try dsimp only
          exact hq
        · try dsimp only
          intro a c ha hc; rw [hr a c ha hc, show z = p.length from by omega]; exact warS_next _ hc
        · first | omega | (dsimp only; omega)
    · refine lx_nil <| wi_seq <| wi_false rfl <| wi_exit rfl <| wi_inBlock <| wi_reg rfl <| lx_add (((y + 1 : Nat) : Int)) rfl rfl rfl (by omega) (by omega) (by omega) <| lx_move (.int .i64 ((y + 1 : Nat) : Int)) rfl rfl <| lx_nil <| ?_
      -- L0.1
      refine IH1 _ _ (y + 1, r) (agree_ups rfl (agree_mix (rngB_sub (by decide) (by decide) rfl) (agree_ups rfl agree_self))) ⟨rfl, trivial⟩ ⟨?_, ?_, hx0_2, ?_, ?_, ?_⟩ ?_
      · first | exact ho2 | (simpa using ho2)
      · first | exact hot2 | (simpa using hot2)
      · try dsimp only
        omega
      · try dsimp only
        exact hq
      · try dsimp only
        intro a c ha hc; rw [hr a c ha hc, show x = p.length from by omega]; exact warS_end _ ha
      · first | omega | (dsimp only; omega)
  · refine lx_nil <| wi_seq <| wi_false rfl <| wi_exit rfl <| wi_seq <| wi_reg rfl <| lx_move (vp) rfl rfl <| lx_assign (vp) rfl rfl <| lx_nil <| ?_
    -- R1
    refine wi_ret ⟨vp, (res_one rfl rfl), ⟨r, rfl, ho1, hot1, ?_, hx0_1⟩⟩
    · exact tab_ext hq (fun a c ha hc => by rw [hr a c ha hc, show y = p.length from by omega])

end Go.Proofs.Ytdokijbdnajhgaa
namespace Go.X

theorem testBit_set {a p q : Nat} (hp : p < 64) : (a ||| 1 * 2 ^ p).testBit q = (a.testBit q || decide (q = p)) := by
  rw [Nat.testBit_or, Nat.one_mul, Nat.testBit_two_pow]
  by_cases h : p = q
  · subst h; simp
  · simp [h, Ne.symm h]
theorem or_lt64 {a b : Nat} (ha : a < 2 ^ 64) (hb : b < 2 ^ 64) : a ||| b < 2 ^ 64 := Nat.or_lt_two_pow ha hb
theorem and_lt64 {a b : Nat} (ha : a < 2 ^ 64) : a &&& b < 2 ^ 64 := Nat.lt_of_le_of_lt Nat.and_le_left ha
theorem bit_and_one (a i : Nat) : (a / 2 ^ i &&& 1) = if a.testBit i then 1 else 0 := by
  rw [Nat.and_one_is_mod, Nat.testBit_eq_decide_div_mod_eq]
  have := Nat.mod_two_eq_zero_or_one (a / 2 ^ i)
  rcases this with h | h <;> simp [h]

/-- Wire, pattern: whether it has a 1. -/
abbrev WF := Nat → Nat → Bool
def exF (f : WF) (i j : Nat) : WF := fun k p => if k = i then f i p && f j p else if k = j then f i p || f j p else f k p
def patF (n : Nat) : WF := fun i p => decide (i < n) && decide (p < 2 ^ n) && p.testBit i
def runF : List (Int × Int) → WF → WF
  | [], f => f
  | c :: cs, f => runF cs (exF f c.1.toNat c.2.toNat)
theorem runF_append (xs ys : List (Int × Int)) (f : WF) : runF (xs ++ ys) f = runF ys (runF xs f) := by
  induction xs generalizing f with
  | nil => rfl
  | cons x xs ih => exact ih _
/-- The words of the wires. -/
def Wi (f : WF) (ws : List Nat) : Prop := ws.length = 160 ∧ (∀ k, k < 160 → gt ws k < 2 ^ 64) ∧ ∀ i, i < 10 → ∀ p, p < 1024 → (gt ws (i * 16 + p / 64)).testBit (p % 64) = f i p
theorem Wi.congr {f g : WF} {ws : List Nat} (h : Wi f ws) (he : ∀ i, i < 10 → ∀ p, p < 1024 → f i p = g i p) : Wi g ws :=
  ⟨h.1, h.2.1, fun i hi p hp => (h.2.2 i hi p hp).trans (he i hi p hp)⟩
theorem Wi_zero : Wi (fun _ _ => false) (List.replicate 160 0) :=
  ⟨by simp, fun k hk => by rw [gt_replicate hk]; decide, fun i hi p hp => by rw [gt_replicate (by omega)]; exact Nat.zero_testBit _⟩
theorem Wi_set {f : WF} {ws : List Nat} {i p : Nat} (h : Wi f ws) (hi : i < 10) (hp : p < 1024) :
    Wi (fun k q => if k = i ∧ q = p then true else f k q) (ws.set (i * 16 + p / 64) (gt ws (i * 16 + p / 64) ||| 1 * 2 ^ (p % 64))) := by
  obtain ⟨h1, h2, h3⟩ := h
  have hm : p % 64 < 64 := Nat.mod_lt _ (by omega)
  refine ⟨by simpa using h1, fun k hk => ?_, fun k hk q hq => ?_⟩
  · rw [gt_set (by omega)]
    split
    · exact or_lt64 (h2 _ (by omega)) (by rw [Nat.one_mul]; exact Nat.pow_lt_pow_right (by omega) hm)
    · exact h2 k hk
  · rw [gt_set (by omega)]
    by_cases c : k * 16 + q / 64 = i * 16 + p / 64
    · have : k = i ∧ q / 64 = p / 64 := by omega
      obtain ⟨rfl, hq2⟩ := this
      rw [if_pos c, testBit_set hm]
      have := h3 k hk q hq
      rw [hq2] at this
      rw [this]
      by_cases e : q = p
      · subst e; simp
      · have : q % 64 ≠ p % 64 := by omega
        simp [e, this]
    · rw [if_neg c, h3 k hk q hq]
      have : ¬ (k = i ∧ q = p) := by rintro ⟨rfl, rfl⟩; exact c rfl
      simp only [if_neg this]
/-- Some words of two wires exchanged. -/
def exW (ws : List Nat) (i j k : Nat) (us : List Nat) : Prop :=
  us.length = 160 ∧ ∀ q, q < 160 → gt us q = if q / 16 = i ∧ q % 16 < k then gt ws q &&& gt ws (j * 16 + q % 16) else if q / 16 = j ∧ q % 16 < k then gt ws (i * 16 + q % 16) ||| gt ws q else gt ws q
theorem exW_zero {ws : List Nat} {i j : Nat} (h : ws.length = 160) : exW ws i j 0 ws := ⟨h, fun q hq => by simp⟩
theorem exW_step {ws us : List Nat} {i j k : Nat} (hij : i ≠ j) (hi : i < 10) (hj : j < 10) (hk : k < 16) (h : exW ws i j k us) :
    exW ws i j (k + 1) ((us.set (i * 16 + k) (gt ws (i * 16 + k) &&& gt us (j * 16 + k))).set (j * 16 + k) (gt ws (i * 16 + k) ||| gt us (j * 16 + k))) := by
  obtain ⟨h1, h2⟩ := h
  have ej : gt us (j * 16 + k) = gt ws (j * 16 + k) := by
    rw [h2 _ (by omega), if_neg (by omega), if_neg (by omega)]
  refine ⟨by simpa using h1, fun q hq => ?_⟩
  rw [ej, gt_set (by simp; omega), gt_set (by omega)]
  by_cases c1 : q = j * 16 + k
  · subst c1
    rw [if_pos rfl, if_neg (by omega), if_pos (by omega)]
    congr 2; omega
  · rw [if_neg c1]
    by_cases c2 : q = i * 16 + k
    · subst c2
      rw [if_pos rfl, if_pos (by omega)]
      congr 2; omega
    · rw [if_neg c2, h2 q hq]
      have e1 : (q / 16 = i ∧ q % 16 < k + 1) ↔ (q / 16 = i ∧ q % 16 < k) := by omega
      have e2 : (q / 16 = j ∧ q % 16 < k + 1) ↔ (q / 16 = j ∧ q % 16 < k) := by omega
      simp only [e1, e2]
theorem Wi_ex {f : WF} {ws us : List Nat} {i j : Nat} (hij : i ≠ j) (hi : i < 10) (hj : j < 10) (h : Wi f ws) (he : exW ws i j 16 us) : Wi (exF f i j) us := by
  obtain ⟨h1, h2, h3⟩ := h
  obtain ⟨e1, e2⟩ := he
  refine ⟨e1, fun k hk => ?_, fun k hk p hp => ?_⟩
  · rw [e2 k hk]
    split
    · exact and_lt64 (h2 _ hk)
    · split
      · exact or_lt64 (h2 _ (by omega)) (h2 _ hk)
      · exact h2 _ hk
  · have hp64 : p / 64 < 16 := by omega
    have hd : (k * 16 + p / 64) / 16 = k := by omega
    have hm : (k * 16 + p / 64) % 16 = p / 64 := by omega
    rw [e2 _ (by omega), hd, hm]
    unfold exF
    by_cases c1 : k = i
    · subst c1
      rw [if_pos ⟨rfl, hp64⟩, if_pos rfl, Nat.testBit_and, h3 k hi p hp, h3 j hj p hp]
    · rw [if_neg (by omega), if_neg c1]
      by_cases c2 : k = j
      · subst c2
        rw [if_pos ⟨rfl, hp64⟩, if_pos rfl, Nat.testBit_or, h3 i hi p hp, h3 k hk p hp]
      · rw [if_neg (by omega), if_neg c2, h3 k hk p hp]
/-- Whether a word has changed. -/
theorem andNot_zero {a b : Nat} : andNot a b = 0 ↔ ∀ q, a.testBit q = true → b.testBit q = true := by
  constructor
  · intro h q ha
    have := congrArg (fun x => x.testBit q) h
    simp only [testBit_andNot, Nat.zero_testBit] at this
    cases hb : b.testBit q
    · simp [ha, hb] at this
    · rfl
  · intro h
    apply Nat.eq_of_testBit_eq
    intro q
    rw [testBit_andNot, Nat.zero_testBit]
    cases ha : a.testBit q
    · simp
    · simp [h q ha]
theorem andNot_lt {a b : Nat} (ha : a < 2 ^ 64) : andNot a b < 2 ^ 64 := by
  apply Nat.lt_pow_two_of_testBit
  intro i hi
  rw [testBit_andNot, Nat.testBit_lt_two_pow (Nat.lt_of_lt_of_le ha (Nat.pow_le_pow_right (by omega) hi))]
  rfl
/-- Some word of wire 'i' has a bit that wire 'j' lacks. -/
def exC (ws : List Nat) (i j k : Nat) : Bool := (List.range k).any fun m => decide (andNot (gt ws (i * 16 + m)) (gt ws (j * 16 + m)) ≠ 0)
theorem exC_succ (ws : List Nat) (i j k : Nat) : exC ws i j (k + 1) = (exC ws i j k || decide (andNot (gt ws (i * 16 + k)) (gt ws (j * 16 + k)) ≠ 0)) := by
  simp [exC, List.range_succ]
theorem exC_iff {f : WF} {ws : List Nat} {i j : Nat} (h : Wi f ws) (hi : i < 10) (hj : j < 10) : exC ws i j 16 = true ↔ ∃ p, p < 1024 ∧ f i p = true ∧ f j p = false := by
  unfold exC
  rw [List.any_eq_true]
  constructor
  · rintro ⟨m, hm, hne⟩
    have hm := List.mem_range.1 hm
    have hne : andNot (gt ws (i * 16 + m)) (gt ws (j * 16 + m)) ≠ 0 := by simpa using hne
    rw [ne_eq, andNot_zero, Classical.not_forall] at hne
    obtain ⟨q, hq⟩ := hne
    rw [Classical.not_imp] at hq
    have hq64 : q < 64 := by
      refine Nat.lt_of_not_le fun hle => ?_
      have := Nat.testBit_lt_two_pow (Nat.lt_of_lt_of_le (h.2.1 (i * 16 + m) (by omega)) (Nat.pow_le_pow_right (by omega : 0 < 2) hle))
      rw [this] at hq; exact absurd hq.1 (by simp)
    refine ⟨m * 64 + q, by omega, ?_, ?_⟩
    · have := h.2.2 i hi (m * 64 + q) (by omega)
      rw [show (m * 64 + q) / 64 = m from by omega, show (m * 64 + q) % 64 = q from by omega] at this
      rw [← this]; exact hq.1
    · have := h.2.2 j hj (m * 64 + q) (by omega)
      rw [show (m * 64 + q) / 64 = m from by omega, show (m * 64 + q) % 64 = q from by omega] at this
      rw [← this]; simpa using hq.2
  · rintro ⟨p, hp, h1, h2⟩
    refine ⟨p / 64, List.mem_range.2 (by omega), ?_⟩
    simp only [ne_eq, decide_eq_true_eq]
    rw [andNot_zero]
    intro hall
    have e1 := h.2.2 i hi p hp
    have e2 := h.2.2 j hj p hp
    have := hall (p % 64) (e1.trans h1)
    rw [e2, h2] at this
    cases this
theorem wc_part {ws : List Nat} {i k : Nat} (hk : k < 16) (hl : i * 16 + 16 ≤ ws.length) : (wc ((ws.drop (i * 16)).take 16))[k]? = some (.int .u64 ((gt ws (i * 16 + k) : Nat) : Int)) := by
  rw [wc_get (by simp; omega)]
  congr 3
  simp [gt, hk, List.getElem?_take, List.getElem?_drop]
theorem wc_partc {ws : List Nat} {i : Nat} : ∀ (j : Nat) (u : Value), (((ws.drop (i * 16)).take 16).map (fun x : Nat => Value.int .u64 (x : Int)))[j]? = some u → (wc ws)[i * 16 + j]? = some u := by
  intro j u hu
  simp only [List.getElem?_map, List.getElem?_take, List.getElem?_drop, Option.map_eq_some_iff] at hu
  obtain ⟨a, ha, rfl⟩ := hu
  split at ha
  · simp [wc, cof, ha]
  · cases ha

/-- The number with the bits 'g', below 'n'. -/
def colN : Nat → (Nat → Bool) → Nat
  | 0, _ => 0
  | n + 1, g => colN n g + (if g n then 1 else 0) * 2 ^ n
theorem colN_lt (n : Nat) (g : Nat → Bool) : colN n g < 2 ^ n := by
  induction n with
  | zero => simp [colN]
  | succ n ih =>
    simp only [colN]
    rw [Nat.pow_succ]
    split <;> omega
theorem colN_or {n : Nat} {g : Nat → Bool} {b : Nat} : colN n g ||| b * 2 ^ n = colN n g + b * 2 ^ n := by
  rw [Nat.or_comm, Nat.mul_comm, ← Nat.two_pow_add_eq_or_of_lt (colN_lt n g)]
  omega
theorem colN_bit (n : Nat) (g : Nat → Bool) (i : Nat) : (colN n g).testBit i = (decide (i < n) && g i) := by
  induction n with
  | zero => simp [colN]
  | succ n ih =>
    have : colN (n + 1) g = colN n g ||| (if g n then 1 else 0) * 2 ^ n := colN_or.symm
    rw [this, Nat.testBit_or, ih]
    by_cases c : i = n
    · subst c
      cases hg : g i <;> simp [hg, Nat.testBit_two_pow]
    · have hne : ((if g n then 1 else 0) * 2 ^ n).testBit i = false := by
        split
        · rw [Nat.one_mul, Nat.testBit_two_pow]; simp; omega
        · simp
      rw [hne, Bool.or_false]
      congr 1
      simp; omega
theorem colN_congr {n : Nat} {f g : Nat → Bool} (h : ∀ i, i < n → f i = g i) : colN n f = colN n g := by
  apply Nat.eq_of_testBit_eq
  intro i
  rw [colN_bit, colN_bit]
  by_cases c : i < n
  · rw [h i c]
  · simp [c]
theorem colN_le {n m : Nat} (g : Nat → Bool) (h : n ≤ m) : colN n g < 2 ^ m := Nat.lt_of_lt_of_le (colN_lt n g) (Nat.pow_le_pow_right (by omega) h)
/-- A pattern that comes out out of order. -/
def badC (n : Nat) (g : Nat → Bool) : Bool := (List.range (n - 1)).any fun i => g i && !g (i + 1)
theorem badC_iff (n : Nat) (g : Nat → Bool) : badC n g = true ↔ ∃ i, i + 1 < n ∧ g i = true ∧ g (i + 1) = false := by
  unfold badC
  rw [List.any_eq_true]
  constructor
  · rintro ⟨i, hi, h⟩
    have := List.mem_range.1 hi
    exact ⟨i, by omega, by simpa using h⟩
  · rintro ⟨i, hi, h⟩
    exact ⟨i, List.mem_range.2 (by omega), by simpa using h⟩
theorem badC_false (n : Nat) (g : Nat → Bool) : badC n g = false ↔ ∀ i, i + 1 < n → g i = true → g (i + 1) = true := by
  rw [← Bool.not_eq_true, badC_iff]
  constructor
  · intro h i hi hg
    cases e : g (i + 1)
    · exact absurd ⟨i, hi, hg, e⟩ h
    · rfl
  · rintro h ⟨i, hi, hg, e⟩
    rw [h i hi hg] at e; cases e
/-- The least pattern that fails. -/
def failsR (n : Nat) (col : Nat → Nat → Bool) (p : Nat) (b : Bool) : Prop :=
  (b = true ∧ p < 2 ^ n ∧ badC n (col p) = true ∧ ∀ q, q < p → badC n (col q) = false) ∨ (b = false ∧ p = 0 ∧ ∀ q, q < 2 ^ n → badC n (col q) = false)
/-- What comes of pattern 'p'. -/
def colF (ls : List (Int × Int)) (n : Nat) (p i : Nat) : Bool := runF ls (patF n) i p

/-- What is wrong with a network. -/
def validC (n : Int) (c : Int × Int) : Bool := decide (0 ≤ c.1 ∧ c.1 < c.2 ∧ c.2 < n)
def validL (n : Int) (c : Int × Int) : Bool := decide (0 ≤ min c.1 c.2 ∧ max c.1 c.2 < n ∧ c.1 ≠ c.2)
def chkNet (V : Int → Int × Int → Bool) (n : Int) (ls : List (Int × Int)) : Int := if n < 1 ∨ 10 < n then 1 else if 200 < ls.length then 2 else if ls.all (V n) then 0 else 100
theorem chkNet_ok {V : Int → Int × Int → Bool} {n : Int} {ls : List (Int × Int)} (h : chkNet V n ls = 0) : 1 ≤ n ∧ n ≤ 10 ∧ ls.length ≤ 200 ∧ ∀ i, i < ls.length → V n (gt ls i) = true := by
  unfold chkNet at h
  split at h
  · cases h
  · split at h
    · cases h
    · split at h
      · rename_i h3
        rw [List.all_eq_true] at h3
        exact ⟨by omega, by omega, by omega, fun i hi => h3 _ (gt_mem hi)⟩
      · cases h
theorem chkNet_bad {V : Int → Int × Int → Bool} {n : Int} {ls : List (Int × Int)} (h1 : ¬ n < 1) (h2 : ¬ 10 < n) (h3 : ¬ (200 : Int) < (ls.length : Int)) {i : Nat} (hi : i < ls.length) (hv : V n (gt ls i) = false) : chkNet V n ls = 100 := by
  unfold chkNet
  rw [if_neg (by omega), if_neg (by omega), if_neg]
  intro h
  rw [List.all_eq_true] at h
  rw [h _ (gt_mem hi)] at hv; cases hv
theorem chkNet_all {V : Int → Int × Int → Bool} {n : Int} {ls : List (Int × Int)} (h1 : ¬ n < 1) (h2 : ¬ 10 < n) (h3 : ¬ (200 : Int) < (ls.length : Int)) (hv : ∀ i, i < ls.length → V n (gt ls i) = true) : chkNet V n ls = 0 := by
  unfold chkNet
  rw [if_neg (by omega), if_neg (by omega), if_pos]
  rw [List.all_eq_true]
  intro x hx
  obtain ⟨i, hi, rfl⟩ := mem_gt hx
  exact hv i hi
theorem pat_step {n p i : Nat} (hi : i < n) (hb : p.testBit i = true) (k q : Nat) : (if k = i ∧ q = p then true else decide (k < n) && (decide (q < p) || (decide (q = p) && decide (k < i))) && q.testBit k) = (decide (k < n) && (decide (q < p) || (decide (q = p) && decide (k < i + 1))) && q.testBit k) := by
  by_cases c : k = i ∧ q = p
  · obtain ⟨rfl, rfl⟩ := c
    simp [hi, hb]
  · rw [if_neg c]
    by_cases c1 : q = p
    · subst c1
      have : k ≠ i := fun e => c ⟨e, rfl⟩
      rw [show decide (k < i + 1) = decide (k < i) from by congr 1; simp; omega]
    · simp [c1]
theorem pat_skip {n p i : Nat} (hb : p.testBit i = false) (k q : Nat) : (decide (k < n) && (decide (q < p) || (decide (q = p) && decide (k < i))) && q.testBit k) = (decide (k < n) && (decide (q < p) || (decide (q = p) && decide (k < i + 1))) && q.testBit k) := by
  by_cases c1 : q = p
  · subst c1
    by_cases c : k = i
    · subst c; simp [hb]
    · rw [show decide (k < i + 1) = decide (k < i) from by congr 1; simp; omega]
  · simp [c1]
theorem pat_all {n p i : Nat} (hi : n ≤ i) (k q : Nat) : (decide (k < n) && (decide (q < p) || (decide (q = p) && decide (k < i))) && q.testBit k) = (decide (k < n) && decide (q < p + 1) && q.testBit k) := by
  by_cases c : k < n
  · have : (decide (q < p) || (decide (q = p) && decide (k < i))) = decide (q < p + 1) := by
      rw [show decide (k < i) = true from decide_eq_true (by omega), Bool.and_true, ← Bool.decide_or]
      congr 1; simp; omega
    rw [this]
  · simp [c]
theorem exW_lt {f : WF} {ws us : List Nat} {i j k : Nat} (h : Wi f ws) (hi : i < 10) (hj : j < 10) (he : exW ws i j k us) : ∀ q, q < 160 → gt us q < 2 ^ 64 := by
  intro q hq
  have h2 := h.2.1
  rw [he.2 q hq]
  split
  · exact and_lt64 (h2 _ hq)
  · split
    · exact or_lt64 (h2 _ (by omega)) (h2 _ hq)
    · exact h2 _ hq
theorem exW_j {ws us : List Nat} {i j k : Nat} (hij : i ≠ j) (hj : j < 10) (hk : k < 16) (he : exW ws i j k us) : gt us (j * 16 + k) = gt ws (j * 16 + k) := by
  rw [he.2 _ (by omega), if_neg (by omega), if_neg (by omega)]
theorem pow10 {n : Nat} (h : n ≤ 10) : 2 ^ n ≤ 1024 := Nat.pow_le_pow_right (by omega : 0 < 2) h
theorem pow64 {n : Nat} (h : n < 64) : 2 ^ n < 18446744073709551616 := Nat.pow_lt_pow_right (by omega : 1 < 2) h
theorem runF_take {ls : List (Int × Int)} {i : Nat} (hi : i < ls.length) (f : WF) : runF (ls.take (i + 1)) f = exF (runF (ls.take i) f) (gt ls i).1.toNat (gt ls i).2.toNat := by
  rw [List.take_succ_eq_append_getElem hi, runF_append, gt_eq hi]
  rfl
theorem validC_nat {n : Nat} {c : Int × Int} (h : validC (n : Int) c = true) : c.1 = ((c.1.toNat : Nat) : Int) ∧ c.2 = ((c.2.toNat : Nat) : Int) ∧ c.1.toNat < c.2.toNat ∧ c.2.toNat < n := by
  have := of_decide_eq_true h
  omega
theorem exF_pat (f : WF) (i j : Nat) {p : Nat} (h : ∀ k, f k p = false) : ∀ k, exF f i j k p = false := by
  intro k; unfold exF; simp [h]
theorem ChgB.refl (bn : Nat) (h : Heap) : ChgB bn h h := ⟨rfl, fun _ _ => rfl⟩
theorem ChgB.trans {bn : Nat} {a b c : Heap} (h : ChgB bn a b) (k : ChgB bn b c) : ChgB bn a c := ⟨k.size.trans h.size, fun i hi => (k.block i hi).trans (h.block i hi)⟩
end Go.X
namespace Go.X
/-- One tamed comparator. -/
def tame1 (n : Nat) (loose : Bool) (c : Int × Int) : Int × Int :=
  if ur c.1 % n = ur c.2 % n then
    (if (ur c.1 % n + 1) % n < ur c.1 % n ∧ loose = false then ((((ur c.1 % n + 1) % n : Nat) : Int), ((ur c.1 % n : Nat) : Int)) else (((ur c.1 % n : Nat) : Int), (((ur c.1 % n + 1) % n : Nat) : Int)))
  else if ur c.2 % n < ur c.1 % n ∧ loose = false then (((ur c.2 % n : Nat) : Int), ((ur c.1 % n : Nat) : Int)) else (((ur c.1 % n : Nat) : Int), ((ur c.2 % n : Nat) : Int))
def tameF (n most : Nat) (loose : Bool) (ls : List (Int × Int)) : List (Int × Int) := if n ≤ 1 then [] else (ls.take most).map (tame1 n loose)
theorem take_step {α β : Type} [Inhabited α] {f : α → β} {ls : List α} {ms : List β} {i : Nat} {q : β} (hi : i < ls.length) (hms : ms = (ls.take i).map f) (hp : f (gt ls i) = q) : ms ++ [q] = (ls.take (i + 1)).map f := by
  rw [List.take_add_one, List.map_append, ← hms, ← hp, gt_eq hi]
  simp [hi]
theorem tame1_ok {n : Nat} {loose : Bool} {c : Int × Int} (hn : 1 < n) : ∃ a b : Nat, tame1 n loose c = ((a : Int), (b : Int)) ∧ a < n ∧ b < n ∧ a ≠ b ∧ (loose = false → a < b) := by
  have h1 : ur c.1 % n < n := Nat.mod_lt _ (by omega)
  have h2 : ur c.2 % n < n := Nat.mod_lt _ (by omega)
  have h3 : (ur c.1 % n + 1) % n < n := Nat.mod_lt _ (by omega)
  have h4 : (ur c.1 % n + 1) % n ≠ ur c.1 % n := by
    by_cases e : ur c.1 % n + 1 = n
    · rw [e, Nat.mod_self]; omega
    · rw [Nat.mod_eq_of_lt (by omega)]; omega
  unfold tame1
  split
  · split
    · exact ⟨_, _, rfl, h3, h1, h4, fun _ => by omega⟩
    · rename_i h5
      exact ⟨_, _, rfl, h1, h3, Ne.symm h4, fun hl => by
        have : ¬ (ur c.1 % n + 1) % n < ur c.1 % n := fun h => h5 ⟨h, hl⟩
        omega⟩
  · rename_i h6
    split
    · exact ⟨_, _, rfl, h2, h1, Ne.symm h6, fun _ => by omega⟩
    · rename_i h5
      exact ⟨_, _, rfl, h1, h2, h6, fun hl => by
        have : ¬ ur c.2 % n < ur c.1 % n := fun h => h5 ⟨h, hl⟩
        omega⟩
theorem tameF_length {n most : Nat} {loose : Bool} {ls : List (Int × Int)} : (tameF n most loose ls).length ≤ most := by
  unfold tameF; split <;> simp; omega
theorem tameF_ok {n most : Nat} {loose : Bool} {ls : List (Int × Int)} {i : Nat} (hi : i < (tameF n most loose ls).length) :
    ∃ a b : Nat, gt (tameF n most loose ls) i = ((a : Int), (b : Int)) ∧ a < n ∧ b < n ∧ a ≠ b ∧ (loose = false → a < b) := by
  by_cases hn : n ≤ 1
  · unfold tameF at hi; rw [if_pos hn] at hi; simp at hi
  · have e : gt (tameF n most loose ls) i = tame1 n loose (gt (ls.take most) i) := by
      unfold tameF at hi ⊢
      rw [if_neg hn] at hi ⊢
      simp only [List.length_map] at hi
      rw [gt_eq hi, gt_eq (by simpa using hi)]
      simp
    rw [e]
    exact tame1_ok (by omega)
theorem tameF_validL {n most : Nat} {ls : List (Int × Int)} (loose : Bool) (h1 : 1 ≤ n) (h2 : n ≤ 10) (h3 : most ≤ 200) : chkNet validL (n : Int) (tameF n most loose ls) = 0 := by
  refine chkNet_all (by omega) (by omega) (by have := tameF_length (n := n) (most := most) (loose := loose) (ls := ls); omega) fun i hi => ?_
  obtain ⟨a, b, e, ha, hb, hne, _⟩ := tameF_ok hi
  rw [e]
  exact decide_eq_true ⟨by dsimp only; omega, by dsimp only; omega, by dsimp only; omega⟩
theorem tameF_validC {n most : Nat} {ls : List (Int × Int)} (h1 : 1 ≤ n) (h2 : n ≤ 10) (h3 : most ≤ 200) : chkNet validC (n : Int) (tameF n most false ls) = 0 := by
  refine chkNet_all (by omega) (by omega) (by have := tameF_length (n := n) (most := most) (loose := false) (ls := ls); omega) fun i hi => ?_
  obtain ⟨a, b, e, ha, hb, hne, hl⟩ := tameF_ok hi
  rw [e]
  have := hl rfl
  exact decide_eq_true ⟨by dsimp only; omega, by dsimp only; omega, by dsimp only; omega⟩

/-- The first 'n' numbers. -/
def iota (n : Nat) : List Int := (List.range n).map fun j : Nat => (j : Int)
theorem iota_length (n : Nat) : (iota n).length = n := by simp [iota]
theorem gt_iota {n j : Nat} (h : j < n) : gt (iota n) j = (j : Int) := by
  rw [gt_eq (by rw [iota_length]; exact h)]; simp [iota]
theorem iota_succ (n : Nat) : iota (n + 1) = iota n ++ [(n : Int)] := by simp [iota, List.range_succ]
theorem iota_ext {n : Nat} {xs : List Int} (hl : xs.length = n) (h : ∀ j, j < n → gt xs j = (j : Int)) : xs = iota n :=
  gt_ext (by rw [iota_length]; exact hl) fun j hj => by rw [h j (by omega), gt_iota (by omega)]
/-- The straight network: on which wire each value is, and the comparators. -/
def stA (n : Nat) (ls : List (Int × Int)) : Nat → List Int
  | 0 => iota n
  | i + 1 => exch (stA n ls i) (gt ls i).1.toNat (gt ls i).2.toNat
def stO (n : Nat) (ls : List (Int × Int)) : Nat → List (Int × Int)
  | 0 => []
  | i + 1 => stO n ls i ++ [(min (gt (stA n ls i) (gt ls i).1.toNat) (gt (stA n ls i) (gt ls i).2.toNat), max (gt (stA n ls i) (gt ls i).1.toNat) (gt (stA n ls i) (gt ls i).2.toNat))]
theorem stA_length (n : Nat) (ls : List (Int × Int)) : ∀ i, (stA n ls i).length = n
  | 0 => iota_length n
  | i + 1 => by unfold stA; rw [exch_length]; exact stA_length n ls i
theorem stO_length (n : Nat) (ls : List (Int × Int)) : ∀ i, (stO n ls i).length = i
  | 0 => rfl
  | i + 1 => by unfold stO; rw [List.length_append, stO_length n ls i]; rfl
theorem swp_same {xs : List Int} {i j : Nat} (hi : i < xs.length) (hj : j < xs.length) (h : gt xs i = gt xs j) : swp xs i j = xs := by
  refine gt_ext (swp_length _ _ _) fun k hk => ?_
  rw [gt_swp hi hj]
  split
  · rename_i e; rw [e, h]
  · split
    · rename_i e; rw [e, h]
    · rfl
theorem stA_yes {n i a b : Nat} {ls : List (Int × Int)} {xs : List Int} (hx : xs = stA n ls i) (hc : gt ls i = ((a : Int), (b : Int))) (ha : a < n) (hb : b < n) (h : gt xs b ≤ gt xs a) : swp xs a b = stA n ls (i + 1) := by
  have hl : xs.length = n := by rw [hx]; exact stA_length n ls i
  show _ = exch (stA n ls i) _ _
  rw [← hx, hc]
  simp only [Int.toNat_natCast]
  unfold exch
  split
  · rfl
  · exact swp_same (by omega) (by omega) (by omega)
theorem stA_no {n i a b : Nat} {ls : List (Int × Int)} {xs : List Int} (hx : xs = stA n ls i) (hc : gt ls i = ((a : Int), (b : Int))) (h : gt xs a ≤ gt xs b) : xs = stA n ls (i + 1) := by
  show _ = exch (stA n ls i) _ _
  rw [← hx, hc]
  simp only [Int.toNat_natCast]
  unfold exch
  rw [if_neg (by omega)]
theorem stO_step {n i a b : Nat} {ls : List (Int × Int)} {xs : List Int} {ms : List (Int × Int)} {u v : Int} (hx : xs = stA n ls i) (hm : ms = stO n ls i) (hc : gt ls i = ((a : Int), (b : Int))) (hu : u = min (gt xs a) (gt xs b)) (hv : v = max (gt xs a) (gt xs b)) : ms ++ [(u, v)] = stO n ls (i + 1) := by
  show _ = stO n ls i ++ _
  rw [← hx, hc, ← hm, hu, hv]
  simp only [Int.toNat_natCast]
theorem validL_nat {m : Nat} {c : Int × Int} (h : validL (m : Int) c = true) : ∃ a b : Nat, c = ((a : Int), (b : Int)) ∧ a < m ∧ b < m ∧ a ≠ b := by
  obtain ⟨x, y⟩ := c
  have := of_decide_eq_true h
  dsimp only at this
  exact ⟨x.toNat, y.toNat, by rw [Int.toNat_of_nonneg (by omega), Int.toNat_of_nonneg (by omega)], by omega, by omega, by omega⟩
end Go.X
namespace Go.X
def runV : List (Int × Int) → List Int → List Int
  | [], xs => xs
  | c :: cs, xs => runV cs (exch xs c.1.toNat c.2.toNat)
theorem runV_append (xs ys : List (Int × Int)) (f : List Int) : runV (xs ++ ys) f = runV ys (runV xs f) := by
  induction xs generalizing f with
  | nil => rfl
  | cons x xs ih => exact ih _
theorem runV_length (ls : List (Int × Int)) (xs : List Int) : (runV ls xs).length = xs.length := by
  induction ls generalizing xs with
  | nil => rfl
  | cons x ls ih => unfold runV; rw [ih, exch_length]
theorem take_snoc {α : Type} [Inhabited α] {ls : List α} {i : Nat} (hi : i < ls.length) : ls.take (i + 1) = ls.take i ++ [gt ls i] := by
  rw [List.take_add_one, gt_eq hi]; simp [hi]
theorem runV_step {ls : List (Int × Int)} {xs ys : List Int} {i a b : Nat} (hi : i < ls.length) (hy : ys = runV (ls.take i) xs) (hc : gt ls i = ((a : Int), (b : Int))) : exch ys a b = runV (ls.take (i + 1)) xs := by
  rw [take_snoc hi, runV_append, ← hy, hc]
  simp only [runV, Int.toNat_natCast]
theorem runV_yes {ls : List (Int × Int)} {xs ys : List Int} {i a b : Nat} (hi : i < ls.length) (hy : ys = runV (ls.take i) xs) (hc : gt ls i = ((a : Int), (b : Int))) (h : gt ys b < gt ys a) : swp ys a b = runV (ls.take (i + 1)) xs := by
  rw [← runV_step hi hy hc]; unfold exch; rw [if_pos h]
theorem runV_no {ls : List (Int × Int)} {xs ys : List Int} {i a b : Nat} (hi : i < ls.length) (hy : ys = runV (ls.take i) xs) (hc : gt ls i = ((a : Int), (b : Int))) (h : ¬ gt ys b < gt ys a) : ys = runV (ls.take (i + 1)) xs := by
  rw [← runV_step hi hy hc]; unfold exch; rw [if_neg h]
theorem runV_all {ls : List (Int × Int)} {xs ys : List Int} {i : Nat} (hi : ls.length ≤ i) (hy : ys = runV (ls.take i) xs) : ys = runV ls xs := by
  rw [hy, List.take_of_length_le hi]
/-- What is wrong with a run. -/
def runE (n : Int) (ls : List (Int × Int)) (xs : List Int) : Int := if chkNet validC n ls ≠ 0 then chkNet validC n ls else if (xs.length : Int) ≠ n then 7 else 0
theorem runE_ok {n : Int} {ls : List (Int × Int)} {xs : List Int} (h : runE n ls xs = 0) : chkNet validC n ls = 0 ∧ (xs.length : Int) = n := by
  unfold runE at h
  split at h
  · contradiction
  · split at h
    · cases h
    · omega
theorem runE_zero {n : Nat} {ls : List (Int × Int)} {xs : List Int} (h : chkNet validC (n : Int) ls = 0) (hl : xs.length = n) : runE (n : Int) ls xs = 0 := by
  unfold runE; rw [if_neg (fun h' => h' h), if_neg (by omega)]
/-- As many values as there are wires. -/
def valuesF (n : Nat) (xs : List Int) : List Int := (List.range n).map fun i => if i < xs.length then gt xs i else ((n : Int) - (i : Int))
theorem valuesF_length (n : Nat) (xs : List Int) : (valuesF n xs).length = n := by simp [valuesF]
def valuesK (n : Nat) (xs : List Int) (k : Nat) : List Int := (List.range k).map fun i => if i < xs.length then gt xs i else ((n : Int) - (i : Int))
theorem valuesK_succ (n : Nat) (xs : List Int) (k : Nat) : valuesK n xs (k + 1) = valuesK n xs k ++ [if k < xs.length then gt xs k else ((n : Int) - (k : Int))] := by
  simp [valuesK, List.range_succ]
theorem valuesK_length (n : Nat) (xs : List Int) (k : Nat) : (valuesK n xs k).length = k := by simp [valuesK]
theorem gt_exch {xs : List Int} {i j : Nat} (hi : i < xs.length) (hj : j < xs.length) (hij : i ≠ j) (k : Nat) : gt (exch xs i j) k = if k = i then min (gt xs i) (gt xs j) else if k = j then max (gt xs i) (gt xs j) else gt xs k := by
  unfold exch
  split
  · rw [gt_swp hi hj]
    by_cases h1 : k = i
    · subst h1; rw [if_neg (by omega), if_pos rfl, if_pos rfl]; omega
    · by_cases h2 : k = j
      · subst h2; rw [if_pos rfl, if_neg h1, if_pos rfl]; omega
      · rw [if_neg h2, if_neg h1, if_neg h1, if_neg h2]
  · by_cases h1 : k = i
    · subst h1; rw [if_pos rfl]; omega
    · by_cases h2 : k = j
      · subst h2; rw [if_neg h1, if_pos rfl]; omega
      · rw [if_neg h1, if_neg h2]
/-- Where the values of the loose network are in the straight one. -/
structure StInv (n : Nat) (w x y : List Int) : Prop where
  lw : w.length = n
  lx : x.length = n
  ly : y.length = n
  rng : ∀ i, i < n → 0 ≤ gt w i ∧ gt w i < (n : Int)
  inj : ∀ i j, i < n → j < n → gt w i = gt w j → i = j
  val : ∀ i, i < n → gt x (gt w i).toNat = gt y i
theorem StInv.step {n a b : Nat} {w x y : List Int} (h : StInv n w x y) (ha : a < n) (hb : b < n) (hab : a ≠ b) :
    StInv n (exch w a b) (exch x (min (gt w a) (gt w b)).toNat (max (gt w a) (gt w b)).toNat) (exch y a b) := by
  obtain ⟨lw, lx, ly, rng, inj, val⟩ := h
  have r1 := rng a ha
  have r2 := rng b hb
  have hne : gt w a ≠ gt w b := fun e => hab (inj a b ha hb e)
  have gw := gt_exch (xs := w) (i := a) (j := b) (by omega) (by omega) hab
  have gy := gt_exch (xs := y) (i := a) (j := b) (by omega) (by omega) hab
  have gx := gt_exch (xs := x) (i := (min (gt w a) (gt w b)).toNat) (j := (max (gt w a) (gt w b)).toNat) (by omega) (by omega) (by omega)
  have va := val a ha
  have vb := val b hb
  refine ⟨by rw [exch_length]; exact lw, by rw [exch_length]; exact lx, by rw [exch_length]; exact ly, fun i hi => ?_, fun i j hi hj e => ?_, fun i hi => ?_⟩
  · have := rng i hi
    rw [gw]; split
    · omega
    · split <;> omega
  · rw [gw, gw] at e
    by_cases h1 : i = a
    · by_cases h2 : j = a
      · omega
      · rw [if_pos h1, if_neg h2] at e
        by_cases h3 : j = b
        · rw [if_pos h3] at e; omega
        · rw [if_neg h3] at e
          have := inj j a hj ha
          have := inj j b hj hb
          omega
    · by_cases h4 : i = b
      · rw [if_neg h1, if_pos h4] at e
        by_cases h2 : j = a
        · rw [if_pos h2] at e; omega
        · rw [if_neg h2] at e
          by_cases h3 : j = b
          · omega
          · rw [if_neg h3] at e
            have := inj j a hj ha
            have := inj j b hj hb
            omega
      · rw [if_neg h1, if_neg h4] at e
        by_cases h2 : j = a
        · rw [if_pos h2] at e
          have := inj i a hi ha
          have := inj i b hi hb
          omega
        · rw [if_neg h2] at e
          by_cases h3 : j = b
          · rw [if_pos h3] at e
            have := inj i a hi ha
            have := inj i b hi hb
            omega
          · rw [if_neg h3] at e; exact inj i j hi hj e
  · rw [gw, gy]
    have key : min (gt x (min (gt w a) (gt w b)).toNat) (gt x (max (gt w a) (gt w b)).toNat) = min (gt y a) (gt y b) ∧ max (gt x (min (gt w a) (gt w b)).toNat) (gt x (max (gt w a) (gt w b)).toNat) = max (gt y a) (gt y b) := by
      rcases Int.lt_or_lt_of_ne hne with hl | hl
      · rw [show min (gt w a) (gt w b) = gt w a from by omega, show max (gt w a) (gt w b) = gt w b from by omega, va, vb]; exact ⟨rfl, rfl⟩
      · rw [show min (gt w a) (gt w b) = gt w b from by omega, show max (gt w a) (gt w b) = gt w a from by omega, va, vb]; omega
    by_cases h1 : i = a
    · rw [if_pos h1, if_pos h1, gx, if_pos rfl]; exact key.1
    · by_cases h2 : i = b
      · rw [if_neg h1, if_pos h2, if_neg h1, if_pos h2, gx, if_neg (by omega), if_pos rfl]; exact key.2
      · rw [if_neg h1, if_neg h2, if_neg h1, if_neg h2, gx]
        have e1 := inj i a hi ha
        have e2 := inj i b hi hb
        have e3 := rng i hi
        rw [if_neg (by omega), if_neg (by omega)]
        exact val i hi
theorem StInv.zero {n : Nat} {x : List Int} (hx : x.length = n) : StInv n (iota n) x x :=
  ⟨iota_length n, hx, hx, fun i hi => by rw [gt_iota hi]; omega, fun i j hi hj e => by rw [gt_iota hi, gt_iota hj] at e; omega, fun i hi => by rw [gt_iota hi]; rfl⟩
theorem stInv {n : Nat} {ls : List (Int × Int)} {x : List Int} (hx : x.length = n) (hv : ∀ i, i < ls.length → ∃ a b : Nat, gt ls i = ((a : Int), (b : Int)) ∧ a < n ∧ b < n ∧ a ≠ b) :
    ∀ i, i ≤ ls.length → StInv n (stA n ls i) (runV (stO n ls i) x) (runV (ls.take i) x)
  | 0, _ => by
    show StInv n (iota n) (runV [] x) (runV (ls.take 0) x)
    rw [List.take_zero]; exact StInv.zero hx
  | i + 1, hi => by
    obtain ⟨a, b, hc, ha, hb, hab⟩ := hv i (by omega)
    have ih := stInv hx hv i (by omega)
    have := ih.step ha hb hab
    have e1 : stA n ls (i + 1) = exch (stA n ls i) a b := by show exch _ _ _ = _; rw [hc]; simp only [Int.toNat_natCast]
    have e2 : runV (stO n ls (i + 1)) x = exch (runV (stO n ls i) x) (min (gt (stA n ls i) a) (gt (stA n ls i) b)).toNat (max (gt (stA n ls i) a) (gt (stA n ls i) b)).toNat := by
      show runV (stO n ls i ++ _) x = _
      rw [runV_append, hc]; simp only [runV, Int.toNat_natCast]
    rw [e1, e2, ← runV_step (by omega) rfl hc]
    exact this
theorem stO_valid {n : Nat} {ls : List (Int × Int)} (h1 : 1 ≤ n) (h2 : n ≤ 10) (hv : ∀ i, i < ls.length → ∃ a b : Nat, gt ls i = ((a : Int), (b : Int)) ∧ a < n ∧ b < n ∧ a ≠ b) :
    ∀ i, i ≤ ls.length → ∀ c ∈ stO n ls i, validC (n : Int) c = true
  | 0, _ => fun c hc => by cases hc
  | i + 1, hi => fun c hc => by
    obtain ⟨a, b, hg, ha, hb, hab⟩ := hv i (by omega)
    have ih := stInv (n := n) (x := iota n) (iota_length n) hv i (by omega)
    have hc' : c ∈ stO n ls i ++ [(min (gt (stA n ls i) (gt ls i).1.toNat) (gt (stA n ls i) (gt ls i).2.toNat), max (gt (stA n ls i) (gt ls i).1.toNat) (gt (stA n ls i) (gt ls i).2.toNat))] := hc
    rw [List.mem_append] at hc'
    rcases hc' with h | h
    · exact stO_valid h1 h2 hv i (by omega) c h
    · rw [List.mem_singleton] at h
      rw [hg] at h
      simp only [Int.toNat_natCast] at h
      have r1 := ih.rng a ha
      have r2 := ih.rng b hb
      have hne : gt (stA n ls i) a ≠ gt (stA n ls i) b := fun e => hab (ih.inj a b ha hb e)
      subst h
      exact decide_eq_true ⟨by dsimp only; omega, by dsimp only; omega, by dsimp only; omega⟩
theorem stO_chk {n : Nat} {ls : List (Int × Int)} (h1 : 1 ≤ n) (h2 : n ≤ 10) (hl : ls.length ≤ 200) (hv : ∀ i, i < ls.length → ∃ a b : Nat, gt ls i = ((a : Int), (b : Int)) ∧ a < n ∧ b < n ∧ a ≠ b) : chkNet validC (n : Int) (stO n ls ls.length) = 0 :=
  chkNet_all (by omega) (by omega) (by rw [stO_length]; omega) fun i hi => stO_valid h1 h2 hv ls.length (Nat.le_refl _) _ (gt_mem hi)
end Go.X
