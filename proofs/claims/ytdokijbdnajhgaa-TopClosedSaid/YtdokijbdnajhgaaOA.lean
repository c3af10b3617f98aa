/-
  Walks: what an order is.
-/
import Derived.Test.YtdokijbdnajhgaaOTypes
import Derived.Test.YtdokijbdnajhgaaXOrd
set_option linter.unusedSimpArgs false
set_option linter.unusedVariables false
namespace Go.Proofs.Ytdokijbdnajhgaa
open Go Go.X

set_option maxRecDepth 10000 in
theorem ochk1_spec (h : Heap) (vr : Value) (xs : List Bool) (vp : Value) (hs : List Hdr) (p : List (List Bool)) (bx : Nat) (hb_bx : Blk h bx (#[vp]) 29) (hr_vp : RdE encHd h vp hs) (ht_vp : RT encB h hs p) (hr_vr : RdE encB h vr xs) (hp1 : xs.length ≤ 4611686018427387904) : Fx Try.prog 114 [vr, .pointer (some ⟨bx, 0, none⟩)] h (fun v h' => v = .bool (decide (((xs.length : Nat) : Int) ≠ ((hs.length : Nat) : Int))) ∧ h = h') := by
  have hl_vp := ht_vp.1
  refine fx_intro (n := 9) [(0, vr), (1, .pointer (some ⟨bx, 0, none⟩))] Try.func114 rfl rfl (by simp) ⟨rfl, rfl, trivial⟩ fun g0 => ?_
  refine wi_seq <| wi_reg rfl <| lx_assign (.bool false) rfl rfl <| lx_nil <| wi_seq <| wi_reg rfl <| lx_move (vr) rfl rfl <| lx_len rfl Try.underlying70 hr_vr rfl <| lx_ldB (vp) rfl rfl fl29 hb_bx rfl rfl <| lx_len rfl Try.underlying29 hr_vp rfl <| lx_neq rfl rfl rfl <| lx_assign (.bool (decide (((xs.length : Nat) : Int) ≠ ((hs.length : Nat) : Int)))) rfl rfl <| lx_nil <| ?_
  -- R1
  refine wi_ret ⟨.bool (decide (((xs.length : Nat) : Int) ≠ ((hs.length : Nat) : Int))), (res_one rfl rfl), ⟨rfl, rfl⟩⟩

set_option maxRecDepth 10000 in
theorem oindex_spec (h : Heap) (vp : Value) (hs : List Hdr) (p : List (List Bool)) (bx : Nat) (hb_bx : Blk h bx (#[vp]) 29) (hr_vp : RdE encHd h vp hs) (ht_vp : RT encB h hs p) (hp1 : p.length ≤ 1000000) (hp2 : ∀ i, i < p.length → (gt p i).length ≤ 1000000) : Fx Try.prog 146 [vp, .func (.func 114) #[] #[.pointer (some ⟨bx, 0, none⟩)]] h (fun v h' => ∃ (r : Int), v = .int .i64 r ∧ ((r = -1 ∧ ∀ i, i < p.length → (gt p i).length = p.length) ∨ (0 ≤ r ∧ ∃ i, i < p.length ∧ (gt p i).length ≠ p.length)) ∧ h = h') := by
  have hl_vp := ht_vp.1
  refine fx_intro (n := 19) [(0, vp), (1, .func (.func 114) #[] #[.pointer (some ⟨bx, 0, none⟩)])] Try.func146 rfl rfl (by simp) ⟨rfl, rfl, trivial⟩ fun g0 => ?_
  refine wi_seq <| wi_reg rfl <| lx_assign (.int .i64 0) rfl rfl <| lx_nil <| wi_seq <| wi_seq <| wi_reg rfl <| lx_move (vp) rfl rfl <| lx_len rfl Try.underlying29 hr_vp rfl <| lx_move (.int .i64 0) rfl rfl <| lx_nil <| wi_block <| ?_
  refine wi_loop (σ := Nat) (rngB 8 19 [4, 5]) (fun (i : Nat) => [(8, .int .i64 ((i : Nat) : Int))]) (fun (i : Nat) (hh : Heap) => h = hh ∧ (i ≤ p.length) ∧ (∀ j, j < i → (gt p j).length = p.length)) (fun (i : Nat) => p.length - i) 0 ⟨rfl, trivial⟩ ⟨rfl, ?_, ?_⟩ ?_
  · try dsimp only
    omega
  · try dsimp only
    intro j hj; omega
  rintro g1 i hh1 ⟨rfl, hi, he⟩ IH1
  refine wi_seq <| wi_reg rfl <| lx_lssS rfl rfl rfl (fun c1 => ?_) (fun c1 => ?_)
  · refine lx_nil <| wi_seq <| wi_true rfl <| wi_skip <| wi_seq <| wi_block <| wi_seq <| wi_reg rfl <| lx_move (.int .i64 ((i : Nat) : Int)) rfl rfl <| lx_assign (.int .i64 ((i : Nat) : Int)) rfl rfl <| lx_nil <| wi_seq <| wi_reg rfl <| ?_
    have hgl := hp2 i (by omega)
    refine lx_move (.func (.func 114) #[] #[.pointer (some ⟨bx, 0, none⟩)]) rfl rfl <| lx_move (vp) rfl rfl <| lx_move (.int .i64 ((i : Nat) : Int)) rfl rfl <| lx_ix (i := i) rfl eT29 hr_vp rfl rfl (by first | omega | (simp only [List.length_set, List.length_append, List.length_cons, List.length_nil, List.length_replicate, List.length_take, swp_length, exch_length]; omega)) <| lx_ld (i := i) (j := 0) ((gt hs i).v) rfl rfl fl70 hr_vp (by first | omega | (simp only [List.length_set, List.length_append, List.length_cons, List.length_nil, List.length_replicate, List.length_take, swp_length, exch_length]; omega)) rfl rfl <| lx_callV [] [.pointer (some ⟨bx, 0, none⟩)] [(gt hs i).v] rfl rfl Try.call114 rfl rfl (ochk1_spec h ((gt hs i).v) (gt p i) vp hs p bx hb_bx hr_vp ht_vp (ht_vp.2 i (by first | omega | (simp only [List.length_set, List.length_append, List.length_cons, List.length_nil, List.length_replicate, List.length_take, swp_length, exch_length]; omega))) (by omega)) (fun _ _ _ => trivial) ?_
    rintro _ h1 ⟨rfl, rfl⟩
    refine lx_nil <| wi_condS (t := decide ((((gt p i).length : Nat) : Int) ≠ ((hs.length : Nat) : Int))) rfl (fun c2 => ?_) (fun c2 => ?_)
    · refine wi_seq <| wi_reg rfl <| lx_move (.int .i64 ((i : Nat) : Int)) rfl rfl <| lx_assign (.int .i64 ((i : Nat) : Int)) rfl rfl <| lx_nil <| ?_
      -- R1
      refine wi_ret ⟨.int .i64 ((i : Nat) : Int), (res_one rfl rfl), ⟨((i : Nat) : Int), ?_, ?_, rfl⟩⟩
      · first | rfl | (simp; done) | (simp; omega)
      · refine .inr ⟨by omega, i, by omega, ?_⟩
        have h9 := of_decide_eq_true c2; omega
    · refine wi_skip <| wi_inBlock <| wi_reg rfl <| lx_add (((i + 1 : Nat) : Int)) rfl rfl rfl (by omega) (by omega) (by omega) <| lx_move (.int .i64 ((i + 1 : Nat) : Int)) rfl rfl <| lx_nil <| ?_
      -- L0.1
      refine IH1 _ _ (i + 1) (agree_ups rfl agree_self) ⟨rfl, trivial⟩ ⟨rfl, ?_, ?_⟩ ?_
      · try dsimp only
        omega
      · try dsimp only
        intro j hj; by_cases e : j = i
        · subst e; have h9 := of_decide_eq_false c2; omega
        · exact he j (by omega)
      · first | omega | (dsimp only; omega)
  · refine lx_nil <| wi_seq <| wi_false rfl <| wi_exit rfl <| wi_seq <| wi_reg rfl <| lx_assign (.int .i64 (-1)) rfl rfl <| lx_nil <| ?_
    -- R2
    refine wi_ret ⟨.int .i64 (-1), (res_one rfl rfl), ⟨(-1), ?_, ?_, rfl⟩⟩
    · first | rfl | (simp; done) | (simp; omega)
    · exact .inl ⟨rfl, fun j hj => he j (by omega)⟩

set_option maxRecDepth 10000 in
theorem ocontains_spec (h : Heap) (vp : Value) (hs : List Hdr) (p : List (List Bool)) (bx : Nat) (hb_bx : Blk h bx (#[vp]) 29) (hr_vp : RdE encHd h vp hs) (ht_vp : RT encB h hs p) (hp1 : p.length ≤ 1000000) (hp2 : ∀ i, i < p.length → (gt p i).length ≤ 1000000) : Fx Try.prog 113 [vp, .func (.func 114) #[] #[.pointer (some ⟨bx, 0, none⟩)]] h (fun v h' => v = .bool (!sqB p) ∧ h = h') := by
  have hl_vp := ht_vp.1
  refine fx_intro (n := 9) [(0, vp), (1, .func (.func 114) #[] #[.pointer (some ⟨bx, 0, none⟩)])] Try.func113 rfl rfl (by simp) ⟨rfl, rfl, trivial⟩ fun g0 => ?_
  refine wi_seq <| wi_reg rfl <| lx_assign (.bool false) rfl rfl <| lx_nil <| wi_seq <| wi_reg rfl <| lx_move (vp) rfl rfl <| lx_move (.func (.func 114) #[] #[.pointer (some ⟨bx, 0, none⟩)]) rfl rfl <| lx_call [vp, .func (.func 114) #[] #[.pointer (some ⟨bx, 0, none⟩)]] rfl rfl Try.call146 rfl (oindex_spec h vp hs p bx hb_bx hr_vp ht_vp (by omega) hp2) (fun _ _ _ => trivial) ?_
  rintro _ h1 ⟨r_1, rfl, hr_1, rfl⟩
  refine lx_geq rfl rfl rfl <| lx_assign (.bool (decide ((0 : Int) ≤ r_1))) rfl rfl <| lx_nil <| ?_
  -- R1
  refine wi_ret ⟨.bool (decide ((0 : Int) ≤ r_1)), (res_one rfl rfl), ⟨?_, rfl⟩⟩
  · congr 1
    rcases hr_1 with ⟨h1, h2⟩ | ⟨h1, j, h2, h3⟩
    · rw [decide_eq_false (by omega), sqB_iff.2 ⟨rfl, h2⟩]; rfl
    · rw [decide_eq_true (by omega)]
      symm
      rw [Bool.not_eq_true', Bool.eq_false_iff]
      exact fun h => h3 ((sqB_iff.1 h).2 j h2)

set_option maxRecDepth 10000 in
theorem ocheck_spec (h : Heap) (vp : Value) (hs : List Hdr) (p : List (List Bool)) (hr_vp : RdE encHd h vp hs) (ht_vp : RT encB h hs p) (hp1 : p.length ≤ 1000000) (hp2 : ∀ i, i < p.length → (gt p i).length ≤ 1000000) : Fx Try.prog 62 [vp] h (fun v h' => v = .int .i64 (chkT p) ∧ Ext h.size h h') := by
  have hl_vp := ht_vp.1
  refine fx_intro (n := 99) [(0, vp)] Try.func62 rfl rfl (by simp) ⟨rfl, trivial⟩ fun g0 => ?_
  refine wi_seq <| wi_reg rfl <| lx_box #[vp] rfl rfl (sl_cells hr_vp) (fun _ _ _ => trivial) fun bn1 h1 hbn1 hbk1 hx1 hsz1 => ?_
  have hbb1 : h.size ≤ bn1 := by have := (Nat.le_refl h.size); omega
  refine lx_assign (.int .i64 0) rfl rfl <| lx_nil <| wi_seq <| wi_seq <| wi_reg rfl <| lx_ldB (vp) rfl rfl fl29 hbk1 rfl rfl <| lx_len rfl Try.underlying29 hr_vp rfl <| lx_lssS rfl rfl rfl (fun c1 => ?_) (fun c1 => ?_)
  · refine lx_move (.bool true) rfl rfl <| lx_skip rfl <| lx_skip rfl <| lx_skip rfl <| lx_pick true (.bool true) rfl rfl rfl <| lx_move (.bool true) rfl rfl <| lx_skip rfl <| lx_skip rfl <| lx_skip rfl <| lx_pick true (.bool true) rfl rfl rfl <| lx_nil <| wi_true rfl <| wi_seq <| wi_reg rfl <| lx_assign (.int .i64 90) rfl rfl <| lx_nil <| ?_
    -- R1
    refine wi_ret ⟨.int .i64 90, (res_one rfl rfl), ⟨?_, hx1⟩⟩
    · first
      | (rw [chkT_size (by omega)]; done)
      | rw [chkT_bad (bad_ok (x := x) (y := y) (by omega) (by omega) (by first | exact bad_tri (z := z) (by omega) (by first | assumption | exact nbf (by assumption) | exact nbt (by assumption)) (by first | assumption | exact nbf (by assumption) | exact nbt (by assumption)) (by first | assumption | exact nbf (by assumption) | exact nbt (by assumption)) | exact bad_refl (by omega) (by first | assumption | exact nbf (by assumption) | exact nbt (by assumption)) | exact bad_anti (by omega) (by first | assumption | exact nbf (by assumption) | exact nbt (by assumption)) (by first | assumption | exact nbf (by assumption) | exact nbt (by assumption))))]
      | (have h9 : isT p = false := by
           unfold isT; rw [show sqB p = false from by simpa using ‹(!sqB p) = true›]; rfl
         rw [chkT_bad h9])
      | (have h9 : isT p = true := isT_iff.2 ⟨hsQ, fun a b ha hb => hA a (by omega) b hb⟩
         rw [ok_chkT (by omega) (by omega) h9])
  · refine lx_move (.bool false) rfl rfl <| lx_ldB (vp) rfl rfl fl29 hbk1 rfl rfl <| lx_len rfl Try.underlying29 hr_vp rfl <| lx_gtrS rfl rfl rfl (fun c2 => ?_) (fun c2 => ?_)
    · refine lx_pick false (.bool true) rfl rfl rfl <| lx_move (.bool true) rfl rfl <| lx_skip rfl <| lx_skip rfl <| lx_skip rfl <| lx_pick true (.bool true) rfl rfl rfl <| lx_nil <| wi_true rfl <| wi_seq <| wi_reg rfl <| lx_assign (.int .i64 90) rfl rfl <| lx_nil <| ?_
      -- R2
      refine wi_ret ⟨.int .i64 90, (res_one rfl rfl), ⟨?_, hx1⟩⟩
      · first
        | (rw [chkT_size (by omega)]; done)
        | rw [chkT_bad (bad_ok (x := x) (y := y) (by omega) (by omega) (by first | exact bad_tri (z := z) (by omega) (by first | assumption | exact nbf (by assumption) | exact nbt (by assumption)) (by first | assumption | exact nbf (by assumption) | exact nbt (by assumption)) (by first | assumption | exact nbf (by assumption) | exact nbt (by assumption)) | exact bad_refl (by omega) (by first | assumption | exact nbf (by assumption) | exact nbt (by assumption)) | exact bad_anti (by omega) (by first | assumption | exact nbf (by assumption) | exact nbt (by assumption)) (by first | assumption | exact nbf (by assumption) | exact nbt (by assumption))))]
        | (have h9 : isT p = false := by
             unfold isT; rw [show sqB p = false from by simpa using ‹(!sqB p) = true›]; rfl
           rw [chkT_bad h9])
        | (have h9 : isT p = true := isT_iff.2 ⟨hsQ, fun a b ha hb => hA a (by omega) b hb⟩
           rw [ok_chkT (by omega) (by omega) h9])
    · refine lx_pick false (.bool false) rfl rfl rfl <| lx_move (.bool false) rfl rfl <| lx_ldB (vp) rfl rfl fl29 hbk1 rfl rfl <| lx_makeFunc [] [.pointer (some ⟨bn1, 0, none⟩)] rfl rfl rfl <| lx_call [vp, .func (.func 114) #[] #[.pointer (some ⟨bn1, 0, none⟩)]] rfl rfl Try.call113 rfl (ocontains_spec h1 vp hs p bn1 hbk1 (hr_vp.extS hx1) (ht_vp.extS hx1) (by omega) hp2) (fun _ _ _ => trivial) ?_
      rintro _ h2 ⟨rfl, rfl⟩
      refine lx_pick false (.bool (!sqB p)) rfl rfl rfl <| lx_nil <| wi_condS (t := !sqB p) rfl (fun c3 => ?_) (fun c3 => ?_)
      · refine wi_seq <| wi_reg rfl <| lx_assign (.int .i64 90) rfl rfl <| lx_nil <| ?_
        -- R3
        refine wi_ret ⟨.int .i64 90, (res_one rfl rfl), ⟨?_, hx1⟩⟩
        · first
          | (rw [chkT_size (by omega)]; done)
          | rw [chkT_bad (bad_ok (x := x) (y := y) (by omega) (by omega) (by first | exact bad_tri (z := z) (by omega) (by first | assumption | exact nbf (by assumption) | exact nbt (by assumption)) (by first | assumption | exact nbf (by assumption) | exact nbt (by assumption)) (by first | assumption | exact nbf (by assumption) | exact nbt (by assumption)) | exact bad_refl (by omega) (by first | assumption | exact nbf (by assumption) | exact nbt (by assumption)) | exact bad_anti (by omega) (by first | assumption | exact nbf (by assumption) | exact nbt (by assumption)) (by first | assumption | exact nbf (by assumption) | exact nbt (by assumption))))]
          | (have h9 : isT p = false := by
               unfold isT; rw [show sqB p = false from by simpa using ‹(!sqB p) = true›]; rfl
             rw [chkT_bad h9])
          | (have h9 : isT p = true := isT_iff.2 ⟨hsQ, fun a b ha hb => hA a (by omega) b hb⟩
             rw [ok_chkT (by omega) (by omega) h9])
      · refine wi_skip <| wi_seq <| wi_seq <| wi_reg rfl <| ?_
        have hsB : sqB p = true := by simpa using ‹(!sqB p) = false›
        have hsQ := sqB_iff.1 hsB
        have hsq : ∀ i, i < p.length → (gt p i).length = p.length := hsQ.2
        refine lx_ldB (vp) rfl rfl fl29 hbk1 rfl rfl <| lx_len rfl Try.underlying29 hr_vp rfl <| lx_move (.int .i64 0) rfl rfl <| lx_nil <| wi_block <| ?_
        refine wi_loop (σ := Nat) (rngB 21 99 [2, 3, 4, 5]) (fun (x : Nat) => [(21, .int .i64 ((x : Nat) : Int))]) (fun (x : Nat) (hh : Heap) => h1 = hh ∧ (x ≤ p.length) ∧ (∀ a, a < x → ∀ b, b < p.length → okP p.length (pb p) a b)) (fun (x : Nat) => p.length - x) 0 ⟨rfl, trivial⟩ ⟨rfl, ?_, ?_⟩ ?_
        · try dsimp only
          omega
        · try dsimp only
          intro a ha; omega
        rintro g1 x hh1 ⟨rfl, hx, hA⟩ IH1
        refine wi_seq <| wi_reg rfl <| lx_lssS rfl rfl rfl (fun c4 => ?_) (fun c4 => ?_)
        · refine lx_nil <| wi_seq <| wi_true rfl <| wi_skip <| wi_seq <| wi_block <| wi_seq <| wi_reg rfl <| lx_move (.int .i64 ((x : Nat) : Int)) rfl rfl <| lx_assign (.int .i64 ((x : Nat) : Int)) rfl rfl <| lx_nil <| wi_seq <| wi_reg rfl <| lx_ldB (vp) rfl rfl fl29 hbk1 rfl rfl <| lx_len rfl Try.underlying29 hr_vp rfl <| lx_move (.int .i64 0) rfl rfl <| lx_nil <| wi_block <| ?_
          refine wi_loop (σ := Nat) (rngB 26 98 [2, 4, 5]) (fun (y : Nat) => [(26, .int .i64 ((y : Nat) : Int))]) (fun (y : Nat) (hh : Heap) => h1 = hh ∧ (y ≤ p.length) ∧ (∀ b, b < y → okP p.length (pb p) x b)) (fun (y : Nat) => p.length - y) 0 ⟨rfl, trivial⟩ ⟨rfl, ?_, ?_⟩ ?_
          · try dsimp only
            omega
          · try dsimp only
            intro b hb; omega
          rintro g2 y hh2 ⟨rfl, hy, hB⟩ IH2
          refine wi_seq <| wi_reg rfl <| lx_lssS rfl rfl rfl (fun c5 => ?_) (fun c5 => ?_)
          · refine lx_nil <| wi_seq <| wi_true rfl <| wi_skip <| wi_seq <| wi_block <| wi_seq <| wi_reg rfl <| lx_move (.int .i64 ((y : Nat) : Int)) rfl rfl <| lx_assign (.int .i64 ((y : Nat) : Int)) rfl rfl <| lx_nil <| wi_seq <| wi_seq <| wi_reg rfl <| lx_move (.int .i64 ((x : Nat) : Int)) rfl rfl <| lx_move (.int .i64 ((y : Nat) : Int)) rfl rfl <| lx_eqlS rfl rfl rfl (fun c6 => ?_) (fun c6 => ?_)
            · refine lx_move (.bool true) rfl rfl <| lx_ldB (vp) rfl rfl fl29 hbk1 rfl rfl <| lx_move (.int .i64 ((x : Nat) : Int)) rfl rfl <| lx_ix (i := x) rfl eT29 hr_vp rfl rfl (by first | omega | (simp only [List.length_set, List.length_append, List.length_cons, List.length_nil, List.length_replicate, List.length_take, swp_length, exch_length]; omega)) <| lx_ld (i := x) (j := 0) ((gt hs x).v) rfl rfl fl70 (hr_vp.extS hx1) (by first | omega | (simp only [List.length_set, List.length_append, List.length_cons, List.length_nil, List.length_replicate, List.length_take, swp_length, exch_length]; omega)) rfl rfl <| lx_move (.int .i64 ((y : Nat) : Int)) rfl rfl <| lx_ix (i := y) rfl eT70 (ht_vp.2 x (by first | omega | (simp only [List.length_set, List.length_append, List.length_cons, List.length_nil, List.length_replicate, List.length_take, swp_length, exch_length]; omega))) rfl rfl (by rw [hsq x (by first | omega | (simp only [List.length_set, List.length_append, List.length_cons, List.length_nil, List.length_replicate, List.length_take, swp_length, exch_length]; omega))]; omega) <| lx_ld (i := y) (j := 0) (.bool (gt (gt p x) y)) rfl rfl fl4 ((ht_vp.extS hx1).2 x (by first | omega | (simp only [List.length_set, List.length_append, List.length_cons, List.length_nil, List.length_replicate, List.length_take, swp_length, exch_length]; omega))) (by rw [hsq x (by first | omega | (simp only [List.length_set, List.length_append, List.length_cons, List.length_nil, List.length_replicate, List.length_take, swp_length, exch_length]; omega))]; omega) rfl rfl <| lx_not rfl rfl <| lx_pick true (.bool (!(gt (gt p x) y))) rfl rfl rfl <| lx_move (.bool (!(gt (gt p x) y))) rfl rfl <| ?_
              cases c7 : (gt (gt p x) y)
              · refine lx_skip rfl <| lx_skip rfl <| lx_skip rfl <| lx_skip rfl <| lx_skip rfl <| lx_skip rfl <| lx_skip rfl <| lx_skip rfl <| lx_skip rfl <| lx_skip rfl <| lx_skip rfl <| lx_skip rfl <| lx_skip rfl <| lx_skip rfl <| lx_skip rfl <| lx_skip rfl <| lx_skip rfl <| lx_skip rfl <| lx_skip rfl <| lx_skip rfl <| lx_skip rfl <| lx_pick true (.bool true) rfl rfl rfl <| lx_nil <| wi_true rfl <| wi_seq <| wi_reg rfl <| lx_assign (.int .i64 90) rfl rfl <| lx_nil <| ?_
                -- R4
                refine wi_ret ⟨.int .i64 90, (res_one rfl rfl), ⟨?_, hx1⟩⟩
                · first
                  | (rw [chkT_size (by omega)]; done)
                  | rw [chkT_bad (bad_ok (x := x) (y := y) (by omega) (by omega) (by first | exact bad_tri (z := z) (by omega) (by first | assumption | exact nbf (by assumption) | exact nbt (by assumption)) (by first | assumption | exact nbf (by assumption) | exact nbt (by assumption)) (by first | assumption | exact nbf (by assumption) | exact nbt (by assumption)) | exact bad_refl (by omega) (by first | assumption | exact nbf (by assumption) | exact nbt (by assumption)) | exact bad_anti (by omega) (by first | assumption | exact nbf (by assumption) | exact nbt (by assumption)) (by first | assumption | exact nbf (by assumption) | exact nbt (by assumption))))]
                  | (have h9 : isT p = false := by
                       unfold isT; rw [show sqB p = false from by simpa using ‹(!sqB p) = true›]; rfl
                     rw [chkT_bad h9])
                  | (have h9 : isT p = true := isT_iff.2 ⟨hsQ, fun a b ha hb => hA a (by omega) b hb⟩
                     rw [ok_chkT (by omega) (by omega) h9])
              · refine lx_move (.int .i64 ((x : Nat) : Int)) rfl rfl <| lx_move (.int .i64 ((y : Nat) : Int)) rfl rfl <| lx_neqS rfl rfl rfl (fun c8 => ?_) (fun c8 => ?_)
                · refine lx_move (.bool true) rfl rfl <| lx_ldB (vp) rfl rfl fl29 hbk1 rfl rfl <| lx_move (.int .i64 ((x : Nat) : Int)) rfl rfl <| lx_ix (i := x) rfl eT29 hr_vp rfl rfl (by first | omega | (simp only [List.length_set, List.length_append, List.length_cons, List.length_nil, List.length_replicate, List.length_take, swp_length, exch_length]; omega)) <| lx_ld (i := x) (j := 0) ((gt hs x).v) rfl rfl fl70 (hr_vp.extS hx1) (by first | omega | (simp only [List.length_set, List.length_append, List.length_cons, List.length_nil, List.length_replicate, List.length_take, swp_length, exch_length]; omega)) rfl rfl <| lx_move (.int .i64 ((y : Nat) : Int)) rfl rfl <| lx_ix (i := y) rfl eT70 (ht_vp.2 x (by first | omega | (simp only [List.length_set, List.length_append, List.length_cons, List.length_nil, List.length_replicate, List.length_take, swp_length, exch_length]; omega))) rfl rfl (by rw [hsq x (by first | omega | (simp only [List.length_set, List.length_append, List.length_cons, List.length_nil, List.length_replicate, List.length_take, swp_length, exch_length]; omega))]; omega) <| lx_ld (i := y) (j := 0) (.bool true) rfl rfl fl4 ((ht_vp.extS hx1).2 x (by first | omega | (simp only [List.length_set, List.length_append, List.length_cons, List.length_nil, List.length_replicate, List.length_take, swp_length, exch_length]; omega))) (by rw [hsq x (by first | omega | (simp only [List.length_set, List.length_append, List.length_cons, List.length_nil, List.length_replicate, List.length_take, swp_length, exch_length]; omega))]; omega) (by show some (Value.bool (gt (gt p x) y)) = _; rw [c7]) rfl <| lx_pick true (.bool true) rfl rfl rfl <| lx_move (.bool true) rfl rfl <| lx_ldB (vp) rfl rfl fl29 hbk1 rfl rfl <| lx_move (.int .i64 ((y : Nat) : Int)) rfl rfl <| lx_ix (i := y) rfl eT29 hr_vp rfl rfl (by first | omega | (simp only [List.length_set, List.length_append, List.length_cons, List.length_nil, List.length_replicate, List.length_take, swp_length, exch_length]; omega)) <| lx_ld (i := y) (j := 0) ((gt hs y).v) rfl rfl fl70 (hr_vp.extS hx1) (by first | omega | (simp only [List.length_set, List.length_append, List.length_cons, List.length_nil, List.length_replicate, List.length_take, swp_length, exch_length]; omega)) rfl rfl <| lx_move (.int .i64 ((x : Nat) : Int)) rfl rfl <| lx_ix (i := x) rfl eT70 (ht_vp.2 y (by first | omega | (simp only [List.length_set, List.length_append, List.length_cons, List.length_nil, List.length_replicate, List.length_take, swp_length, exch_length]; omega))) rfl rfl (by rw [hsq y (by first | omega | (simp only [List.length_set, List.length_append, List.length_cons, List.length_nil, List.length_replicate, List.length_take, swp_length, exch_length]; omega))]; omega) <| lx_ld (i := x) (j := 0) (.bool (gt (gt p y) x)) rfl rfl fl4 ((ht_vp.extS hx1).2 y (by first | omega | (simp only [List.length_set, List.length_append, List.length_cons, List.length_nil, List.length_replicate, List.length_take, swp_length, exch_length]; omega))) (by rw [hsq y (by first | omega | (simp only [List.length_set, List.length_append, List.length_cons, List.length_nil, List.length_replicate, List.length_take, swp_length, exch_length]; omega))]; omega) rfl rfl <| lx_pick true (.bool (gt (gt p y) x)) rfl rfl rfl <| lx_pick false (.bool (gt (gt p y) x)) rfl rfl rfl <| lx_nil <| wi_condS (t := gt (gt p y) x) rfl (fun c9 => ?_) (fun c9 => ?_)
                  · refine wi_seq <| wi_reg rfl <| lx_assign (.int .i64 90) rfl rfl <| lx_nil <| ?_
                    -- R5
                    refine wi_ret ⟨.int .i64 90, (res_one rfl rfl), ⟨?_, hx1⟩⟩
                    · first
                      | (rw [chkT_size (by omega)]; done)
                      | rw [chkT_bad (bad_ok (x := x) (y := y) (by omega) (by omega) (by first | exact bad_tri (z := z) (by omega) (by first | assumption | exact nbf (by assumption) | exact nbt (by assumption)) (by first | assumption | exact nbf (by assumption) | exact nbt (by assumption)) (by first | assumption | exact nbf (by assumption) | exact nbt (by assumption)) | exact bad_refl (by omega) (by first | assumption | exact nbf (by assumption) | exact nbt (by assumption)) | exact bad_anti (by omega) (by first | assumption | exact nbf (by assumption) | exact nbt (by assumption)) (by first | assumption | exact nbf (by assumption) | exact nbt (by assumption))))]
                      | (have h9 : isT p = false := by
                           unfold isT; rw [show sqB p = false from by simpa using ‹(!sqB p) = true›]; rfl
                         rw [chkT_bad h9])
                      | (have h9 : isT p = true := isT_iff.2 ⟨hsQ, fun a b ha hb => hA a (by omega) b hb⟩
                         rw [ok_chkT (by omega) (by omega) h9])
                  · refine wi_skip <| wi_seq <| wi_reg rfl <| lx_ldB (vp) rfl rfl fl29 hbk1 rfl rfl <| lx_len rfl Try.underlying29 hr_vp rfl <| lx_move (.int .i64 0) rfl rfl <| lx_nil <| wi_block <| ?_
                    refine wi_loop (σ := Nat) (rngB 67 97 [2, 5]) (fun (z : Nat) => [(67, .int .i64 ((z : Nat) : Int))]) (fun (z : Nat) (hh : Heap) => h1 = hh ∧ (z ≤ p.length) ∧ (∀ c, c < z → pb p x y = true → pb p y c = true → pb p x c = true)) (fun (z : Nat) => p.length - z) 0 ⟨rfl, trivial⟩ ⟨rfl, ?_, ?_⟩ ?_
                    · try dsimp only
                      omega
                    · try dsimp only
                      intro c hc; omega
                    rintro g3 z hh3 ⟨rfl, hz, hC⟩ IH3
                    refine wi_seq <| wi_reg rfl <| lx_lssS rfl rfl rfl (fun c10 => ?_) (fun c10 => ?_)
                    · refine lx_nil <| wi_seq <| wi_true rfl <| wi_skip <| wi_seq <| wi_block <| wi_seq <| wi_reg rfl <| lx_move (.int .i64 ((z : Nat) : Int)) rfl rfl <| lx_assign (.int .i64 ((z : Nat) : Int)) rfl rfl <| lx_nil <| wi_seq <| wi_reg rfl <| lx_ldB (vp) rfl rfl fl29 hbk1 rfl rfl <| lx_move (.int .i64 ((x : Nat) : Int)) rfl rfl <| lx_ix (i := x) rfl eT29 hr_vp rfl rfl (by first | omega | (simp only [List.length_set, List.length_append, List.length_cons, List.length_nil, List.length_replicate, List.length_take, swp_length, exch_length]; omega)) <| lx_ld (i := x) (j := 0) ((gt hs x).v) rfl rfl fl70 (hr_vp.extS hx1) (by first | omega | (simp only [List.length_set, List.length_append, List.length_cons, List.length_nil, List.length_replicate, List.length_take, swp_length, exch_length]; omega)) rfl rfl <| lx_move (.int .i64 ((y : Nat) : Int)) rfl rfl <| lx_ix (i := y) rfl eT70 (ht_vp.2 x (by first | omega | (simp only [List.length_set, List.length_append, List.length_cons, List.length_nil, List.length_replicate, List.length_take, swp_length, exch_length]; omega))) rfl rfl (by rw [hsq x (by first | omega | (simp only [List.length_set, List.length_append, List.length_cons, List.length_nil, List.length_replicate, List.length_take, swp_length, exch_length]; omega))]; omega) <| lx_ld (i := y) (j := 0) (.bool true) rfl rfl fl4 ((ht_vp.extS hx1).2 x (by first | omega | (simp only [List.length_set, List.length_append, List.length_cons, List.length_nil, List.length_replicate, List.length_take, swp_length, exch_length]; omega))) (by rw [hsq x (by first | omega | (simp only [List.length_set, List.length_append, List.length_cons, List.length_nil, List.length_replicate, List.length_take, swp_length, exch_length]; omega))]; omega) (by show some (Value.bool (gt (gt p x) y)) = _; rw [c7]) rfl <| lx_move (.bool true) rfl rfl <| lx_ldB (vp) rfl rfl fl29 hbk1 rfl rfl <| lx_move (.int .i64 ((y : Nat) : Int)) rfl rfl <| lx_ix (i := y) rfl eT29 hr_vp rfl rfl (by first | omega | (simp only [List.length_set, List.length_append, List.length_cons, List.length_nil, List.length_replicate, List.length_take, swp_length, exch_length]; omega)) <| lx_ld (i := y) (j := 0) ((gt hs y).v) rfl rfl fl70 (hr_vp.extS hx1) (by first | omega | (simp only [List.length_set, List.length_append, List.length_cons, List.length_nil, List.length_replicate, List.length_take, swp_length, exch_length]; omega)) rfl rfl <| lx_move (.int .i64 ((z : Nat) : Int)) rfl rfl <| lx_ix (i := z) rfl eT70 (ht_vp.2 y (by first | omega | (simp only [List.length_set, List.length_append, List.length_cons, List.length_nil, List.length_replicate, List.length_take, swp_length, exch_length]; omega))) rfl rfl (by rw [hsq y (by first | omega | (simp only [List.length_set, List.length_append, List.length_cons, List.length_nil, List.length_replicate, List.length_take, swp_length, exch_length]; omega))]; omega) <| lx_ld (i := z) (j := 0) (.bool (gt (gt p y) z)) rfl rfl fl4 ((ht_vp.extS hx1).2 y (by first | omega | (simp only [List.length_set, List.length_append, List.length_cons, List.length_nil, List.length_replicate, List.length_take, swp_length, exch_length]; omega))) (by rw [hsq y (by first | omega | (simp only [List.length_set, List.length_append, List.length_cons, List.length_nil, List.length_replicate, List.length_take, swp_length, exch_length]; omega))]; omega) rfl rfl <| lx_pick true (.bool (gt (gt p y) z)) rfl rfl rfl <| lx_move (.bool (gt (gt p y) z)) rfl rfl <| ?_
                      cases c11 : (gt (gt p y) z)
                      · refine lx_skip rfl <| lx_skip rfl <| lx_skip rfl <| lx_skip rfl <| lx_skip rfl <| lx_skip rfl <| lx_skip rfl <| lx_skip rfl <| lx_pick false (.bool false) rfl rfl rfl <| lx_nil <| wi_false rfl <| wi_skip <| wi_inBlock <| wi_reg rfl <| lx_add (((z + 1 : Nat) : Int)) rfl rfl rfl (by omega) (by omega) (by omega) <| lx_move (.int .i64 ((z + 1 : Nat) : Int)) rfl rfl <| lx_nil <| ?_
                        -- L4.1
                        refine IH3 _ _ (z + 1) (agree_ups rfl agree_self) ⟨rfl, trivial⟩ ⟨rfl, ?_, ?_⟩ ?_
                        · try dsimp only
                          omega
                        · try dsimp only
                          intro c hc h1 h2
                          by_cases e : c = z
                          · subst e; first | assumption | exact nbf (by assumption) | exact absurd h1 (ntb (by first | assumption | exact nbt (by assumption))) | exact absurd h2 (ntb (by first | assumption | exact nbt (by assumption)))
                          · exact hC c (by omega) h1 h2
                        · first | omega | (dsimp only; omega)
                      · refine lx_ldB (vp) rfl rfl fl29 hbk1 rfl rfl <| lx_move (.int .i64 ((x : Nat) : Int)) rfl rfl <| lx_ix (i := x) rfl eT29 hr_vp rfl rfl (by first | omega | (simp only [List.length_set, List.length_append, List.length_cons, List.length_nil, List.length_replicate, List.length_take, swp_length, exch_length]; omega)) <| lx_ld (i := x) (j := 0) ((gt hs x).v) rfl rfl fl70 (hr_vp.extS hx1) (by first | omega | (simp only [List.length_set, List.length_append, List.length_cons, List.length_nil, List.length_replicate, List.length_take, swp_length, exch_length]; omega)) rfl rfl <| lx_move (.int .i64 ((z : Nat) : Int)) rfl rfl <| lx_ix (i := z) rfl eT70 (ht_vp.2 x (by first | omega | (simp only [List.length_set, List.length_append, List.length_cons, List.length_nil, List.length_replicate, List.length_take, swp_length, exch_length]; omega))) rfl rfl (by rw [hsq x (by first | omega | (simp only [List.length_set, List.length_append, List.length_cons, List.length_nil, List.length_replicate, List.length_take, swp_length, exch_length]; omega))]; omega) <| lx_ld (i := z) (j := 0) (.bool (gt (gt p x) z)) rfl rfl fl4 ((ht_vp.extS hx1).2 x (by first | omega | (simp only [List.length_set, List.length_append, List.length_cons, List.length_nil, List.length_replicate, List.length_take, swp_length, exch_length]; omega))) (by rw [hsq x (by first | omega | (simp only [List.length_set, List.length_append, List.length_cons, List.length_nil, List.length_replicate, List.length_take, swp_length, exch_length]; omega))]; omega) rfl rfl <| lx_not rfl rfl <| lx_pick true (.bool (!(gt (gt p x) z))) rfl rfl rfl <| lx_nil <| wi_condS (t := !(gt (gt p x) z)) rfl (fun c12 => ?_) (fun c12 => ?_)
                        · refine wi_seq <| wi_reg rfl <| lx_assign (.int .i64 90) rfl rfl <| lx_nil <| ?_
                          -- R6
                          refine wi_ret ⟨.int .i64 90, (res_one rfl rfl), ⟨?_, hx1⟩⟩
                          · first
                            | (rw [chkT_size (by omega)]; done)
                            | rw [chkT_bad (bad_ok (x := x) (y := y) (by omega) (by omega) (by first | exact bad_tri (z := z) (by omega) (by first | assumption | exact nbf (by assumption) | exact nbt (by assumption)) (by first | assumption | exact nbf (by assumption) | exact nbt (by assumption)) (by first | assumption | exact nbf (by assumption) | exact nbt (by assumption)) | exact bad_refl (by omega) (by first | assumption | exact nbf (by assumption) | exact nbt (by assumption)) | exact bad_anti (by omega) (by first | assumption | exact nbf (by assumption) | exact nbt (by assumption)) (by first | assumption | exact nbf (by assumption) | exact nbt (by assumption))))]
                            | (have h9 : isT p = false := by
                                 unfold isT; rw [show sqB p = false from by simpa using ‹(!sqB p) = true›]; rfl
                               rw [chkT_bad h9])
                            | (have h9 : isT p = true := isT_iff.2 ⟨hsQ, fun a b ha hb => hA a (by omega) b hb⟩
                               rw [ok_chkT (by omega) (by omega) h9])
                        · refine wi_skip <| wi_inBlock <| wi_reg rfl <| lx_add (((z + 1 : Nat) : Int)) rfl rfl rfl (by omega) (by omega) (by omega) <| lx_move (.int .i64 ((z + 1 : Nat) : Int)) rfl rfl <| lx_nil <| ?_
                          -- L4.2
                          refine IH3 _ _ (z + 1) (agree_ups rfl agree_self) ⟨rfl, trivial⟩ ⟨rfl, ?_, ?_⟩ ?_
                          · try dsimp only
                            omega
                          · try dsimp only
                            intro c hc h1 h2
                            by_cases e : c = z
                            · subst e; first | assumption | exact nbf (by assumption) | exact absurd h1 (ntb (by first | assumption | exact nbt (by assumption))) | exact absurd h2 (ntb (by first | assumption | exact nbt (by assumption)))
                            · exact hC c (by omega) h1 h2
                          · first | omega | (dsimp only; omega)
                    · refine lx_nil <| wi_seq <| wi_false rfl <| wi_exit rfl <| wi_inBlock <| wi_reg rfl <| lx_add (((y + 1 : Nat) : Int)) rfl rfl rfl (by omega) (by omega) (by omega) <| lx_move (.int .i64 ((y + 1 : Nat) : Int)) rfl rfl <| lx_nil <| ?_
                      -- L2.1
                      refine IH2 _ _ (y + 1) (agree_ups rfl (agree_mix (rngB_sub (by decide) (by decide) rfl) (agree_ups rfl agree_self))) ⟨rfl, trivial⟩ ⟨rfl, ?_, ?_⟩ ?_
                      · try dsimp only
                        omega
                      · try dsimp only
                        intro b hb
                        by_cases e : b = y
                        · subst e; exact ⟨fun e => (by first | assumption | exact nbf (by assumption) | (exfalso; omega)), fun h1 h2 => (by first | (exfalso; omega) | assumption | exact nbt (by assumption) | exact absurd h2 (ntb (by assumption))), fun c hc h1 h2 => hC c (by omega) h1 h2⟩
                        · exact hB b (by omega)
                      · first | omega | (dsimp only; omega)
                · refine lx_move (.bool false) rfl rfl <| lx_skip rfl <| lx_skip rfl <| lx_skip rfl <| lx_skip rfl <| lx_skip rfl <| lx_skip rfl <| lx_skip rfl <| lx_pick false (.bool false) rfl rfl rfl <| lx_move (.bool false) rfl rfl <| lx_skip rfl <| lx_skip rfl <| lx_skip rfl <| lx_skip rfl <| lx_skip rfl <| lx_skip rfl <| lx_skip rfl <| lx_pick false (.bool false) rfl rfl rfl <| lx_pick false (.bool false) rfl rfl rfl <| lx_nil <| wi_false rfl <| wi_skip <| wi_seq <| wi_reg rfl <| lx_ldB (vp) rfl rfl fl29 hbk1 rfl rfl <| lx_len rfl Try.underlying29 hr_vp rfl <| lx_move (.int .i64 0) rfl rfl <| lx_nil <| wi_block <| ?_
                  refine wi_loop (σ := Nat) (rngB 67 97 [2, 5]) (fun (z : Nat) => [(67, .int .i64 ((z : Nat) : Int))]) (fun (z : Nat) (hh : Heap) => h1 = hh ∧ (z ≤ p.length) ∧ (∀ c, c < z → pb p x y = true → pb p y c = true → pb p x c = true)) (fun (z : Nat) => p.length - z) 0 ⟨rfl, trivial⟩ ⟨rfl, ?_, ?_⟩ ?_
                  · try dsimp only
                    omega
                  · try dsimp only
                    intro c hc; omega
                  rintro g4 z hh4 ⟨rfl, hz, hC⟩ IH4
                  refine wi_seq <| wi_reg rfl <| lx_lssS rfl rfl rfl (fun c13 => ?_) (fun c13 => ?_)
                  · refine lx_nil <| wi_seq <| wi_true rfl <| wi_skip <| wi_seq <| wi_block <| wi_seq <| wi_reg rfl <| lx_move (.int .i64 ((z : Nat) : Int)) rfl rfl <| lx_assign (.int .i64 ((z : Nat) : Int)) rfl rfl <| lx_nil <| wi_seq <| wi_reg rfl <| lx_ldB (vp) rfl rfl fl29 hbk1 rfl rfl <| lx_move (.int .i64 ((x : Nat) : Int)) rfl rfl <| lx_ix (i := x) rfl eT29 hr_vp rfl rfl (by first | omega | (simp only [List.length_set, List.length_append, List.length_cons, List.length_nil, List.length_replicate, List.length_take, swp_length, exch_length]; omega)) <| lx_ld (i := x) (j := 0) ((gt hs x).v) rfl rfl fl70 (hr_vp.extS hx1) (by first | omega | (simp only [List.length_set, List.length_append, List.length_cons, List.length_nil, List.length_replicate, List.length_take, swp_length, exch_length]; omega)) rfl rfl <| lx_move (.int .i64 ((y : Nat) : Int)) rfl rfl <| lx_ix (i := y) rfl eT70 (ht_vp.2 x (by first | omega | (simp only [List.length_set, List.length_append, List.length_cons, List.length_nil, List.length_replicate, List.length_take, swp_length, exch_length]; omega))) rfl rfl (by rw [hsq x (by first | omega | (simp only [List.length_set, List.length_append, List.length_cons, List.length_nil, List.length_replicate, List.length_take, swp_length, exch_length]; omega))]; omega) <| lx_ld (i := y) (j := 0) (.bool true) rfl rfl fl4 ((ht_vp.extS hx1).2 x (by first | omega | (simp only [List.length_set, List.length_append, List.length_cons, List.length_nil, List.length_replicate, List.length_take, swp_length, exch_length]; omega))) (by rw [hsq x (by first | omega | (simp only [List.length_set, List.length_append, List.length_cons, List.length_nil, List.length_replicate, List.length_take, swp_length, exch_length]; omega))]; omega) (by show some (Value.bool (gt (gt p x) y)) = _; rw [c7]) rfl <| lx_move (.bool true) rfl rfl <| lx_ldB (vp) rfl rfl fl29 hbk1 rfl rfl <| lx_move (.int .i64 ((y : Nat) : Int)) rfl rfl <| lx_ix (i := y) rfl eT29 hr_vp rfl rfl (by first | omega | (simp only [List.length_set, List.length_append, List.length_cons, List.length_nil, List.length_replicate, List.length_take, swp_length, exch_length]; omega)) <| lx_ld (i := y) (j := 0) ((gt hs y).v) rfl rfl fl70 (hr_vp.extS hx1) (by first | omega | (simp only [List.length_set, List.length_append, List.length_cons, List.length_nil, List.length_replicate, List.length_take, swp_length, exch_length]; omega)) rfl rfl <| lx_move (.int .i64 ((z : Nat) : Int)) rfl rfl <| lx_ix (i := z) rfl eT70 (ht_vp.2 y (by first | omega | (simp only [List.length_set, List.length_append, List.length_cons, List.length_nil, List.length_replicate, List.length_take, swp_length, exch_length]; omega))) rfl rfl (by rw [hsq y (by first | omega | (simp only [List.length_set, List.length_append, List.length_cons, List.length_nil, List.length_replicate, List.length_take, swp_length, exch_length]; omega))]; omega) <| lx_ld (i := z) (j := 0) (.bool (gt (gt p y) z)) rfl rfl fl4 ((ht_vp.extS hx1).2 y (by first | omega | (simp only [List.length_set, List.length_append, List.length_cons, List.length_nil, List.length_replicate, List.length_take, swp_length, exch_length]; omega))) (by rw [hsq y (by first | omega | (simp only [List.length_set, List.length_append, List.length_cons, List.length_nil, List.length_replicate, List.length_take, swp_length, exch_length]; omega))]; omega) rfl rfl <| lx_pick true (.bool (gt (gt p y) z)) rfl rfl rfl <| lx_move (.bool (gt (gt p y) z)) rfl rfl <| ?_
                    cases c14 : (gt (gt p y) z)
                    · refine lx_skip rfl <| lx_skip rfl <| lx_skip rfl <| lx_skip rfl <| lx_skip rfl <| lx_skip rfl <| lx_skip rfl <| lx_skip rfl <| lx_pick false (.bool false) rfl rfl rfl <| lx_nil <| wi_false rfl <| wi_skip <| wi_inBlock <| wi_reg rfl <| lx_add (((z + 1 : Nat) : Int)) rfl rfl rfl (by omega) (by omega) (by omega) <| lx_move (.int .i64 ((z + 1 : Nat) : Int)) rfl rfl <| lx_nil <| ?_
                      -- L4.1
                      refine IH4 _ _ (z + 1) (agree_ups rfl agree_self) ⟨rfl, trivial⟩ ⟨rfl, ?_, ?_⟩ ?_
                      · try dsimp only
                        omega
                      · try dsimp only
                        intro c hc h1 h2
                        by_cases e : c = z
                        · subst e; first | assumption | exact nbf (by assumption) | exact absurd h1 (ntb (by first | assumption | exact nbt (by assumption))) | exact absurd h2 (ntb (by first | assumption | exact nbt (by assumption)))
                        · exact hC c (by omega) h1 h2
                      · first | omega | (dsimp only; omega)
                    · refine lx_ldB (vp) rfl rfl fl29 hbk1 rfl rfl <| lx_move (.int .i64 ((x : Nat) : Int)) rfl rfl <| lx_ix (i := x) rfl eT29 hr_vp rfl rfl (by first | omega | (simp only [List.length_set, List.length_append, List.length_cons, List.length_nil, List.length_replicate, List.length_take, swp_length, exch_length]; omega)) <| lx_ld (i := x) (j := 0) ((gt hs x).v) rfl rfl fl70 (hr_vp.extS hx1) (by first | omega | (simp only [List.length_set, List.length_append, List.length_cons, List.length_nil, List.length_replicate, List.length_take, swp_length, exch_length]; omega)) rfl rfl <| lx_move (.int .i64 ((z : Nat) : Int)) rfl rfl <| lx_ix (i := z) rfl eT70 (ht_vp.2 x (by first | omega | (simp only [List.length_set, List.length_append, List.length_cons, List.length_nil, List.length_replicate, List.length_take, swp_length, exch_length]; omega))) rfl rfl (by rw [hsq x (by first | omega | (simp only [List.length_set, List.length_append, List.length_cons, List.length_nil, List.length_replicate, List.length_take, swp_length, exch_length]; omega))]; omega) <| lx_ld (i := z) (j := 0) (.bool (gt (gt p x) z)) rfl rfl fl4 ((ht_vp.extS hx1).2 x (by first | omega | (simp only [List.length_set, List.length_append, List.length_cons, List.length_nil, List.length_replicate, List.length_take, swp_length, exch_length]; omega))) (by rw [hsq x (by first | omega | (simp only [List.length_set, List.length_append, List.length_cons, List.length_nil, List.length_replicate, List.length_take, swp_length, exch_length]; omega))]; omega) rfl rfl <| lx_not rfl rfl <| lx_pick true (.bool (!(gt (gt p x) z))) rfl rfl rfl <| lx_nil <| wi_condS (t := !(gt (gt p x) z)) rfl (fun c15 => ?_) (fun c15 => ?_)
                      · refine wi_seq <| wi_reg rfl <| lx_assign (.int .i64 90) rfl rfl <| lx_nil <| ?_
                        -- R7
                        refine wi_ret ⟨.int .i64 90, (res_one rfl rfl), ⟨?_, hx1⟩⟩
                        · first
                          | (rw [chkT_size (by omega)]; done)
                          | rw [chkT_bad (bad_ok (x := x) (y := y) (by omega) (by omega) (by first | exact bad_tri (z := z) (by omega) (by first | assumption | exact nbf (by assumption) | exact nbt (by assumption)) (by first | assumption | exact nbf (by assumption) | exact nbt (by assumption)) (by first | assumption | exact nbf (by assumption) | exact nbt (by assumption)) | exact bad_refl (by omega) (by first | assumption | exact nbf (by assumption) | exact nbt (by assumption)) | exact bad_anti (by omega) (by first | assumption | exact nbf (by assumption) | exact nbt (by assumption)) (by first | assumption | exact nbf (by assumption) | exact nbt (by assumption))))]
                          | (have h9 : isT p = false := by
                               unfold isT; rw [show sqB p = false from by simpa using ‹(!sqB p) = true›]; rfl
                             rw [chkT_bad h9])
                          | (have h9 : isT p = true := isT_iff.2 ⟨hsQ, fun a b ha hb => hA a (by omega) b hb⟩
                             rw [ok_chkT (by omega) (by omega) h9])
                      · refine wi_skip <| wi_inBlock <| wi_reg rfl <| lx_add (((z + 1 : Nat) : Int)) rfl rfl rfl (by omega) (by omega) (by omega) <| lx_move (.int .i64 ((z + 1 : Nat) : Int)) rfl rfl <| lx_nil <| ?_
                        -- L4.2
                        refine IH4 _ _ (z + 1) (agree_ups rfl agree_self) ⟨rfl, trivial⟩ ⟨rfl, ?_, ?_⟩ ?_
                        · try dsimp only
                          omega
                        · try dsimp only
                          intro c hc h1 h2
                          by_cases e : c = z
                          · subst e; first | assumption | exact nbf (by assumption) | exact absurd h1 (ntb (by first | assumption | exact nbt (by assumption))) | exact absurd h2 (ntb (by first | assumption | exact nbt (by assumption)))
                          · exact hC c (by omega) h1 h2
                        · first | omega | (dsimp only; omega)
                  · refine lx_nil <| wi_seq <| wi_false rfl <| wi_exit rfl <| wi_inBlock <| wi_reg rfl <| lx_add (((y + 1 : Nat) : Int)) rfl rfl rfl (by omega) (by omega) (by omega) <| lx_move (.int .i64 ((y + 1 : Nat) : Int)) rfl rfl <| lx_nil <| ?_
                    -- L2.2
                    refine IH2 _ _ (y + 1) (agree_ups rfl (agree_mix (rngB_sub (by decide) (by decide) rfl) (agree_ups rfl agree_self))) ⟨rfl, trivial⟩ ⟨rfl, ?_, ?_⟩ ?_
                    · try dsimp only
                      omega
                    · try dsimp only
                      intro b hb
                      by_cases e : b = y
                      · subst e; exact ⟨fun e => (by first | assumption | exact nbf (by assumption) | (exfalso; omega)), fun h1 h2 => (by first | (exfalso; omega) | assumption | exact nbt (by assumption) | exact absurd h2 (ntb (by assumption))), fun c hc h1 h2 => hC c (by omega) h1 h2⟩
                      · exact hB b (by omega)
                    · first | omega | (dsimp only; omega)
            · refine lx_move (.bool false) rfl rfl <| lx_skip rfl <| lx_skip rfl <| lx_skip rfl <| lx_skip rfl <| lx_skip rfl <| lx_skip rfl <| lx_skip rfl <| lx_skip rfl <| lx_pick false (.bool false) rfl rfl rfl <| lx_move (.bool false) rfl rfl <| lx_move (.int .i64 ((x : Nat) : Int)) rfl rfl <| lx_move (.int .i64 ((y : Nat) : Int)) rfl rfl <| lx_neqS rfl rfl rfl (fun c16 => ?_) (fun c16 => ?_)
              · refine lx_move (.bool true) rfl rfl <| lx_ldB (vp) rfl rfl fl29 hbk1 rfl rfl <| lx_move (.int .i64 ((x : Nat) : Int)) rfl rfl <| lx_ix (i := x) rfl eT29 hr_vp rfl rfl (by first | omega | (simp only [List.length_set, List.length_append, List.length_cons, List.length_nil, List.length_replicate, List.length_take, swp_length, exch_length]; omega)) <| lx_ld (i := x) (j := 0) ((gt hs x).v) rfl rfl fl70 (hr_vp.extS hx1) (by first | omega | (simp only [List.length_set, List.length_append, List.length_cons, List.length_nil, List.length_replicate, List.length_take, swp_length, exch_length]; omega)) rfl rfl <| lx_move (.int .i64 ((y : Nat) : Int)) rfl rfl <| lx_ix (i := y) rfl eT70 (ht_vp.2 x (by first | omega | (simp only [List.length_set, List.length_append, List.length_cons, List.length_nil, List.length_replicate, List.length_take, swp_length, exch_length]; omega))) rfl rfl (by rw [hsq x (by first | omega | (simp only [List.length_set, List.length_append, List.length_cons, List.length_nil, List.length_replicate, List.length_take, swp_length, exch_length]; omega))]; omega) <| lx_ld (i := y) (j := 0) (.bool (gt (gt p x) y)) rfl rfl fl4 ((ht_vp.extS hx1).2 x (by first | omega | (simp only [List.length_set, List.length_append, List.length_cons, List.length_nil, List.length_replicate, List.length_take, swp_length, exch_length]; omega))) (by rw [hsq x (by first | omega | (simp only [List.length_set, List.length_append, List.length_cons, List.length_nil, List.length_replicate, List.length_take, swp_length, exch_length]; omega))]; omega) rfl rfl <| lx_pick true (.bool (gt (gt p x) y)) rfl rfl rfl <| lx_move (.bool (gt (gt p x) y)) rfl rfl <| ?_
                cases c17 : (gt (gt p x) y)
                · refine lx_skip rfl <| lx_skip rfl <| lx_skip rfl <| lx_skip rfl <| lx_skip rfl <| lx_skip rfl <| lx_skip rfl <| lx_pick false (.bool false) rfl rfl rfl <| lx_pick false (.bool false) rfl rfl rfl <| lx_nil <| wi_false rfl <| wi_skip <| wi_seq <| wi_reg rfl <| lx_ldB (vp) rfl rfl fl29 hbk1 rfl rfl <| lx_len rfl Try.underlying29 hr_vp rfl <| lx_move (.int .i64 0) rfl rfl <| lx_nil <| wi_block <| ?_
                  refine wi_loop (σ := Nat) (rngB 67 97 [2, 5]) (fun (z : Nat) => [(67, .int .i64 ((z : Nat) : Int))]) (fun (z : Nat) (hh : Heap) => h1 = hh ∧ (z ≤ p.length) ∧ (∀ c, c < z → pb p x y = true → pb p y c = true → pb p x c = true)) (fun (z : Nat) => p.length - z) 0 ⟨rfl, trivial⟩ ⟨rfl, ?_, ?_⟩ ?_
                  · try dsimp only
                    omega
                  · try dsimp only
                    intro c hc; omega
                  rintro g5 z hh5 ⟨rfl, hz, hC⟩ IH5
                  refine wi_seq <| wi_reg rfl <| lx_lssS rfl rfl rfl (fun c18 => ?_) (fun c18 => ?_)
                  · refine lx_nil <| wi_seq <| wi_true rfl <| wi_skip <| wi_seq <| wi_block <| wi_seq <| wi_reg rfl <| lx_move (.int .i64 ((z : Nat) : Int)) rfl rfl <| lx_assign (.int .i64 ((z : Nat) : Int)) rfl rfl <| lx_nil <| wi_seq <| wi_reg rfl <| lx_ldB (vp) rfl rfl fl29 hbk1 rfl rfl <| lx_move (.int .i64 ((x : Nat) : Int)) rfl rfl <| lx_ix (i := x) rfl eT29 hr_vp rfl rfl (by first | omega | (simp only [List.length_set, List.length_append, List.length_cons, List.length_nil, List.length_replicate, List.length_take, swp_length, exch_length]; omega)) <| lx_ld (i := x) (j := 0) ((gt hs x).v) rfl rfl fl70 (hr_vp.extS hx1) (by first | omega | (simp only [List.length_set, List.length_append, List.length_cons, List.length_nil, List.length_replicate, List.length_take, swp_length, exch_length]; omega)) rfl rfl <| lx_move (.int .i64 ((y : Nat) : Int)) rfl rfl <| lx_ix (i := y) rfl eT70 (ht_vp.2 x (by first | omega | (simp only [List.length_set, List.length_append, List.length_cons, List.length_nil, List.length_replicate, List.length_take, swp_length, exch_length]; omega))) rfl rfl (by rw [hsq x (by first | omega | (simp only [List.length_set, List.length_append, List.length_cons, List.length_nil, List.length_replicate, List.length_take, swp_length, exch_length]; omega))]; omega) <| lx_ld (i := y) (j := 0) (.bool false) rfl rfl fl4 ((ht_vp.extS hx1).2 x (by first | omega | (simp only [List.length_set, List.length_append, List.length_cons, List.length_nil, List.length_replicate, List.length_take, swp_length, exch_length]; omega))) (by rw [hsq x (by first | omega | (simp only [List.length_set, List.length_append, List.length_cons, List.length_nil, List.length_replicate, List.length_take, swp_length, exch_length]; omega))]; omega) (by show some (Value.bool (gt (gt p x) y)) = _; rw [c17]) rfl <| lx_move (.bool false) rfl rfl <| lx_skip rfl <| lx_skip rfl <| lx_skip rfl <| lx_skip rfl <| lx_skip rfl <| lx_skip rfl <| lx_skip rfl <| lx_pick false (.bool false) rfl rfl rfl <| lx_move (.bool false) rfl rfl <| lx_skip rfl <| lx_skip rfl <| lx_skip rfl <| lx_skip rfl <| lx_skip rfl <| lx_skip rfl <| lx_skip rfl <| lx_skip rfl <| lx_pick false (.bool false) rfl rfl rfl <| lx_nil <| wi_false rfl <| wi_skip <| wi_inBlock <| wi_reg rfl <| lx_add (((z + 1 : Nat) : Int)) rfl rfl rfl (by omega) (by omega) (by omega) <| lx_move (.int .i64 ((z + 1 : Nat) : Int)) rfl rfl <| lx_nil <| ?_
                    -- L4.1
                    refine IH5 _ _ (z + 1) (agree_ups rfl agree_self) ⟨rfl, trivial⟩ ⟨rfl, ?_, ?_⟩ ?_
                    · try dsimp only
                      omega
                    · try dsimp only
                      intro c hc h1 h2
                      by_cases e : c = z
                      · subst e; first | assumption | exact nbf (by assumption) | exact absurd h1 (ntb (by first | assumption | exact nbt (by assumption))) | exact absurd h2 (ntb (by first | assumption | exact nbt (by assumption)))
                      · exact hC c (by omega) h1 h2
                    · first | omega | (dsimp only; omega)
                  · refine lx_nil <| wi_seq <| wi_false rfl <| wi_exit rfl <| wi_inBlock <| wi_reg rfl <| lx_add (((y + 1 : Nat) : Int)) rfl rfl rfl (by omega) (by omega) (by omega) <| lx_move (.int .i64 ((y + 1 : Nat) : Int)) rfl rfl <| lx_nil <| ?_
                    -- L2.3
                    refine IH2 _ _ (y + 1) (agree_ups rfl (agree_mix (rngB_sub (by decide) (by decide) rfl) (agree_ups rfl agree_self))) ⟨rfl, trivial⟩ ⟨rfl, ?_, ?_⟩ ?_
                    · try dsimp only
                      omega
                    · try dsimp only
                      intro b hb
                      by_cases e : b = y
                      · subst e; exact ⟨fun e => (by first | assumption | exact nbf (by assumption) | (exfalso; omega)), fun h1 h2 => (by first | (exfalso; omega) | assumption | exact nbt (by assumption) | exact absurd h2 (ntb (by assumption))), fun c hc h1 h2 => hC c (by omega) h1 h2⟩
                      · exact hB b (by omega)
                    · first | omega | (dsimp only; omega)
                · refine lx_ldB (vp) rfl rfl fl29 hbk1 rfl rfl <| lx_move (.int .i64 ((y : Nat) : Int)) rfl rfl <| lx_ix (i := y) rfl eT29 hr_vp rfl rfl (by first | omega | (simp only [List.length_set, List.length_append, List.length_cons, List.length_nil, List.length_replicate, List.length_take, swp_length, exch_length]; omega)) <| lx_ld (i := y) (j := 0) ((gt hs y).v) rfl rfl fl70 (hr_vp.extS hx1) (by first | omega | (simp only [List.length_set, List.length_append, List.length_cons, List.length_nil, List.length_replicate, List.length_take, swp_length, exch_length]; omega)) rfl rfl <| lx_move (.int .i64 ((x : Nat) : Int)) rfl rfl <| lx_ix (i := x) rfl eT70 (ht_vp.2 y (by first | omega | (simp only [List.length_set, List.length_append, List.length_cons, List.length_nil, List.length_replicate, List.length_take, swp_length, exch_length]; omega))) rfl rfl (by rw [hsq y (by first | omega | (simp only [List.length_set, List.length_append, List.length_cons, List.length_nil, List.length_replicate, List.length_take, swp_length, exch_length]; omega))]; omega) <| lx_ld (i := x) (j := 0) (.bool (gt (gt p y) x)) rfl rfl fl4 ((ht_vp.extS hx1).2 y (by first | omega | (simp only [List.length_set, List.length_append, List.length_cons, List.length_nil, List.length_replicate, List.length_take, swp_length, exch_length]; omega))) (by rw [hsq y (by first | omega | (simp only [List.length_set, List.length_append, List.length_cons, List.length_nil, List.length_replicate, List.length_take, swp_length, exch_length]; omega))]; omega) rfl rfl <| lx_pick true (.bool (gt (gt p y) x)) rfl rfl rfl <| lx_pick false (.bool (gt (gt p y) x)) rfl rfl rfl <| lx_nil <| wi_condS (t := gt (gt p y) x) rfl (fun c19 => ?_) (fun c19 => ?_)
                  · refine wi_seq <| wi_reg rfl <| lx_assign (.int .i64 90) rfl rfl <| lx_nil <| ?_
                    -- R8
                    refine wi_ret ⟨.int .i64 90, (res_one rfl rfl), ⟨?_, hx1⟩⟩
                    · first
                      | (rw [chkT_size (by omega)]; done)
                      | rw [chkT_bad (bad_ok (x := x) (y := y) (by omega) (by omega) (by first | exact bad_tri (z := z) (by omega) (by first | assumption | exact nbf (by assumption) | exact nbt (by assumption)) (by first | assumption | exact nbf (by assumption) | exact nbt (by assumption)) (by first | assumption | exact nbf (by assumption) | exact nbt (by assumption)) | exact bad_refl (by omega) (by first | assumption | exact nbf (by assumption) | exact nbt (by assumption)) | exact bad_anti (by omega) (by first | assumption | exact nbf (by assumption) | exact nbt (by assumption)) (by first | assumption | exact nbf (by assumption) | exact nbt (by assumption))))]
                      | (have h9 : isT p = false := by
                           unfold isT; rw [show sqB p = false from by simpa using ‹(!sqB p) = true›]; rfl
                         rw [chkT_bad h9])
                      | (have h9 : isT p = true := isT_iff.2 ⟨hsQ, fun a b ha hb => hA a (by omega) b hb⟩
                         rw [ok_chkT (by omega) (by omega) h9])
                  · refine wi_skip <| wi_seq <| wi_reg rfl <| lx_ldB (vp) rfl rfl fl29 hbk1 rfl rfl <| lx_len rfl Try.underlying29 hr_vp rfl <| lx_move (.int .i64 0) rfl rfl <| lx_nil <| wi_block <| ?_
                    refine wi_loop (σ := Nat) (rngB 67 97 [2, 5]) (fun (z : Nat) => [(67, .int .i64 ((z : Nat) : Int))]) (fun (z : Nat) (hh : Heap) => h1 = hh ∧ (z ≤ p.length) ∧ (∀ c, c < z → pb p x y = true → pb p y c = true → pb p x c = true)) (fun (z : Nat) => p.length - z) 0 ⟨rfl, trivial⟩ ⟨rfl, ?_, ?_⟩ ?_
                    · try dsimp only
                      omega
                    · try dsimp only
                      intro c hc; omega
                    rintro g6 z hh6 ⟨rfl, hz, hC⟩ IH6
                    refine wi_seq <| wi_reg rfl <| lx_lssS rfl rfl rfl (fun c20 => ?_) (fun c20 => ?_)
                    · refine lx_nil <| wi_seq <| wi_true rfl <| wi_skip <| wi_seq <| wi_block <| wi_seq <| wi_reg rfl <| lx_move (.int .i64 ((z : Nat) : Int)) rfl rfl <| lx_assign (.int .i64 ((z : Nat) : Int)) rfl rfl <| lx_nil <| wi_seq <| wi_reg rfl <| lx_ldB (vp) rfl rfl fl29 hbk1 rfl rfl <| lx_move (.int .i64 ((x : Nat) : Int)) rfl rfl <| lx_ix (i := x) rfl eT29 hr_vp rfl rfl (by first | omega | (simp only [List.length_set, List.length_append, List.length_cons, List.length_nil, List.length_replicate, List.length_take, swp_length, exch_length]; omega)) <| lx_ld (i := x) (j := 0) ((gt hs x).v) rfl rfl fl70 (hr_vp.extS hx1) (by first | omega | (simp only [List.length_set, List.length_append, List.length_cons, List.length_nil, List.length_replicate, List.length_take, swp_length, exch_length]; omega)) rfl rfl <| lx_move (.int .i64 ((y : Nat) : Int)) rfl rfl <| lx_ix (i := y) rfl eT70 (ht_vp.2 x (by first | omega | (simp only [List.length_set, List.length_append, List.length_cons, List.length_nil, List.length_replicate, List.length_take, swp_length, exch_length]; omega))) rfl rfl (by rw [hsq x (by first | omega | (simp only [List.length_set, List.length_append, List.length_cons, List.length_nil, List.length_replicate, List.length_take, swp_length, exch_length]; omega))]; omega) <| lx_ld (i := y) (j := 0) (.bool true) rfl rfl fl4 ((ht_vp.extS hx1).2 x (by first | omega | (simp only [List.length_set, List.length_append, List.length_cons, List.length_nil, List.length_replicate, List.length_take, swp_length, exch_length]; omega))) (by rw [hsq x (by first | omega | (simp only [List.length_set, List.length_append, List.length_cons, List.length_nil, List.length_replicate, List.length_take, swp_length, exch_length]; omega))]; omega) (by show some (Value.bool (gt (gt p x) y)) = _; rw [c17]) rfl <| lx_move (.bool true) rfl rfl <| lx_ldB (vp) rfl rfl fl29 hbk1 rfl rfl <| lx_move (.int .i64 ((y : Nat) : Int)) rfl rfl <| lx_ix (i := y) rfl eT29 hr_vp rfl rfl (by first | omega | (simp only [List.length_set, List.length_append, List.length_cons, List.length_nil, List.length_replicate, List.length_take, swp_length, exch_length]; omega)) <| lx_ld (i := y) (j := 0) ((gt hs y).v) rfl rfl fl70 (hr_vp.extS hx1) (by first | omega | (simp only [List.length_set, List.length_append, List.length_cons, List.length_nil, List.length_replicate, List.length_take, swp_length, exch_length]; omega)) rfl rfl <| lx_move (.int .i64 ((z : Nat) : Int)) rfl rfl <| lx_ix (i := z) rfl eT70 (ht_vp.2 y (by first | omega | (simp only [List.length_set, List.length_append, List.length_cons, List.length_nil, List.length_replicate, List.length_take, swp_length, exch_length]; omega))) rfl rfl (by rw [hsq y (by first | omega | (simp only [List.length_set, List.length_append, List.length_cons, List.length_nil, List.length_replicate, List.length_take, swp_length, exch_length]; omega))]; omega) <| lx_ld (i := z) (j := 0) (.bool (gt (gt p y) z)) rfl rfl fl4 ((ht_vp.extS hx1).2 y (by first | omega | (simp only [List.length_set, List.length_append, List.length_cons, List.length_nil, List.length_replicate, List.length_take, swp_length, exch_length]; omega))) (by rw [hsq y (by first | omega | (simp only [List.length_set, List.length_append, List.length_cons, List.length_nil, List.length_replicate, List.length_take, swp_length, exch_length]; omega))]; omega) rfl rfl <| lx_pick true (.bool (gt (gt p y) z)) rfl rfl rfl <| lx_move (.bool (gt (gt p y) z)) rfl rfl <| ?_
                      cases c21 : (gt (gt p y) z)
                      · refine lx_skip rfl <| lx_skip rfl <| lx_skip rfl <| lx_skip rfl <| lx_skip rfl <| lx_skip rfl <| lx_skip rfl <| lx_skip rfl <| lx_pick false (.bool false) rfl rfl rfl <| lx_nil <| wi_false rfl <| wi_skip <| wi_inBlock <| wi_reg rfl <| lx_add (((z + 1 : Nat) : Int)) rfl rfl rfl (by omega) (by omega) (by omega) <| lx_move (.int .i64 ((z + 1 : Nat) : Int)) rfl rfl <| lx_nil <| ?_
                        -- L4.1
                        refine IH6 _ _ (z + 1) (agree_ups rfl agree_self) ⟨rfl, trivial⟩ ⟨rfl, ?_, ?_⟩ ?_
                        · try dsimp only
                          omega
                        · try dsimp only
                          intro c hc h1 h2
                          by_cases e : c = z
                          · subst e; first | assumption | exact nbf (by assumption) | exact absurd h1 (ntb (by first | assumption | exact nbt (by assumption))) | exact absurd h2 (ntb (by first | assumption | exact nbt (by assumption)))
                          · exact hC c (by omega) h1 h2
                        · first | omega | (dsimp only; omega)
                      · refine lx_ldB (vp) rfl rfl fl29 hbk1 rfl rfl <| lx_move (.int .i64 ((x : Nat) : Int)) rfl rfl <| lx_ix (i := x) rfl eT29 hr_vp rfl rfl (by first | omega | (simp only [List.length_set, List.length_append, List.length_cons, List.length_nil, List.length_replicate, List.length_take, swp_length, exch_length]; omega)) <| lx_ld (i := x) (j := 0) ((gt hs x).v) rfl rfl fl70 (hr_vp.extS hx1) (by first | omega | (simp only [List.length_set, List.length_append, List.length_cons, List.length_nil, List.length_replicate, List.length_take, swp_length, exch_length]; omega)) rfl rfl <| lx_move (.int .i64 ((z : Nat) : Int)) rfl rfl <| lx_ix (i := z) rfl eT70 (ht_vp.2 x (by first | omega | (simp only [List.length_set, List.length_append, List.length_cons, List.length_nil, List.length_replicate, List.length_take, swp_length, exch_length]; omega))) rfl rfl (by rw [hsq x (by first | omega | (simp only [List.length_set, List.length_append, List.length_cons, List.length_nil, List.length_replicate, List.length_take, swp_length, exch_length]; omega))]; omega) <| lx_ld (i := z) (j := 0) (.bool (gt (gt p x) z)) rfl rfl fl4 ((ht_vp.extS hx1).2 x (by first | omega | (simp only [List.length_set, List.length_append, List.length_cons, List.length_nil, List.length_replicate, List.length_take, swp_length, exch_length]; omega))) (by rw [hsq x (by first | omega | (simp only [List.length_set, List.length_append, List.length_cons, List.length_nil, List.length_replicate, List.length_take, swp_length, exch_length]; omega))]; omega) rfl rfl <| lx_not rfl rfl <| lx_pick true (.bool (!(gt (gt p x) z))) rfl rfl rfl <| lx_nil <| wi_condS (t := !(gt (gt p x) z)) rfl (fun c22 => ?_) (fun c22 => ?_)
                        · refine wi_seq <| wi_reg rfl <| lx_assign (.int .i64 90) rfl rfl <| lx_nil <| ?_
                          -- R9
                          refine wi_ret ⟨.int .i64 90, (res_one rfl rfl), ⟨?_, hx1⟩⟩
                          · first
                            | (rw [chkT_size (by omega)]; done)
                            | rw [chkT_bad (bad_ok (x := x) (y := y) (by omega) (by omega) (by first | exact bad_tri (z := z) (by omega) (by first | assumption | exact nbf (by assumption) | exact nbt (by assumption)) (by first | assumption | exact nbf (by assumption) | exact nbt (by assumption)) (by first | assumption | exact nbf (by assumption) | exact nbt (by assumption)) | exact bad_refl (by omega) (by first | assumption | exact nbf (by assumption) | exact nbt (by assumption)) | exact bad_anti (by omega) (by first | assumption | exact nbf (by assumption) | exact nbt (by assumption)) (by first | assumption | exact nbf (by assumption) | exact nbt (by assumption))))]
                            | (have h9 : isT p = false := by
                                 unfold isT; rw [show sqB p = false from by simpa using ‹(!sqB p) = true›]; rfl
                               rw [chkT_bad h9])
                            | (have h9 : isT p = true := isT_iff.2 ⟨hsQ, fun a b ha hb => hA a (by omega) b hb⟩
                               rw [ok_chkT (by omega) (by omega) h9])
                        · refine wi_skip <| wi_inBlock <| wi_reg rfl <| lx_add (((z + 1 : Nat) : Int)) rfl rfl rfl (by omega) (by omega) (by omega) <| lx_move (.int .i64 ((z + 1 : Nat) : Int)) rfl rfl <| lx_nil <| ?_
                          -- L4.2
                          refine IH6 _ _ (z + 1) (agree_ups rfl agree_self) ⟨rfl, trivial⟩ ⟨rfl, ?_, ?_⟩ ?_
                          · try dsimp only
                            omega
                          · try dsimp only
                            intro c hc h1 h2
                            by_cases e : c = z
                            · subst e; first | assumption | exact nbf (by assumption) | exact absurd h1 (ntb (by first | assumption | exact nbt (by assumption))) | exact absurd h2 (ntb (by first | assumption | exact nbt (by assumption)))
                            · exact hC c (by omega) h1 h2
                          · first | omega | (dsimp only; omega)
                    · refine lx_nil <| wi_seq <| wi_false rfl <| wi_exit rfl <| wi_inBlock <| wi_reg rfl <| lx_add (((y + 1 : Nat) : Int)) rfl rfl rfl (by omega) (by omega) (by omega) <| lx_move (.int .i64 ((y + 1 : Nat) : Int)) rfl rfl <| lx_nil <| ?_
                      -- L2.4
                      refine IH2 _ _ (y + 1) (agree_ups rfl (agree_mix (rngB_sub (by decide) (by decide) rfl) (agree_ups rfl agree_self))) ⟨rfl, trivial⟩ ⟨rfl, ?_, ?_⟩ ?_
                      · try dsimp only
                        omega
                      · try dsimp only
                        intro b hb
                        by_cases e : b = y
                        · subst e; exact ⟨fun e => (by first | assumption | exact nbf (by assumption) | (exfalso; omega)), fun h1 h2 => (by first | (exfalso; omega) | assumption | exact nbt (by assumption) | exact absurd h2 (ntb (by assumption))), fun c hc h1 h2 => hC c (by omega) h1 h2⟩
                        · exact hB b (by omega)
                      · first | omega | (dsimp only; omega)
              · refine lx_move (.bool false) rfl rfl <| lx_skip rfl <| lx_skip rfl <| lx_skip rfl <| lx_skip rfl <| lx_skip rfl <| lx_skip rfl <| lx_skip rfl <| lx_pick false (.bool false) rfl rfl rfl <| lx_move (.bool false) rfl rfl <| lx_skip rfl <| lx_skip rfl <| lx_skip rfl <| lx_skip rfl <| lx_skip rfl <| lx_skip rfl <| lx_skip rfl <| lx_pick false (.bool false) rfl rfl rfl <| lx_pick false (.bool false) rfl rfl rfl <| lx_nil <| wi_false rfl <| wi_skip <| wi_seq <| wi_reg rfl <| lx_ldB (vp) rfl rfl fl29 hbk1 rfl rfl <| lx_len rfl Try.underlying29 hr_vp rfl <| lx_move (.int .i64 0) rfl rfl <| lx_nil <| wi_block <| ?_
                refine wi_loop (σ := Nat) (rngB 67 97 [2, 5]) (fun (z : Nat) => [(67, .int .i64 ((z : Nat) : Int))]) (fun (z : Nat) (hh : Heap) => h1 = hh ∧ (z ≤ p.length) ∧ (∀ c, c < z → pb p x y = true → pb p y c = true → pb p x c = true)) (fun (z : Nat) => p.length - z) 0 ⟨rfl, trivial⟩ ⟨rfl, ?_, ?_⟩ ?_
                · try dsimp only
                  omega
                · try dsimp only
                  intro c hc; omega
                rintro g7 z hh7 ⟨rfl, hz, hC⟩ IH7
                refine wi_seq <| wi_reg rfl <| lx_lssS rfl rfl rfl (fun c23 => ?_) (fun c23 => ?_)
                · refine lx_nil <| wi_seq <| wi_true rfl <| wi_skip <| wi_seq <| wi_block <| wi_seq <| wi_reg rfl <| lx_move (.int .i64 ((z : Nat) : Int)) rfl rfl <| lx_assign (.int .i64 ((z : Nat) : Int)) rfl rfl <| lx_nil <| wi_seq <| wi_reg rfl <| lx_ldB (vp) rfl rfl fl29 hbk1 rfl rfl <| lx_move (.int .i64 ((x : Nat) : Int)) rfl rfl <| lx_ix (i := x) rfl eT29 hr_vp rfl rfl (by first | omega | (simp only [List.length_set, List.length_append, List.length_cons, List.length_nil, List.length_replicate, List.length_take, swp_length, exch_length]; omega)) <| lx_ld (i := x) (j := 0) ((gt hs x).v) rfl rfl fl70 (hr_vp.extS hx1) (by first | omega | (simp only [List.length_set, List.length_append, List.length_cons, List.length_nil, List.length_replicate, List.length_take, swp_length, exch_length]; omega)) rfl rfl <| lx_move (.int .i64 ((y : Nat) : Int)) rfl rfl <| lx_ix (i := y) rfl eT70 (ht_vp.2 x (by first | omega | (simp only [List.length_set, List.length_append, List.length_cons, List.length_nil, List.length_replicate, List.length_take, swp_length, exch_length]; omega))) rfl rfl (by rw [hsq x (by first | omega | (simp only [List.length_set, List.length_append, List.length_cons, List.length_nil, List.length_replicate, List.length_take, swp_length, exch_length]; omega))]; omega) <| lx_ld (i := y) (j := 0) (.bool (gt (gt p x) y)) rfl rfl fl4 ((ht_vp.extS hx1).2 x (by first | omega | (simp only [List.length_set, List.length_append, List.length_cons, List.length_nil, List.length_replicate, List.length_take, swp_length, exch_length]; omega))) (by rw [hsq x (by first | omega | (simp only [List.length_set, List.length_append, List.length_cons, List.length_nil, List.length_replicate, List.length_take, swp_length, exch_length]; omega))]; omega) rfl rfl <| lx_move (.bool (gt (gt p x) y)) rfl rfl <| ?_
                  cases c24 : (gt (gt p x) y)
                  · refine lx_skip rfl <| lx_skip rfl <| lx_skip rfl <| lx_skip rfl <| lx_skip rfl <| lx_skip rfl <| lx_skip rfl <| lx_pick false (.bool false) rfl rfl rfl <| lx_move (.bool false) rfl rfl <| lx_skip rfl <| lx_skip rfl <| lx_skip rfl <| lx_skip rfl <| lx_skip rfl <| lx_skip rfl <| lx_skip rfl <| lx_skip rfl <| lx_pick false (.bool false) rfl rfl rfl <| lx_nil <| wi_false rfl <| wi_skip <| wi_inBlock <| wi_reg rfl <| lx_add (((z + 1 : Nat) : Int)) rfl rfl rfl (by omega) (by omega) (by omega) <| lx_move (.int .i64 ((z + 1 : Nat) : Int)) rfl rfl <| lx_nil <| ?_
                    -- L4.1
                    refine IH7 _ _ (z + 1) (agree_ups rfl agree_self) ⟨rfl, trivial⟩ ⟨rfl, ?_, ?_⟩ ?_
                    · try dsimp only
                      omega
                    · try dsimp only
                      intro c hc h1 h2
                      by_cases e : c = z
                      · subst e; first | assumption | exact nbf (by assumption) | exact absurd h1 (ntb (by first | assumption | exact nbt (by assumption))) | exact absurd h2 (ntb (by first | assumption | exact nbt (by assumption)))
                      · exact hC c (by omega) h1 h2
                    · first | omega | (dsimp only; omega)
                  · refine lx_ldB (vp) rfl rfl fl29 hbk1 rfl rfl <| lx_move (.int .i64 ((y : Nat) : Int)) rfl rfl <| lx_ix (i := y) rfl eT29 hr_vp rfl rfl (by first | omega | (simp only [List.length_set, List.length_append, List.length_cons, List.length_nil, List.length_replicate, List.length_take, swp_length, exch_length]; omega)) <| lx_ld (i := y) (j := 0) ((gt hs y).v) rfl rfl fl70 (hr_vp.extS hx1) (by first | omega | (simp only [List.length_set, List.length_append, List.length_cons, List.length_nil, List.length_replicate, List.length_take, swp_length, exch_length]; omega)) rfl rfl <| lx_move (.int .i64 ((z : Nat) : Int)) rfl rfl <| lx_ix (i := z) rfl eT70 (ht_vp.2 y (by first | omega | (simp only [List.length_set, List.length_append, List.length_cons, List.length_nil, List.length_replicate, List.length_take, swp_length, exch_length]; omega))) rfl rfl (by rw [hsq y (by first | omega | (simp only [List.length_set, List.length_append, List.length_cons, List.length_nil, List.length_replicate, List.length_take, swp_length, exch_length]; omega))]; omega) <| lx_ld (i := z) (j := 0) (.bool (gt (gt p y) z)) rfl rfl fl4 ((ht_vp.extS hx1).2 y (by first | omega | (simp only [List.length_set, List.length_append, List.length_cons, List.length_nil, List.length_replicate, List.length_take, swp_length, exch_length]; omega))) (by rw [hsq y (by first | omega | (simp only [List.length_set, List.length_append, List.length_cons, List.length_nil, List.length_replicate, List.length_take, swp_length, exch_length]; omega))]; omega) rfl rfl <| lx_pick true (.bool (gt (gt p y) z)) rfl rfl rfl <| lx_move (.bool (gt (gt p y) z)) rfl rfl <| ?_
                    cases c25 : (gt (gt p y) z)
                    · refine lx_skip rfl <| lx_skip rfl <| lx_skip rfl <| lx_skip rfl <| lx_skip rfl <| lx_skip rfl <| lx_skip rfl <| lx_skip rfl <| lx_pick false (.bool false) rfl rfl rfl <| lx_nil <| wi_false rfl <| wi_skip <| wi_inBlock <| wi_reg rfl <| lx_add (((z + 1 : Nat) : Int)) rfl rfl rfl (by omega) (by omega) (by omega) <| lx_move (.int .i64 ((z + 1 : Nat) : Int)) rfl rfl <| lx_nil <| ?_
                      -- L4.2
                      refine IH7 _ _ (z + 1) (agree_ups rfl agree_self) ⟨rfl, trivial⟩ ⟨rfl, ?_, ?_⟩ ?_
                      · try dsimp only
                        omega
                      · try dsimp only
                        intro c hc h1 h2
                        by_cases e : c = z
                        · subst e; first | assumption | exact nbf (by assumption) | exact absurd h1 (ntb (by first | assumption | exact nbt (by assumption))) | exact absurd h2 (ntb (by first | assumption | exact nbt (by assumption)))
                        · exact hC c (by omega) h1 h2
                      · first | omega | (dsimp only; omega)
                    · refine lx_ldB (vp) rfl rfl fl29 hbk1 rfl rfl <| lx_move (.int .i64 ((x : Nat) : Int)) rfl rfl <| lx_ix (i := x) rfl eT29 hr_vp rfl rfl (by first | omega | (simp only [List.length_set, List.length_append, List.length_cons, List.length_nil, List.length_replicate, List.length_take, swp_length, exch_length]; omega)) <| lx_ld (i := x) (j := 0) ((gt hs x).v) rfl rfl fl70 (hr_vp.extS hx1) (by first | omega | (simp only [List.length_set, List.length_append, List.length_cons, List.length_nil, List.length_replicate, List.length_take, swp_length, exch_length]; omega)) rfl rfl <| lx_move (.int .i64 ((z : Nat) : Int)) rfl rfl <| lx_ix (i := z) rfl eT70 (ht_vp.2 x (by first | omega | (simp only [List.length_set, List.length_append, List.length_cons, List.length_nil, List.length_replicate, List.length_take, swp_length, exch_length]; omega))) rfl rfl (by rw [hsq x (by first | omega | (simp only [List.length_set, List.length_append, List.length_cons, List.length_nil, List.length_replicate, List.length_take, swp_length, exch_length]; omega))]; omega) <| lx_ld (i := z) (j := 0) (.bool (gt (gt p x) z)) rfl rfl fl4 ((ht_vp.extS hx1).2 x (by first | omega | (simp only [List.length_set, List.length_append, List.length_cons, List.length_nil, List.length_replicate, List.length_take, swp_length, exch_length]; omega))) (by rw [hsq x (by first | omega | (simp only [List.length_set, List.length_append, List.length_cons, List.length_nil, List.length_replicate, List.length_take, swp_length, exch_length]; omega))]; omega) rfl rfl <| lx_not rfl rfl <| lx_pick true (.bool (!(gt (gt p x) z))) rfl rfl rfl <| lx_nil <| wi_condS (t := !(gt (gt p x) z)) rfl (fun c26 => ?_) (fun c26 => ?_)
                      · refine wi_seq <| wi_reg rfl <| lx_assign (.int .i64 90) rfl rfl <| lx_nil <| ?_
                        -- R10
                        refine wi_ret ⟨.int .i64 90, (res_one rfl rfl), ⟨?_, hx1⟩⟩
                        · first
                          | (rw [chkT_size (by omega)]; done)
                          | rw [chkT_bad (bad_ok (x := x) (y := y) (by omega) (by omega) (by first | exact bad_tri (z := z) (by omega) (by first | assumption | exact nbf (by assumption) | exact nbt (by assumption)) (by first | assumption | exact nbf (by assumption) | exact nbt (by assumption)) (by first | assumption | exact nbf (by assumption) | exact nbt (by assumption)) | exact bad_refl (by omega) (by first | assumption | exact nbf (by assumption) | exact nbt (by assumption)) | exact bad_anti (by omega) (by first | assumption | exact nbf (by assumption) | exact nbt (by assumption)) (by first | assumption | exact nbf (by assumption) | exact nbt (by assumption))))]
                          | (have h9 : isT p = false := by
                               unfold isT; rw [show sqB p = false from by simpa using ‹(!sqB p) = true›]; rfl
                             rw [chkT_bad h9])
                          | (have h9 : isT p = true := isT_iff.2 ⟨hsQ, fun a b ha hb => hA a (by omega) b hb⟩
                             rw [ok_chkT (by omega) (by omega) h9])
                      · refine wi_skip <| wi_inBlock <| wi_reg rfl <| lx_add (((z + 1 : Nat) : Int)) rfl rfl rfl (by omega) (by omega) (by omega) <| lx_move (.int .i64 ((z + 1 : Nat) : Int)) rfl rfl <| lx_nil <| ?_
                        -- L4.3
                        refine IH7 _ _ (z + 1) (agree_ups rfl agree_self) ⟨rfl, trivial⟩ ⟨rfl, ?_, ?_⟩ ?_
                        · try dsimp only
                          omega
                        · try dsimp only
                          intro c hc h1 h2
                          by_cases e : c = z
                          · subst e; first | assumption | exact nbf (by assumption) | exact absurd h1 (ntb (by first | assumption | exact nbt (by assumption))) | exact absurd h2 (ntb (by first | assumption | exact nbt (by assumption)))
                          · exact hC c (by omega) h1 h2
                        · first | omega | (dsimp only; omega)
                · refine lx_nil <| wi_seq <| wi_false rfl <| wi_exit rfl <| wi_inBlock <| wi_reg rfl <| lx_add (((y + 1 : Nat) : Int)) rfl rfl rfl (by omega) (by omega) (by omega) <| lx_move (.int .i64 ((y + 1 : Nat) : Int)) rfl rfl <| lx_nil <| ?_
                  -- L2.5
                  refine IH2 _ _ (y + 1) (agree_ups rfl (agree_mix (rngB_sub (by decide) (by decide) rfl) (agree_ups rfl agree_self))) ⟨rfl, trivial⟩ ⟨rfl, ?_, ?_⟩ ?_
                  · try dsimp only
                    omega
                  · try dsimp only
                    intro b hb
                    by_cases e : b = y
                    · subst e; exact ⟨fun e => (by first | assumption | exact nbf (by assumption) | (exfalso; omega)), fun h1 h2 => (by first | (exfalso; omega) | assumption | exact nbt (by assumption) | exact absurd h2 (ntb (by assumption))), fun c hc h1 h2 => hC c (by omega) h1 h2⟩
                    · exact hB b (by omega)
                  · first | omega | (dsimp only; omega)
          · refine lx_nil <| wi_seq <| wi_false rfl <| wi_exit rfl <| wi_inBlock <| wi_reg rfl <| lx_add (((x + 1 : Nat) : Int)) rfl rfl rfl (by omega) (by omega) (by omega) <| lx_move (.int .i64 ((x + 1 : Nat) : Int)) rfl rfl <| lx_nil <| ?_
            -- L0.1
            refine IH1 _ _ (x + 1) (agree_ups rfl (agree_mix (rngB_sub (by decide) (by decide) rfl) (agree_ups rfl agree_self))) ⟨rfl, trivial⟩ ⟨rfl, ?_, ?_⟩ ?_
            · try dsimp only
              omega
            · try dsimp only
              intro a ha b hb
              by_cases e : a = x
              · subst e; exact hB b (by omega)
              · exact hA a (by omega) b hb
            · first | omega | (dsimp only; omega)
        · refine lx_nil <| wi_seq <| wi_false rfl <| wi_exit rfl <| wi_seq <| wi_reg rfl <| lx_assign (.int .i64 0) rfl rfl <| lx_nil <| ?_
          -- R11
          refine wi_ret ⟨.int .i64 0, (res_one rfl rfl), ⟨?_, hx1⟩⟩
          · first
            | (rw [chkT_size (by omega)]; done)
            | rw [chkT_bad (bad_ok (x := x) (y := y) (by omega) (by omega) (by first | exact bad_tri (z := z) (by omega) (by first | assumption | exact nbf (by assumption) | exact nbt (by assumption)) (by first | assumption | exact nbf (by assumption) | exact nbt (by assumption)) (by first | assumption | exact nbf (by assumption) | exact nbt (by assumption)) | exact bad_refl (by omega) (by first | assumption | exact nbf (by assumption) | exact nbt (by assumption)) | exact bad_anti (by omega) (by first | assumption | exact nbf (by assumption) | exact nbt (by assumption)) (by first | assumption | exact nbf (by assumption) | exact nbt (by assumption))))]
            | (have h9 : isT p = false := by
                 unfold isT; rw [show sqB p = false from by simpa using ‹(!sqB p) = true›]; rfl
               rw [chkT_bad h9])
            | (have h9 : isT p = true := isT_iff.2 ⟨hsQ, fun a b ha hb => hA a (by omega) b hb⟩
               rw [ok_chkT (by omega) (by omega) h9])

end Go.Proofs.Ytdokijbdnajhgaa
