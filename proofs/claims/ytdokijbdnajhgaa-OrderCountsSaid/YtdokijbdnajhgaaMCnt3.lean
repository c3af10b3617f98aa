/-
  Texts in one: OA, OB, XNet, XLoose, XRunV, XGaps, XGale, XZero, XMake, XOut, XSet, OF, XWith, OI, OJ, OG, XAnti, XMu, XIns, OV.
-/
import Derived.Test.YtdokijbdnajhgaaMCnt2
import Derived.Lib.SlicesCompact
set_option linter.unusedSimpArgs false
set_option linter.unusedVariables false
namespace Go.Proofs.Ytdokijbdnajhgaa
open Go Go.X

set_option maxRecDepth 10000 in
theorem ochk1_spec (h : Heap) (vr : Value) (xs : List Bool) (vp : Value) (hs : List Hdr) (p : List (List Bool)) (bx : Nat) (hb_bx : Blk h bx (#[vp]) 29) (hr_vp : RdE encHd h vp hs) (ht_vp : RT encB h hs p) (hr_vr : RdE encB h vr xs) (hp1 : xs.length ≤ 4611686018427387904) : Fx Try.prog 114 [vr, .pointer (some ⟨bx, 0, none⟩)] h (fun v h' => v = .bool (decide (((xs.length : Nat) : Int) ≠ ((hs.length : Nat) : Int))) ∧ h = h') := by
  have hl_vp := ht_vp.1
  refine fx_intro (n := 9) [(0, vr), (1, .pointer (some ⟨bx, 0, none⟩))] Try.func114 rfl rfl (by simp) ⟨rfl, rfl, trivial⟩ fun g0 => ?_
  refine wi_seq <| wi_reg rfl <| lx_assign (.bool false) rfl rfl <| lx_nil <| wi_seq <| wi_reg rfl <| lx_move (vr) rfl rfl <| lx_len rfl Try.underlying70 hr_vr rfl <| lx_ldB (vp) rfl rfl fl29 hb_bx rfl rfl <| lx_len rfl Try.underlying29 hr_vp rfl <| lx_neq rfl rfl rfl <| lx_assign (.bool (decide (((xs.length : Nat) : Int) ≠ ((hs.length : Nat) : Int)))) rfl rfl <| lx_nil <| ?_
  -- R1
  refine wi_ret ⟨.bool (decide (((xs.length : Nat) : Int) ≠ ((hs.length : Nat) : Int))), (res_one rfl rfl), ⟨rfl, rfl⟩⟩

set_option maxRecDepth 10000 in
theorem oindex_spec (h : Heap) (vp : Value) (hs : List Hdr) (p : List (List Bool)) (bx : Nat) (hb_bx : Blk h bx (#[vp]) 29) (hr_vp : RdE encHd h vp hs) (ht_vp : RT encB h hs p) (hp1 : p.length ≤ 1000000) (hp2 : ∀ i, i < p.length → (gt p i).length ≤ 1000000) : Fx Try.prog 146 [vp, .func (.func 114) #[] #[.pointer (some ⟨bx, 0, none⟩)]] h (fun v h' => ∃ (r : Int), v = .int .i64 r ∧ ((r = -1 ∧ ∀ i, i < p.length → (gt p i).length = p.length) ∨ (0 ≤ r ∧ ∃ i, i < p.length ∧ (gt p i).length ≠ p.length)) ∧ h = h') := by
  have hl_vp := ht_vp.1
  refine fx_intro (n := 19) [(0, vp), (1, .func (.func 114) #[] #[.pointer (some ⟨bx, 0, none⟩)])] Try.func146 rfl rfl (by simp) ⟨rfl, rfl, trivial⟩ fun g0 => ?_
  refine wi_seq <| wi_reg rfl <| lx_assign (.int .i64 0) rfl rfl <| lx_nil <| wi_seq <| wi_seq <| wi_reg rfl <| lx_move (vp) rfl rfl <| lx_len rfl Try.underlying29 hr_vp rfl <| lx_move (.int .i64 0) rfl rfl <| lx_nil <| wi_block <| ?_
  refine wi_loop (σ := Nat) (rngB 8 19 [4, 5]) (fun (i : Nat) => [(8, .int .i64 ((i : Nat) : Int))]) (fun (i : Nat) (hh : Heap) => h = hh ∧ (i ≤ p.length) ∧ (∀ j, j < i → (gt p j).length = p.length)) (fun (i : Nat) => p.length - i) 0 ⟨rfl, trivial⟩ ⟨rfl, ?_, ?_⟩ ?_
  · try dsimp only
    omega
  · try dsimp only
    intro j hj; omega
  rintro g1 i hh1 ⟨rfl, hi, he⟩ IH1
  refine wi_seq <| wi_reg rfl <| lx_lssS rfl rfl rfl (fun c1 => ?_) (fun c1 => ?_)
  · refine lx_nil <| wi_seq <| wi_true rfl <| wi_skip <| wi_seq <| wi_block <| wi_seq <| wi_reg rfl <| lx_move (.int .i64 ((i : Nat) : Int)) rfl rfl <| lx_assign (.int .i64 ((i : Nat) : Int)) rfl rfl <| lx_nil <| wi_seq <| wi_reg rfl <| ?_
    have hgl := hp2 i (by omega)
    refine lx_move (.func (.func 114) #[] #[.pointer (some ⟨bx, 0, none⟩)]) rfl rfl <| lx_move (vp) rfl rfl <| lx_move (.int .i64 ((i : Nat) : Int)) rfl rfl <| lx_ix (i := i) rfl eT29 hr_vp rfl rfl (by omega) <| lx_ld (i := i) (j := 0) ((gt hs i).v) rfl rfl fl70 hr_vp (by omega) rfl rfl <| lx_callV [] [.pointer (some ⟨bx, 0, none⟩)] [(gt hs i).v] rfl rfl Try.call114 rfl rfl (ochk1_spec h ((gt hs i).v) (gt p i) vp hs p bx hb_bx hr_vp ht_vp (ht_vp.2 i (by omega)) (by omega)) (fun _ _ _ => trivial) ?_
    rintro _ h1 ⟨rfl, rfl⟩
    refine lx_nil <| wi_condS (t := decide ((((gt p i).length : Nat) : Int) ≠ ((hs.length : Nat) : Int))) rfl (fun c2 => ?_) (fun c2 => ?_)
    · refine wi_seq <| wi_reg rfl <| lx_move (.int .i64 ((i : Nat) : Int)) rfl rfl <| lx_assign (.int .i64 ((i : Nat) : Int)) rfl rfl <| lx_nil <| ?_
      -- R1
      refine wi_ret ⟨.int .i64 ((i : Nat) : Int), (res_one rfl rfl), ⟨((i : Nat) : Int), ?_, ?_, rfl⟩⟩
      · first | rfl | (simp; done) | (simp; omega)
      · refine .inr ⟨by omega, i, by omega, ?_⟩
        have h9 := of_decide_eq_true c2; omega
    · refine wi_skip <| wi_inBlock <| wi_reg rfl <| lx_add (((i + 1 : Nat) : Int)) rfl rfl rfl (by omega) (by omega) (by omega) <| lx_move (.int .i64 ((i + 1 : Nat) : Int)) rfl rfl <| lx_nil <| ?_
      -- L0.1
      refine IH1 _ _ (i + 1) (agree_ups rfl agree_self) ⟨rfl, trivial⟩ ⟨rfl, ?_, ?_⟩ ?_
      · try dsimp only
        omega
      · try dsimp only
        intro j hj; by_cases e : j = i
        · subst e; have h9 := of_decide_eq_false c2; omega
        · exact he j (by omega)
      · first | omega | (dsimp only; omega)
  · refine lx_nil <| wi_seq <| wi_false rfl <| wi_exit rfl <| wi_seq <| wi_reg rfl <| lx_assign (.int .i64 (-1)) rfl rfl <| lx_nil <| ?_
    -- R2
    refine wi_ret ⟨.int .i64 (-1), (res_one rfl rfl), ⟨(-1), ?_, ?_, rfl⟩⟩
    · first | rfl | (simp; done) | (simp; omega)
    · exact .inl ⟨rfl, fun j hj => he j (by omega)⟩

set_option maxRecDepth 10000 in
theorem ocontains_spec (h : Heap) (vp : Value) (hs : List Hdr) (p : List (List Bool)) (bx : Nat) (hb_bx : Blk h bx (#[vp]) 29) (hr_vp : RdE encHd h vp hs) (ht_vp : RT encB h hs p) (hp1 : p.length ≤ 1000000) (hp2 : ∀ i, i < p.length → (gt p i).length ≤ 1000000) : Fx Try.prog 113 [vp, .func (.func 114) #[] #[.pointer (some ⟨bx, 0, none⟩)]] h (fun v h' => v = .bool (!sqB p) ∧ h = h') := by
  have hl_vp := ht_vp.1
  refine fx_intro (n := 9) [(0, vp), (1, .func (.func 114) #[] #[.pointer (some ⟨bx, 0, none⟩)])] Try.func113 rfl rfl (by simp) ⟨rfl, rfl, trivial⟩ fun g0 => ?_
  refine wi_seq <| wi_reg rfl <| lx_assign (.bool false) rfl rfl <| lx_nil <| wi_seq <| wi_reg rfl <| lx_move (vp) rfl rfl <| lx_move (.func (.func 114) #[] #[.pointer (some ⟨bx, 0, none⟩)]) rfl rfl <| lx_call [vp, .func (.func 114) #[] #[.pointer (some ⟨bx, 0, none⟩)]] rfl rfl Try.call146 rfl (oindex_spec h vp hs p bx hb_bx hr_vp ht_vp (by omega) hp2) (fun _ _ _ => trivial) ?_
  rintro _ h1 ⟨r_1, rfl, hr_1, rfl⟩
  refine lx_geq rfl rfl rfl <| lx_assign (.bool (decide ((0 : Int) ≤ r_1))) rfl rfl <| lx_nil <| ?_
  -- R1
  refine wi_ret ⟨.bool (decide ((0 : Int) ≤ r_1)), (res_one rfl rfl), ⟨?_, rfl⟩⟩
  · congr 1
    rcases hr_1 with ⟨h1, h2⟩ | ⟨h1, j, h2, h3⟩
    · rw [decide_eq_false (by omega), sqB_iff.2 ⟨rfl, h2⟩]; rfl
    · rw [decide_eq_true (by omega)]
      symm
      rw [Bool.not_eq_true', Bool.eq_false_iff]
      exact fun h => h3 ((sqB_iff.1 h).2 j h2)

set_option maxRecDepth 10000 in
theorem ocheck_spec (h : Heap) (vp : Value) (hs : List Hdr) (p : List (List Bool)) (hr_vp : RdE encHd h vp hs) (ht_vp : RT encB h hs p) (hp1 : p.length ≤ 1000000) (hp2 : ∀ i, i < p.length → (gt p i).length ≤ 1000000) : Fx Try.prog 62 [vp] h (fun v h' => v = .int .i64 (chkT p) ∧ Ext h.size h h') := by
  have hl_vp := ht_vp.1
  refine fx_intro (n := 99) [(0, vp)] Try.func62 rfl rfl (by simp) ⟨rfl, trivial⟩ fun g0 => ?_
  refine wi_seq <| wi_reg rfl <| lx_box #[vp] rfl rfl (sl_cells hr_vp) (fun _ _ _ => trivial) fun bn1 h1 hbn1 hbk1 hx1 hsz1 => ?_
  have hbb1 : h.size ≤ bn1 := by have := (Nat.le_refl h.size); omega
  refine lx_assign (.int .i64 0) rfl rfl <| lx_nil <| wi_seq <| wi_seq <| wi_reg rfl <| lx_ldB (vp) rfl rfl fl29 hbk1 rfl rfl <| lx_len rfl Try.underlying29 hr_vp rfl <| lx_lssS rfl rfl rfl (fun c1 => ?_) (fun c1 => ?_)
  · refine lx_move (.bool true) rfl rfl <| lx_skip rfl <| lx_skip rfl <| lx_skip rfl <| lx_pick true (.bool true) rfl rfl rfl <| lx_move (.bool true) rfl rfl <| lx_skip rfl <| lx_skip rfl <| lx_skip rfl <| lx_pick true (.bool true) rfl rfl rfl <| lx_nil <| wi_true rfl <| wi_seq <| wi_reg rfl <| lx_assign (.int .i64 90) rfl rfl <| lx_nil <| ?_
    -- R1
    refine wi_ret ⟨.int .i64 90, (res_one rfl rfl), ⟨?_, hx1⟩⟩
    · first
      | (rw [chkT_size (by omega)]; done)
      | rw [chkT_bad (bad_ok (x := x) (y := y) (by omega) (by omega) (by first | exact bad_tri (z := z) (by omega) (by first | assumption | exact nbf (by assumption) | exact nbt (by assumption)) (by first | assumption | exact nbf (by assumption) | exact nbt (by assumption)) (by first | assumption | exact nbf (by assumption) | exact nbt (by assumption)) | exact bad_refl (by omega) (by first | assumption | exact nbf (by assumption) | exact nbt (by assumption)) | exact bad_anti (by omega) (by first | assumption | exact nbf (by assumption) | exact nbt (by assumption)) (by first | assumption | exact nbf (by assumption) | exact nbt (by assumption))))]
      | (have h9 : isT p = false := by
           unfold isT; rw [show sqB p = false from by simpa using ‹(!sqB p) = true›]; rfl
         rw [chkT_bad h9])
      | (have h9 : isT p = true := isT_iff.2 ⟨hsQ, fun a b ha hb => hA a (by omega) b hb⟩
         rw [ok_chkT (by omega) (by omega) h9])
  · refine lx_move (.bool false) rfl rfl <| lx_ldB (vp) rfl rfl fl29 hbk1 rfl rfl <| lx_len rfl Try.underlying29 hr_vp rfl <| lx_gtrS rfl rfl rfl (fun c2 => ?_) (fun c2 => ?_)
    · refine lx_pick false (.bool true) rfl rfl rfl <| lx_move (.bool true) rfl rfl <| lx_skip rfl <| lx_skip rfl <| lx_skip rfl <| lx_pick true (.bool true) rfl rfl rfl <| lx_nil <| wi_true rfl <| wi_seq <| wi_reg rfl <| lx_assign (.int .i64 90) rfl rfl <| lx_nil <| ?_
      -- R2
      refine wi_ret ⟨.int .i64 90, (res_one rfl rfl), ⟨?_, hx1⟩⟩
      · first
        | (rw [chkT_size (by omega)]; done)
        | rw [chkT_bad (bad_ok (x := x) (y := y) (by omega) (by omega) (by first | exact bad_tri (z := z) (by omega) (by first | assumption | exact nbf (by assumption) | exact nbt (by assumption)) (by first | assumption | exact nbf (by assumption) | exact nbt (by assumption)) (by first | assumption | exact nbf (by assumption) | exact nbt (by assumption)) | exact bad_refl (by omega) (by first | assumption | exact nbf (by assumption) | exact nbt (by assumption)) | exact bad_anti (by omega) (by first | assumption | exact nbf (by assumption) | exact nbt (by assumption)) (by first | assumption | exact nbf (by assumption) | exact nbt (by assumption))))]
        | (have h9 : isT p = false := by
             unfold isT; rw [show sqB p = false from by simpa using ‹(!sqB p) = true›]; rfl
           rw [chkT_bad h9])
        | (have h9 : isT p = true := isT_iff.2 ⟨hsQ, fun a b ha hb => hA a (by omega) b hb⟩
           rw [ok_chkT (by omega) (by omega) h9])
    · refine lx_pick false (.bool false) rfl rfl rfl <| lx_move (.bool false) rfl rfl <| lx_ldB (vp) rfl rfl fl29 hbk1 rfl rfl <| lx_makeFunc [] [.pointer (some ⟨bn1, 0, none⟩)] rfl rfl rfl <| lx_call [vp, .func (.func 114) #[] #[.pointer (some ⟨bn1, 0, none⟩)]] rfl rfl Try.call113 rfl (ocontains_spec h1 vp hs p bn1 hbk1 (hr_vp.extS hx1) (ht_vp.extS hx1) (by omega) hp2) (fun _ _ _ => trivial) ?_
      rintro _ h2 ⟨rfl, rfl⟩
      refine lx_pick false (.bool (!sqB p)) rfl rfl rfl <| lx_nil <| wi_condS (t := !sqB p) rfl (fun c3 => ?_) (fun c3 => ?_)
      · refine wi_seq <| wi_reg rfl <| lx_assign (.int .i64 90) rfl rfl <| lx_nil <| ?_
        -- R3
        refine wi_ret ⟨.int .i64 90, (res_one rfl rfl), ⟨?_, hx1⟩⟩
        · first
          | (rw [chkT_size (by omega)]; done)
          | rw [chkT_bad (bad_ok (x := x) (y := y) (by omega) (by omega) (by first | exact bad_tri (z := z) (by omega) (by first | assumption | exact nbf (by assumption) | exact nbt (by assumption)) (by first | assumption | exact nbf (by assumption) | exact nbt (by assumption)) (by first | assumption | exact nbf (by assumption) | exact nbt (by assumption)) | exact bad_refl (by omega) (by first | assumption | exact nbf (by assumption) | exact nbt (by assumption)) | exact bad_anti (by omega) (by first | assumption | exact nbf (by assumption) | exact nbt (by assumption)) (by first | assumption | exact nbf (by assumption) | exact nbt (by assumption))))]
          | (have h9 : isT p = false := by
               unfold isT; rw [show sqB p = false from by simpa using ‹(!sqB p) = true›]; rfl
             rw [chkT_bad h9])
          | (have h9 : isT p = true := isT_iff.2 ⟨hsQ, fun a b ha hb => hA a (by omega) b hb⟩
             rw [ok_chkT (by omega) (by omega) h9])
      · refine wi_skip <| wi_seq <| wi_seq <| wi_reg rfl <| ?_
        have hsB : sqB p = true := by simpa using ‹(!sqB p) = false›
        have hsQ := sqB_iff.1 hsB
        have hsq : ∀ i, i < p.length → (gt p i).length = p.length := hsQ.2
        refine lx_ldB (vp) rfl rfl fl29 hbk1 rfl rfl <| lx_len rfl Try.underlying29 hr_vp rfl <| lx_move (.int .i64 0) rfl rfl <| lx_nil <| wi_block <| ?_
        refine wi_loop (σ := Nat) (rngB 21 99 [2, 3, 4, 5]) (fun (x : Nat) => [(21, .int .i64 ((x : Nat) : Int))]) (fun (x : Nat) (hh : Heap) => h1 = hh ∧ (x ≤ p.length) ∧ (∀ a, a < x → ∀ b, b < p.length → okP p.length (pb p) a b)) (fun (x : Nat) => p.length - x) 0 ⟨rfl, trivial⟩ ⟨rfl, ?_, ?_⟩ ?_
        · try dsimp only
          omega
        · try dsimp only
          intro a ha; omega
        rintro g1 x hh1 ⟨rfl, hx, hA⟩ IH1
        refine wi_seq <| wi_reg rfl <| lx_lssS rfl rfl rfl (fun c4 => ?_) (fun c4 => ?_)
        · refine lx_nil <| wi_seq <| wi_true rfl <| wi_skip <| wi_seq <| wi_block <| wi_seq <| wi_reg rfl <| lx_move (.int .i64 ((x : Nat) : Int)) rfl rfl <| lx_assign (.int .i64 ((x : Nat) : Int)) rfl rfl <| lx_nil <| wi_seq <| wi_reg rfl <| lx_ldB (vp) rfl rfl fl29 hbk1 rfl rfl <| lx_len rfl Try.underlying29 hr_vp rfl <| lx_move (.int .i64 0) rfl rfl <| lx_nil <| wi_block <| ?_
          refine wi_loop (σ := Nat) (rngB 26 98 [2, 4, 5]) (fun (y : Nat) => [(26, .int .i64 ((y : Nat) : Int))]) (fun (y : Nat) (hh : Heap) => h1 = hh ∧ (y ≤ p.length) ∧ (∀ b, b < y → okP p.length (pb p) x b)) (fun (y : Nat) => p.length - y) 0 ⟨rfl, trivial⟩ ⟨rfl, ?_, ?_⟩ ?_
          · try dsimp only
            omega
          · try dsimp only
            intro b hb; omega
          rintro g2 y hh2 ⟨rfl, hy, hB⟩ IH2
          refine wi_seq <| wi_reg rfl <| lx_lssS rfl rfl rfl (fun c5 => ?_) (fun c5 => ?_)
          · refine lx_nil <| wi_seq <| wi_true rfl <| wi_skip <| wi_seq <| wi_block <| wi_seq <| wi_reg rfl <| lx_move (.int .i64 ((y : Nat) : Int)) rfl rfl <| lx_assign (.int .i64 ((y : Nat) : Int)) rfl rfl <| lx_nil <| wi_seq <| wi_seq <| wi_reg rfl <| lx_move (.int .i64 ((x : Nat) : Int)) rfl rfl <| lx_move (.int .i64 ((y : Nat) : Int)) rfl rfl <| lx_eqlS rfl rfl rfl (fun c6 => ?_) (fun c6 => ?_)
            · refine lx_move (.bool true) rfl rfl <| lx_ldB (vp) rfl rfl fl29 hbk1 rfl rfl <| lx_move (.int .i64 ((x : Nat) : Int)) rfl rfl <| lx_ix (i := x) rfl eT29 hr_vp rfl rfl (by omega) <| lx_ld (i := x) (j := 0) ((gt hs x).v) rfl rfl fl70 (hr_vp.extS hx1) (by omega) rfl rfl <| lx_move (.int .i64 ((y : Nat) : Int)) rfl rfl <| lx_ix (i := y) rfl eT70 (ht_vp.2 x (by omega)) rfl rfl (by rw [hsq x (by omega)]; omega) <| lx_ld (i := y) (j := 0) (.bool (gt (gt p x) y)) rfl rfl fl4 ((ht_vp.extS hx1).2 x (by omega)) (by rw [hsq x (by omega)]; omega) rfl rfl <| lx_not rfl rfl <| lx_pick true (.bool (!(gt (gt p x) y))) rfl rfl rfl <| lx_move (.bool (!(gt (gt p x) y))) rfl rfl <| ?_
              cases c7 : (gt (gt p x) y)
              · refine lx_skip rfl <| lx_skip rfl <| lx_skip rfl <| lx_skip rfl <| lx_skip rfl <| lx_skip rfl <| lx_skip rfl <| lx_skip rfl <| lx_skip rfl <| lx_skip rfl <| lx_skip rfl <| lx_skip rfl <| lx_skip rfl <| lx_skip rfl <| lx_skip rfl <| lx_skip rfl <| lx_skip rfl <| lx_skip rfl <| lx_skip rfl <| lx_skip rfl <| lx_skip rfl <| lx_pick true (.bool true) rfl rfl rfl <| lx_nil <| wi_true rfl <| wi_seq <| wi_reg rfl <| lx_assign (.int .i64 90) rfl rfl <| lx_nil <| ?_
                -- R4
                refine wi_ret ⟨.int .i64 90, (res_one rfl rfl), ⟨?_, hx1⟩⟩
                · first
                  | (rw [chkT_size (by omega)]; done)
                  | rw [chkT_bad (bad_ok (x := x) (y := y) (by omega) (by omega) (by first | exact bad_tri (z := z) (by omega) (by first | assumption | exact nbf (by assumption) | exact nbt (by assumption)) (by first | assumption | exact nbf (by assumption) | exact nbt (by assumption)) (by first | assumption | exact nbf (by assumption) | exact nbt (by assumption)) | exact bad_refl (by omega) (by first | assumption | exact nbf (by assumption) | exact nbt (by assumption)) | exact bad_anti (by omega) (by first | assumption | exact nbf (by assumption) | exact nbt (by assumption)) (by first | assumption | exact nbf (by assumption) | exact nbt (by assumption))))]
                  | (have h9 : isT p = false := by
                       unfold isT; rw [show sqB p = false from by simpa using ‹(!sqB p) = true›]; rfl
                     rw [chkT_bad h9])
                  | (have h9 : isT p = true := isT_iff.2 ⟨hsQ, fun a b ha hb => hA a (by omega) b hb⟩
                     rw [ok_chkT (by omega) (by omega) h9])
              · refine lx_move (.int .i64 ((x : Nat) : Int)) rfl rfl <| lx_move (.int .i64 ((y : Nat) : Int)) rfl rfl <| lx_neqS rfl rfl rfl (fun c8 => ?_) (fun c8 => ?_)
                · refine lx_move (.bool true) rfl rfl <| lx_ldB (vp) rfl rfl fl29 hbk1 rfl rfl <| lx_move (.int .i64 ((x : Nat) : Int)) rfl rfl <| lx_ix (i := x) rfl eT29 hr_vp rfl rfl (by omega) <| lx_ld (i := x) (j := 0) ((gt hs x).v) rfl rfl fl70 (hr_vp.extS hx1) (by omega) rfl rfl <| lx_move (.int .i64 ((y : Nat) : Int)) rfl rfl <| lx_ix (i := y) rfl eT70 (ht_vp.2 x (by omega)) rfl rfl (by rw [hsq x (by omega)]; omega) <| lx_ld (i := y) (j := 0) (.bool true) rfl rfl fl4 ((ht_vp.extS hx1).2 x (by omega)) (by rw [hsq x (by omega)]; omega) (by show some (Value.bool (gt (gt p x) y)) = _; rw [c7]) rfl <| lx_pick true (.bool true) rfl rfl rfl <| lx_move (.bool true) rfl rfl <| lx_ldB (vp) rfl rfl fl29 hbk1 rfl rfl <| lx_move (.int .i64 ((y : Nat) : Int)) rfl rfl <| lx_ix (i := y) rfl eT29 hr_vp rfl rfl (by omega) <| lx_ld (i := y) (j := 0) ((gt hs y).v) rfl rfl fl70 (hr_vp.extS hx1) (by omega) rfl rfl <| lx_move (.int .i64 ((x : Nat) : Int)) rfl rfl <| lx_ix (i := x) rfl eT70 (ht_vp.2 y (by omega)) rfl rfl (by rw [hsq y (by omega)]; omega) <| lx_ld (i := x) (j := 0) (.bool (gt (gt p y) x)) rfl rfl fl4 ((ht_vp.extS hx1).2 y (by omega)) (by rw [hsq y (by omega)]; omega) rfl rfl <| lx_pick true (.bool (gt (gt p y) x)) rfl rfl rfl <| lx_pick false (.bool (gt (gt p y) x)) rfl rfl rfl <| lx_nil <| wi_condS (t := gt (gt p y) x) rfl (fun c9 => ?_) (fun c9 => ?_)
                  · refine wi_seq <| wi_reg rfl <| lx_assign (.int .i64 90) rfl rfl <| lx_nil <| ?_
                    -- R5
                    refine wi_ret ⟨.int .i64 90, (res_one rfl rfl), ⟨?_, hx1⟩⟩
                    · first
                      | (rw [chkT_size (by omega)]; done)
                      | rw [chkT_bad (bad_ok (x := x) (y := y) (by omega) (by omega) (by first | exact bad_tri (z := z) (by omega) (by first | assumption | exact nbf (by assumption) | exact nbt (by assumption)) (by first | assumption | exact nbf (by assumption) | exact nbt (by assumption)) (by first | assumption | exact nbf (by assumption) | exact nbt (by assumption)) | exact bad_refl (by omega) (by first | assumption | exact nbf (by assumption) | exact nbt (by assumption)) | exact bad_anti (by omega) (by first | assumption | exact nbf (by assumption) | exact nbt (by assumption)) (by first | assumption | exact nbf (by assumption) | exact nbt (by assumption))))]
                      | (have h9 : isT p = false := by
                           unfold isT; rw [show sqB p = false from by simpa using ‹(!sqB p) = true›]; rfl
                         rw [chkT_bad h9])
                      | (have h9 : isT p = true := isT_iff.2 ⟨hsQ, fun a b ha hb => hA a (by omega) b hb⟩
                         rw [ok_chkT (by omega) (by omega) h9])
                  · refine wi_skip <| wi_seq <| wi_reg rfl <| lx_ldB (vp) rfl rfl fl29 hbk1 rfl rfl <| lx_len rfl Try.underlying29 hr_vp rfl <| lx_move (.int .i64 0) rfl rfl <| lx_nil <| wi_block <| ?_
                    refine wi_loop (σ := Nat) (rngB 67 97 [2, 5]) (fun (z : Nat) => [(67, .int .i64 ((z : Nat) : Int))]) (fun (z : Nat) (hh : Heap) => h1 = hh ∧ (z ≤ p.length) ∧ (∀ c, c < z → pb p x y = true → pb p y c = true → pb p x c = true)) (fun (z : Nat) => p.length - z) 0 ⟨rfl, trivial⟩ ⟨rfl, ?_, ?_⟩ ?_
                    · try dsimp only
                      omega
                    · try dsimp only
                      intro c hc; omega
                    rintro g3 z hh3 ⟨rfl, hz, hC⟩ IH3
                    refine wi_seq <| wi_reg rfl <| lx_lssS rfl rfl rfl (fun c10 => ?_) (fun c10 => ?_)
                    · refine lx_nil <| wi_seq <| wi_true rfl <| wi_skip <| wi_seq <| wi_block <| wi_seq <| wi_reg rfl <| lx_move (.int .i64 ((z : Nat) : Int)) rfl rfl <| lx_assign (.int .i64 ((z : Nat) : Int)) rfl rfl <| lx_nil <| wi_seq <| wi_reg rfl <| lx_ldB (vp) rfl rfl fl29 hbk1 rfl rfl <| lx_move (.int .i64 ((x : Nat) : Int)) rfl rfl <| lx_ix (i := x) rfl eT29 hr_vp rfl rfl (by omega) <| lx_ld (i := x) (j := 0) ((gt hs x).v) rfl rfl fl70 (hr_vp.extS hx1) (by omega) rfl rfl <| lx_move (.int .i64 ((y : Nat) : Int)) rfl rfl <| lx_ix (i := y) rfl eT70 (ht_vp.2 x (by omega)) rfl rfl (by rw [hsq x (by omega)]; omega) <| lx_ld (i := y) (j := 0) (.bool true) rfl rfl fl4 ((ht_vp.extS hx1).2 x (by omega)) (by rw [hsq x (by omega)]; omega) (by show some (Value.bool (gt (gt p x) y)) = _; rw [c7]) rfl <| lx_move (.bool true) rfl rfl <| lx_ldB (vp) rfl rfl fl29 hbk1 rfl rfl <| lx_move (.int .i64 ((y : Nat) : Int)) rfl rfl <| lx_ix (i := y) rfl eT29 hr_vp rfl rfl (by omega) <| lx_ld (i := y) (j := 0) ((gt hs y).v) rfl rfl fl70 (hr_vp.extS hx1) (by omega) rfl rfl <| lx_move (.int .i64 ((z : Nat) : Int)) rfl rfl <| lx_ix (i := z) rfl eT70 (ht_vp.2 y (by omega)) rfl rfl (by rw [hsq y (by omega)]; omega) <| lx_ld (i := z) (j := 0) (.bool (gt (gt p y) z)) rfl rfl fl4 ((ht_vp.extS hx1).2 y (by omega)) (by rw [hsq y (by omega)]; omega) rfl rfl <| lx_pick true (.bool (gt (gt p y) z)) rfl rfl rfl <| lx_move (.bool (gt (gt p y) z)) rfl rfl <| ?_
                      cases c11 : (gt (gt p y) z)
                      · refine lx_skip rfl <| lx_skip rfl <| lx_skip rfl <| lx_skip rfl <| lx_skip rfl <| lx_skip rfl <| lx_skip rfl <| lx_skip rfl <| lx_pick false (.bool false) rfl rfl rfl <| lx_nil <| wi_false rfl <| wi_skip <| wi_inBlock <| wi_reg rfl <| lx_add (((z + 1 : Nat) : Int)) rfl rfl rfl (by omega) (by omega) (by omega) <| lx_move (.int .i64 ((z + 1 : Nat) : Int)) rfl rfl <| lx_nil <| ?_
                        -- L4.1
                        refine IH3 _ _ (z + 1) (agree_ups rfl agree_self) ⟨rfl, trivial⟩ ⟨rfl, ?_, ?_⟩ ?_
                        · try dsimp only
                          omega
                        · try dsimp only
                          intro c hc h1 h2
                          by_cases e : c = z
                          · subst e; first | assumption | exact nbf (by assumption) | exact absurd h1 (ntb (by first | assumption | exact nbt (by assumption))) | exact absurd h2 (ntb (by first | assumption | exact nbt (by assumption)))
                          · exact hC c (by omega) h1 h2
                        · first | omega | (dsimp only; omega)
                      · refine lx_ldB (vp) rfl rfl fl29 hbk1 rfl rfl <| lx_move (.int .i64 ((x : Nat) : Int)) rfl rfl <| lx_ix (i := x) rfl eT29 hr_vp rfl rfl (by omega) <| lx_ld (i := x) (j := 0) ((gt hs x).v) rfl rfl fl70 (hr_vp.extS hx1) (by omega) rfl rfl <| lx_move (.int .i64 ((z : Nat) : Int)) rfl rfl <| lx_ix (i := z) rfl eT70 (ht_vp.2 x (by omega)) rfl rfl (by rw [hsq x (by omega)]; omega) <| lx_ld (i := z) (j := 0) (.bool (gt (gt p x) z)) rfl rfl fl4 ((ht_vp.extS hx1).2 x (by omega)) (by rw [hsq x (by omega)]; omega) rfl rfl <| lx_not rfl rfl <| lx_pick true (.bool (!(gt (gt p x) z))) rfl rfl rfl <| lx_nil <| wi_condS (t := !(gt (gt p x) z)) rfl (fun c12 => ?_) (fun c12 => ?_)
                        · refine wi_seq <| wi_reg rfl <| lx_assign (.int .i64 90) rfl rfl <| lx_nil <| ?_
                          -- R6
                          refine wi_ret ⟨.int .i64 90, (res_one rfl rfl), ⟨?_, hx1⟩⟩
                          · first
                            | (rw [chkT_size (by omega)]; done)
                            | rw [chkT_bad (bad_ok (x := x) (y := y) (by omega) (by omega) (by first | exact bad_tri (z := z) (by omega) (by first | assumption | exact nbf (by assumption) | exact nbt (by assumption)) (by first | assumption | exact nbf (by assumption) | exact nbt (by assumption)) (by first | assumption | exact nbf (by assumption) | exact nbt (by assumption)) | exact bad_refl (by omega) (by first | assumption | exact nbf (by assumption) | exact nbt (by assumption)) | exact bad_anti (by omega) (by first | assumption | exact nbf (by assumption) | exact nbt (by assumption)) (by first | assumption | exact nbf (by assumption) | exact nbt (by assumption))))]
                            | (have h9 : isT p = false := by
                                 unfold isT; rw [show sqB p = false from by simpa using ‹(!sqB p) = true›]; rfl
                               rw [chkT_bad h9])
                            | (have h9 : isT p = true := isT_iff.2 ⟨hsQ, fun a b ha hb => hA a (by omega) b hb⟩
                               rw [ok_chkT (by omega) (by omega) h9])
                        · refine wi_skip <| wi_inBlock <| wi_reg rfl <| lx_add (((z + 1 : Nat) : Int)) rfl rfl rfl (by omega) (by omega) (by omega) <| lx_move (.int .i64 ((z + 1 : Nat) : Int)) rfl rfl <| lx_nil <| ?_
                          -- L4.2
                          refine IH3 _ _ (z + 1) (agree_ups rfl agree_self) ⟨rfl, trivial⟩ ⟨rfl, ?_, ?_⟩ ?_
                          · try dsimp only
                            omega
                          · try dsimp only
                            intro c hc h1 h2
                            by_cases e : c = z
                            · subst e; first | assumption | exact nbf (by assumption) | exact absurd h1 (ntb (by first | assumption | exact nbt (by assumption))) | exact absurd h2 (ntb (by first | assumption | exact nbt (by assumption)))
                            · exact hC c (by omega) h1 h2
                          · first | omega | (dsimp only; omega)
                    · refine lx_nil <| wi_seq <| wi_false rfl <| wi_exit rfl <| wi_inBlock <| wi_reg rfl <| lx_add (((y + 1 : Nat) : Int)) rfl rfl rfl (by omega) (by omega) (by omega) <| lx_move (.int .i64 ((y + 1 : Nat) : Int)) rfl rfl <| lx_nil <| ?_
                      -- L2.1
                      refine IH2 _ _ (y + 1) (agree_ups rfl (agree_mix (rngB_sub (by decide) (by decide) rfl) (agree_ups rfl agree_self))) ⟨rfl, trivial⟩ ⟨rfl, ?_, ?_⟩ ?_
                      · try dsimp only
                        omega
                      · try dsimp only
                        intro b hb
                        by_cases e : b = y
                        · subst e; exact ⟨fun e => (by first | assumption | exact nbf (by assumption) | (exfalso; omega)), fun h1 h2 => (by first | (exfalso; omega) | assumption | exact nbt (by assumption) | exact absurd h2 (ntb (by assumption))), fun c hc h1 h2 => hC c (by omega) h1 h2⟩
                        · exact hB b (by omega)
                      · first | omega | (dsimp only; omega)
                · refine lx_move (.bool false) rfl rfl <| lx_skip rfl <| lx_skip rfl <| lx_skip rfl <| lx_skip rfl <| lx_skip rfl <| lx_skip rfl <| lx_skip rfl <| lx_pick false (.bool false) rfl rfl rfl <| lx_move (.bool false) rfl rfl <| lx_skip rfl <| lx_skip rfl <| lx_skip rfl <| lx_skip rfl <| lx_skip rfl <| lx_skip rfl <| lx_skip rfl <| lx_pick false (.bool false) rfl rfl rfl <| lx_pick false (.bool false) rfl rfl rfl <| lx_nil <| wi_false rfl <| wi_skip <| wi_seq <| wi_reg rfl <| lx_ldB (vp) rfl rfl fl29 hbk1 rfl rfl <| lx_len rfl Try.underlying29 hr_vp rfl <| lx_move (.int .i64 0) rfl rfl <| lx_nil <| wi_block <| ?_
                  refine wi_loop (σ := Nat) (rngB 67 97 [2, 5]) (fun (z : Nat) => [(67, .int .i64 ((z : Nat) : Int))]) (fun (z : Nat) (hh : Heap) => h1 = hh ∧ (z ≤ p.length) ∧ (∀ c, c < z → pb p x y = true → pb p y c = true → pb p x c = true)) (fun (z : Nat) => p.length - z) 0 ⟨rfl, trivial⟩ ⟨rfl, ?_, ?_⟩ ?_
                  · try dsimp only
                    omega
                  · try dsimp only
                    intro c hc; omega
                  rintro g4 z hh4 ⟨rfl, hz, hC⟩ IH4
                  refine wi_seq <| wi_reg rfl <| lx_lssS rfl rfl rfl (fun c13 => ?_) (fun c13 => ?_)
                  · refine lx_nil <| wi_seq <| wi_true rfl <| wi_skip <| wi_seq <| wi_block <| wi_seq <| wi_reg rfl <| lx_move (.int .i64 ((z : Nat) : Int)) rfl rfl <| lx_assign (.int .i64 ((z : Nat) : Int)) rfl rfl <| lx_nil <| wi_seq <| wi_reg rfl <| lx_ldB (vp) rfl rfl fl29 hbk1 rfl rfl <| lx_move (.int .i64 ((x : Nat) : Int)) rfl rfl <| lx_ix (i := x) rfl eT29 hr_vp rfl rfl (by omega) <| lx_ld (i := x) (j := 0) ((gt hs x).v) rfl rfl fl70 (hr_vp.extS hx1) (by omega) rfl rfl <| lx_move (.int .i64 ((y : Nat) : Int)) rfl rfl <| lx_ix (i := y) rfl eT70 (ht_vp.2 x (by omega)) rfl rfl (by rw [hsq x (by omega)]; omega) <| lx_ld (i := y) (j := 0) (.bool true) rfl rfl fl4 ((ht_vp.extS hx1).2 x (by omega)) (by rw [hsq x (by omega)]; omega) (by show some (Value.bool (gt (gt p x) y)) = _; rw [c7]) rfl <| lx_move (.bool true) rfl rfl <| lx_ldB (vp) rfl rfl fl29 hbk1 rfl rfl <| lx_move (.int .i64 ((y : Nat) : Int)) rfl rfl <| lx_ix (i := y) rfl eT29 hr_vp rfl rfl (by omega) <| lx_ld (i := y) (j := 0) ((gt hs y).v) rfl rfl fl70 (hr_vp.extS hx1) (by omega) rfl rfl <| lx_move (.int .i64 ((z : Nat) : Int)) rfl rfl <| lx_ix (i := z) rfl eT70 (ht_vp.2 y (by omega)) rfl rfl (by rw [hsq y (by omega)]; omega) <| lx_ld (i := z) (j := 0) (.bool (gt (gt p y) z)) rfl rfl fl4 ((ht_vp.extS hx1).2 y (by omega)) (by rw [hsq y (by omega)]; omega) rfl rfl <| lx_pick true (.bool (gt (gt p y) z)) rfl rfl rfl <| lx_move (.bool (gt (gt p y) z)) rfl rfl <| ?_
                    cases c14 : (gt (gt p y) z)
                    · refine lx_skip rfl <| lx_skip rfl <| lx_skip rfl <| lx_skip rfl <| lx_skip rfl <| lx_skip rfl <| lx_skip rfl <| lx_skip rfl <| lx_pick false (.bool false) rfl rfl rfl <| lx_nil <| wi_false rfl <| wi_skip <| wi_inBlock <| wi_reg rfl <| lx_add (((z + 1 : Nat) : Int)) rfl rfl rfl (by omega) (by omega) (by omega) <| lx_move (.int .i64 ((z + 1 : Nat) : Int)) rfl rfl <| lx_nil <| ?_
                      -- L4.1
                      refine IH4 _ _ (z + 1) (agree_ups rfl agree_self) ⟨rfl, trivial⟩ ⟨rfl, ?_, ?_⟩ ?_
                      · try dsimp only
                        omega
                      · try dsimp only
                        intro c hc h1 h2
                        by_cases e : c = z
                        · subst e; first | assumption | exact nbf (by assumption) | exact absurd h1 (ntb (by first | assumption | exact nbt (by assumption))) | exact absurd h2 (ntb (by first | assumption | exact nbt (by assumption)))
                        · exact hC c (by omega) h1 h2
                      · first | omega | (dsimp only; omega)
                    · refine lx_ldB (vp) rfl rfl fl29 hbk1 rfl rfl <| lx_move (.int .i64 ((x : Nat) : Int)) rfl rfl <| lx_ix (i := x) rfl eT29 hr_vp rfl rfl (by omega) <| lx_ld (i := x) (j := 0) ((gt hs x).v) rfl rfl fl70 (hr_vp.extS hx1) (by omega) rfl rfl <| lx_move (.int .i64 ((z : Nat) : Int)) rfl rfl <| lx_ix (i := z) rfl eT70 (ht_vp.2 x (by omega)) rfl rfl (by rw [hsq x (by omega)]; omega) <| lx_ld (i := z) (j := 0) (.bool (gt (gt p x) z)) rfl rfl fl4 ((ht_vp.extS hx1).2 x (by omega)) (by rw [hsq x (by omega)]; omega) rfl rfl <| lx_not rfl rfl <| lx_pick true (.bool (!(gt (gt p x) z))) rfl rfl rfl <| lx_nil <| wi_condS (t := !(gt (gt p x) z)) rfl (fun c15 => ?_) (fun c15 => ?_)
                      · refine wi_seq <| wi_reg rfl <| lx_assign (.int .i64 90) rfl rfl <| lx_nil <| ?_
                        -- R7
                        refine wi_ret ⟨.int .i64 90, (res_one rfl rfl), ⟨?_, hx1⟩⟩
                        · first
                          | (rw [chkT_size (by omega)]; done)
                          | rw [chkT_bad (bad_ok (x := x) (y := y) (by omega) (by omega) (by first | exact bad_tri (z := z) (by omega) (by first | assumption | exact nbf (by assumption) | exact nbt (by assumption)) (by first | assumption | exact nbf (by assumption) | exact nbt (by assumption)) (by first | assumption | exact nbf (by assumption) | exact nbt (by assumption)) | exact bad_refl (by omega) (by first | assumption | exact nbf (by assumption) | exact nbt (by assumption)) | exact bad_anti (by omega) (by first | assumption | exact nbf (by assumption) | exact nbt (by assumption)) (by first | assumption | exact nbf (by assumption) | exact nbt (by assumption))))]
                          | (have h9 : isT p = false := by
                               unfold isT; rw [show sqB p = false from by simpa using ‹(!sqB p) = true›]; rfl
                             rw [chkT_bad h9])
                          | (have h9 : isT p = true := isT_iff.2 ⟨hsQ, fun a b ha hb => hA a (by omega) b hb⟩
                             rw [ok_chkT (by omega) (by omega) h9])
                      · refine wi_skip <| wi_inBlock <| wi_reg rfl <| lx_add (((z + 1 : Nat) : Int)) rfl rfl rfl (by omega) (by omega) (by omega) <| lx_move (.int .i64 ((z + 1 : Nat) : Int)) rfl rfl <| lx_nil <| ?_
                        -- L4.2
                        refine IH4 _ _ (z + 1) (agree_ups rfl agree_self) ⟨rfl, trivial⟩ ⟨rfl, ?_, ?_⟩ ?_
                        · try dsimp only
                          omega
                        · try dsimp only
                          intro c hc h1 h2
                          by_cases e : c = z
                          · subst e; first | assumption | exact nbf (by assumption) | exact absurd h1 (ntb (by first | assumption | exact nbt (by assumption))) | exact absurd h2 (ntb (by first | assumption | exact nbt (by assumption)))
                          · exact hC c (by omega) h1 h2
                        · first | omega | (dsimp only; omega)
                  · refine lx_nil <| wi_seq <| wi_false rfl <| wi_exit rfl <| wi_inBlock <| wi_reg rfl <| lx_add (((y + 1 : Nat) : Int)) rfl rfl rfl (by omega) (by omega) (by omega) <| lx_move (.int .i64 ((y + 1 : Nat) : Int)) rfl rfl <| lx_nil <| ?_
                    -- L2.2
                    refine IH2 _ _ (y + 1) (agree_ups rfl (agree_mix (rngB_sub (by decide) (by decide) rfl) (agree_ups rfl agree_self))) ⟨rfl, trivial⟩ ⟨rfl, ?_, ?_⟩ ?_
                    · try dsimp only
                      omega
                    · try dsimp only
                      intro b hb
                      by_cases e : b = y
                      · subst e; exact ⟨fun e => (by first | assumption | exact nbf (by assumption) | (exfalso; omega)), fun h1 h2 => (by first | (exfalso; omega) | assumption | exact nbt (by assumption) | exact absurd h2 (ntb (by assumption))), fun c hc h1 h2 => hC c (by omega) h1 h2⟩
                      · exact hB b (by omega)
                    · first | omega | (dsimp only; omega)
            · refine lx_move (.bool false) rfl rfl <| lx_skip rfl <| lx_skip rfl <| lx_skip rfl <| lx_skip rfl <| lx_skip rfl <| lx_skip rfl <| lx_skip rfl <| lx_skip rfl <| lx_pick false (.bool false) rfl rfl rfl <| lx_move (.bool false) rfl rfl <| lx_move (.int .i64 ((x : Nat) : Int)) rfl rfl <| lx_move (.int .i64 ((y : Nat) : Int)) rfl rfl <| lx_neqS rfl rfl rfl (fun c16 => ?_) (fun c16 => ?_)
              · refine lx_move (.bool true) rfl rfl <| lx_ldB (vp) rfl rfl fl29 hbk1 rfl rfl <| lx_move (.int .i64 ((x : Nat) : Int)) rfl rfl <| lx_ix (i := x) rfl eT29 hr_vp rfl rfl (by omega) <| lx_ld (i := x) (j := 0) ((gt hs x).v) rfl rfl fl70 (hr_vp.extS hx1) (by omega) rfl rfl <| lx_move (.int .i64 ((y : Nat) : Int)) rfl rfl <| lx_ix (i := y) rfl eT70 (ht_vp.2 x (by omega)) rfl rfl (by rw [hsq x (by omega)]; omega) <| lx_ld (i := y) (j := 0) (.bool (gt (gt p x) y)) rfl rfl fl4 ((ht_vp.extS hx1).2 x (by omega)) (by rw [hsq x (by omega)]; omega) rfl rfl <| lx_pick true (.bool (gt (gt p x) y)) rfl rfl rfl <| lx_move (.bool (gt (gt p x) y)) rfl rfl <| ?_
                cases c17 : (gt (gt p x) y)
                · refine lx_skip rfl <| lx_skip rfl <| lx_skip rfl <| lx_skip rfl <| lx_skip rfl <| lx_skip rfl <| lx_skip rfl <| lx_pick false (.bool false) rfl rfl rfl <| lx_pick false (.bool false) rfl rfl rfl <| lx_nil <| wi_false rfl <| wi_skip <| wi_seq <| wi_reg rfl <| lx_ldB (vp) rfl rfl fl29 hbk1 rfl rfl <| lx_len rfl Try.underlying29 hr_vp rfl <| lx_move (.int .i64 0) rfl rfl <| lx_nil <| wi_block <| ?_
                  refine wi_loop (σ := Nat) (rngB 67 97 [2, 5]) (fun (z : Nat) => [(67, .int .i64 ((z : Nat) : Int))]) (fun (z : Nat) (hh : Heap) => h1 = hh ∧ (z ≤ p.length) ∧ (∀ c, c < z → pb p x y = true → pb p y c = true → pb p x c = true)) (fun (z : Nat) => p.length - z) 0 ⟨rfl, trivial⟩ ⟨rfl, ?_, ?_⟩ ?_
                  · try dsimp only
                    omega
                  · try dsimp only
                    intro c hc; omega
                  rintro g5 z hh5 ⟨rfl, hz, hC⟩ IH5
                  refine wi_seq <| wi_reg rfl <| lx_lssS rfl rfl rfl (fun c18 => ?_) (fun c18 => ?_)
                  · refine lx_nil <| wi_seq <| wi_true rfl <| wi_skip <| wi_seq <| wi_block <| wi_seq <| wi_reg rfl <| lx_move (.int .i64 ((z : Nat) : Int)) rfl rfl <| lx_assign (.int .i64 ((z : Nat) : Int)) rfl rfl <| lx_nil <| wi_seq <| wi_reg rfl <| lx_ldB (vp) rfl rfl fl29 hbk1 rfl rfl <| lx_move (.int .i64 ((x : Nat) : Int)) rfl rfl <| lx_ix (i := x) rfl eT29 hr_vp rfl rfl (by omega) <| lx_ld (i := x) (j := 0) ((gt hs x).v) rfl rfl fl70 (hr_vp.extS hx1) (by omega) rfl rfl <| lx_move (.int .i64 ((y : Nat) : Int)) rfl rfl <| lx_ix (i := y) rfl eT70 (ht_vp.2 x (by omega)) rfl rfl (by rw [hsq x (by omega)]; omega) <| lx_ld (i := y) (j := 0) (.bool false) rfl rfl fl4 ((ht_vp.extS hx1).2 x (by omega)) (by rw [hsq x (by omega)]; omega) (by show some (Value.bool (gt (gt p x) y)) = _; rw [c17]) rfl <| lx_move (.bool false) rfl rfl <| lx_skip rfl <| lx_skip rfl <| lx_skip rfl <| lx_skip rfl <| lx_skip rfl <| lx_skip rfl <| lx_skip rfl <| lx_pick false (.bool false) rfl rfl rfl <| lx_move (.bool false) rfl rfl <| lx_skip rfl <| lx_skip rfl <| lx_skip rfl <| lx_skip rfl <| lx_skip rfl <| lx_skip rfl <| lx_skip rfl <| lx_skip rfl <| lx_pick false (.bool false) rfl rfl rfl <| lx_nil <| wi_false rfl <| wi_skip <| wi_inBlock <| wi_reg rfl <| lx_add (((z + 1 : Nat) : Int)) rfl rfl rfl (by omega) (by omega) (by omega) <| lx_move (.int .i64 ((z + 1 : Nat) : Int)) rfl rfl <| lx_nil <| ?_
                    -- L4.1
                    refine IH5 _ _ (z + 1) (agree_ups rfl agree_self) ⟨rfl, trivial⟩ ⟨rfl, ?_, ?_⟩ ?_
                    · try dsimp only
                      omega
                    · try dsimp only
                      intro c hc h1 h2
                      by_cases e : c = z
                      · subst e; first | assumption | exact nbf (by assumption) | exact absurd h1 (ntb (by first | assumption | exact nbt (by assumption))) | exact absurd h2 (ntb (by first | assumption | exact nbt (by assumption)))
                      · exact hC c (by omega) h1 h2
                    · first | omega | (dsimp only; omega)
                  · refine lx_nil <| wi_seq <| wi_false rfl <| wi_exit rfl <| wi_inBlock <| wi_reg rfl <| lx_add (((y + 1 : Nat) : Int)) rfl rfl rfl (by omega) (by omega) (by omega) <| lx_move (.int .i64 ((y + 1 : Nat) : Int)) rfl rfl <| lx_nil <| ?_
                    -- L2.3
                    refine IH2 _ _ (y + 1) (agree_ups rfl (agree_mix (rngB_sub (by decide) (by decide) rfl) (agree_ups rfl agree_self))) ⟨rfl, trivial⟩ ⟨rfl, ?_, ?_⟩ ?_
                    · try dsimp only
                      omega
                    · try dsimp only
                      intro b hb
                      by_cases e : b = y
                      · subst e; exact ⟨fun e => (by first | assumption | exact nbf (by assumption) | (exfalso; omega)), fun h1 h2 => (by first | (exfalso; omega) | assumption | exact nbt (by assumption) | exact absurd h2 (ntb (by assumption))), fun c hc h1 h2 => hC c (by omega) h1 h2⟩
                      · exact hB b (by omega)
                    · first | omega | (dsimp only; omega)
                · refine lx_ldB (vp) rfl rfl fl29 hbk1 rfl rfl <| lx_move (.int .i64 ((y : Nat) : Int)) rfl rfl <| lx_ix (i := y) rfl eT29 hr_vp rfl rfl (by omega) <| lx_ld (i := y) (j := 0) ((gt hs y).v) rfl rfl fl70 (hr_vp.extS hx1) (by omega) rfl rfl <| lx_move (.int .i64 ((x : Nat) : Int)) rfl rfl <| lx_ix (i := x) rfl eT70 (ht_vp.2 y (by omega)) rfl rfl (by rw [hsq y (by omega)]; omega) <| lx_ld (i := x) (j := 0) (.bool (gt (gt p y) x)) rfl rfl fl4 ((ht_vp.extS hx1).2 y (by omega)) (by rw [hsq y (by omega)]; omega) rfl rfl <| lx_pick true (.bool (gt (gt p y) x)) rfl rfl rfl <| lx_pick false (.bool (gt (gt p y) x)) rfl rfl rfl <| lx_nil <| wi_condS (t := gt (gt p y) x) rfl (fun c19 => ?_) (fun c19 => ?_)
                  · refine wi_seq <| wi_reg rfl <| lx_assign (.int .i64 90) rfl rfl <| lx_nil <| ?_
                    -- R8
                    refine wi_ret ⟨.int .i64 90, (res_one rfl rfl), ⟨?_, hx1⟩⟩
                    · first
                      | (rw [chkT_size (by omega)]; done)
                      | rw [chkT_bad (bad_ok (x := x) (y := y) (by omega) (by omega) (by first | exact bad_tri (z := z) (by omega) (by first | assumption | exact nbf (by assumption) | exact nbt (by assumption)) (by first | assumption | exact nbf (by assumption) | exact nbt (by assumption)) (by first | assumption | exact nbf (by assumption) | exact nbt (by assumption)) | exact bad_refl (by omega) (by first | assumption | exact nbf (by assumption) | exact nbt (by assumption)) | exact bad_anti (by omega) (by first | assumption | exact nbf (by assumption) | exact nbt (by assumption)) (by first | assumption | exact nbf (by assumption) | exact nbt (by assumption))))]
                      | (have h9 : isT p = false := by
                           unfold isT; rw [show sqB p = false from by simpa using ‹(!sqB p) = true›]; rfl
                         rw [chkT_bad h9])
                      | (have h9 : isT p = true := isT_iff.2 ⟨hsQ, fun a b ha hb => hA a (by omega) b hb⟩
                         rw [ok_chkT (by omega) (by omega) h9])
                  · refine wi_skip <| wi_seq <| wi_reg rfl <| lx_ldB (vp) rfl rfl fl29 hbk1 rfl rfl <| lx_len rfl Try.underlying29 hr_vp rfl <| lx_move (.int .i64 0) rfl rfl <| lx_nil <| wi_block <| ?_
                    refine wi_loop (σ := Nat) (rngB 67 97 [2, 5]) (fun (z : Nat) => [(67, .int .i64 ((z : Nat) : Int))]) (fun (z : Nat) (hh : Heap) => h1 = hh ∧ (z ≤ p.length) ∧ (∀ c, c < z → pb p x y = true → pb p y c = true → pb p x c = true)) (fun (z : Nat) => p.length - z) 0 ⟨rfl, trivial⟩ ⟨rfl, ?_, ?_⟩ ?_
                    · try dsimp only
                      omega
                    · try dsimp only
                      intro c hc; omega
                    rintro g6 z hh6 ⟨rfl, hz, hC⟩ IH6
                    refine wi_seq <| wi_reg rfl <| lx_lssS rfl rfl rfl (fun c20 => ?_) (fun c20 => ?_)
                    · refine lx_nil <| wi_seq <| wi_true rfl <| wi_skip <| wi_seq <| wi_block <| wi_seq <| wi_reg rfl <| lx_move (.int .i64 ((z : Nat) : Int)) rfl rfl <| lx_assign (.int .i64 ((z : Nat) : Int)) rfl rfl <| lx_nil <| wi_seq <| wi_reg rfl <| lx_ldB (vp) rfl rfl fl29 hbk1 rfl rfl <| lx_move (.int .i64 ((x : Nat) : Int)) rfl rfl <| lx_ix (i := x) rfl eT29 hr_vp rfl rfl (by omega) <| lx_ld (i := x) (j := 0) ((gt hs x).v) rfl rfl fl70 (hr_vp.extS hx1) (by omega) rfl rfl <| lx_move (.int .i64 ((y : Nat) : Int)) rfl rfl <| lx_ix (i := y) rfl eT70 (ht_vp.2 x (by omega)) rfl rfl (by rw [hsq x (by omega)]; omega) <| lx_ld (i := y) (j := 0) (.bool true) rfl rfl fl4 ((ht_vp.extS hx1).2 x (by omega)) (by rw [hsq x (by omega)]; omega) (by show some (Value.bool (gt (gt p x) y)) = _; rw [c17]) rfl <| lx_move (.bool true) rfl rfl <| lx_ldB (vp) rfl rfl fl29 hbk1 rfl rfl <| lx_move (.int .i64 ((y : Nat) : Int)) rfl rfl <| lx_ix (i := y) rfl eT29 hr_vp rfl rfl (by omega) <| lx_ld (i := y) (j := 0) ((gt hs y).v) rfl rfl fl70 (hr_vp.extS hx1) (by omega) rfl rfl <| lx_move (.int .i64 ((z : Nat) : Int)) rfl rfl <| lx_ix (i := z) rfl eT70 (ht_vp.2 y (by omega)) rfl rfl (by rw [hsq y (by omega)]; omega) <| lx_ld (i := z) (j := 0) (.bool (gt (gt p y) z)) rfl rfl fl4 ((ht_vp.extS hx1).2 y (by omega)) (by rw [hsq y (by omega)]; omega) rfl rfl <| lx_pick true (.bool (gt (gt p y) z)) rfl rfl rfl <| lx_move (.bool (gt (gt p y) z)) rfl rfl <| ?_
                      cases c21 : (gt (gt p y) z)
                      · refine lx_skip rfl <| lx_skip rfl <| lx_skip rfl <| lx_skip rfl <| lx_skip rfl <| lx_skip rfl <| lx_skip rfl <| lx_skip rfl <| lx_pick false (.bool false) rfl rfl rfl <| lx_nil <| wi_false rfl <| wi_skip <| wi_inBlock <| wi_reg rfl <| lx_add (((z + 1 : Nat) : Int)) rfl rfl rfl (by omega) (by omega) (by omega) <| lx_move (.int .i64 ((z + 1 : Nat) : Int)) rfl rfl <| lx_nil <| ?_
                        -- L4.1
                        refine IH6 _ _ (z + 1) (agree_ups rfl agree_self) ⟨rfl, trivial⟩ ⟨rfl, ?_, ?_⟩ ?_
                        · try dsimp only
                          omega
                        · try dsimp only
                          intro c hc h1 h2
                          by_cases e : c = z
                          · subst e; first | assumption | exact nbf (by assumption) | exact absurd h1 (ntb (by first | assumption | exact nbt (by assumption))) | exact absurd h2 (ntb (by first | assumption | exact nbt (by assumption)))
                          · exact hC c (by omega) h1 h2
                        · first | omega | (dsimp only; omega)
                      · refine lx_ldB (vp) rfl rfl fl29 hbk1 rfl rfl <| lx_move (.int .i64 ((x : Nat) : Int)) rfl rfl <| lx_ix (i := x) rfl eT29 hr_vp rfl rfl (by omega) <| lx_ld (i := x) (j := 0) ((gt hs x).v) rfl rfl fl70 (hr_vp.extS hx1) (by omega) rfl rfl <| lx_move (.int .i64 ((z : Nat) : Int)) rfl rfl <| lx_ix (i := z) rfl eT70 (ht_vp.2 x (by omega)) rfl rfl (by rw [hsq x (by omega)]; omega) <| lx_ld (i := z) (j := 0) (.bool (gt (gt p x) z)) rfl rfl fl4 ((ht_vp.extS hx1).2 x (by omega)) (by rw [hsq x (by omega)]; omega) rfl rfl <| lx_not rfl rfl <| lx_pick true (.bool (!(gt (gt p x) z))) rfl rfl rfl <| lx_nil <| wi_condS (t := !(gt (gt p x) z)) rfl (fun c22 => ?_) (fun c22 => ?_)
                        · refine wi_seq <| wi_reg rfl <| lx_assign (.int .i64 90) rfl rfl <| lx_nil <| ?_
                          -- R9
                          refine wi_ret ⟨.int .i64 90, (res_one rfl rfl), ⟨?_, hx1⟩⟩
                          · first
                            | (rw [chkT_size (by omega)]; done)
                            | rw [chkT_bad (bad_ok (x := x) (y := y) (by omega) (by omega) (by first | exact bad_tri (z := z) (by omega) (by first | assumption | exact nbf (by assumption) | exact nbt (by assumption)) (by first | assumption | exact nbf (by assumption) | exact nbt (by assumption)) (by first | assumption | exact nbf (by assumption) | exact nbt (by assumption)) | exact bad_refl (by omega) (by first | assumption | exact nbf (by assumption) | exact nbt (by assumption)) | exact bad_anti (by omega) (by first | assumption | exact nbf (by assumption) | exact nbt (by assumption)) (by first | assumption | exact nbf (by assumption) | exact nbt (by assumption))))]
                            | (have h9 : isT p = false := by
                                 unfold isT; rw [show sqB p = false from by simpa using ‹(!sqB p) = true›]; rfl
                               rw [chkT_bad h9])
                            | (have h9 : isT p = true := isT_iff.2 ⟨hsQ, fun a b ha hb => hA a (by omega) b hb⟩
                               rw [ok_chkT (by omega) (by omega) h9])
                        · refine wi_skip <| wi_inBlock <| wi_reg rfl <| lx_add (((z + 1 : Nat) : Int)) rfl rfl rfl (by omega) (by omega) (by omega) <| lx_move (.int .i64 ((z + 1 : Nat) : Int)) rfl rfl <| lx_nil <| ?_
                          -- L4.2
                          refine IH6 _ _ (z + 1) (agree_ups rfl agree_self) ⟨rfl, trivial⟩ ⟨rfl, ?_, ?_⟩ ?_
                          · try dsimp only
                            omega
                          · try dsimp only
                            intro c hc h1 h2
                            by_cases e : c = z
                            · subst e; first | assumption | exact nbf (by assumption) | exact absurd h1 (ntb (by first | assumption | exact nbt (by assumption))) | exact absurd h2 (ntb (by first | assumption | exact nbt (by assumption)))
                            · exact hC c (by omega) h1 h2
                          · first | omega | (dsimp only; omega)
                    · refine lx_nil <| wi_seq <| wi_false rfl <| wi_exit rfl <| wi_inBlock <| wi_reg rfl <| lx_add (((y + 1 : Nat) : Int)) rfl rfl rfl (by omega) (by omega) (by omega) <| lx_move (.int .i64 ((y + 1 : Nat) : Int)) rfl rfl <| lx_nil <| ?_
                      -- L2.4
                      refine IH2 _ _ (y + 1) (agree_ups rfl (agree_mix (rngB_sub (by decide) (by decide) rfl) (agree_ups rfl agree_self))) ⟨rfl, trivial⟩ ⟨rfl, ?_, ?_⟩ ?_
                      · try dsimp only
                        omega
                      · try dsimp only
                        intro b hb
                        by_cases e : b = y
                        · subst e; exact ⟨fun e => (by first | assumption | exact nbf (by assumption) | (exfalso; omega)), fun h1 h2 => (by first | (exfalso; omega) | assumption | exact nbt (by assumption) | exact absurd h2 (ntb (by assumption))), fun c hc h1 h2 => hC c (by omega) h1 h2⟩
                        · exact hB b (by omega)
                      · first | omega | (dsimp only; omega)
              · refine lx_move (.bool false) rfl rfl <| lx_skip rfl <| lx_skip rfl <| lx_skip rfl <| lx_skip rfl <| lx_skip rfl <| lx_skip rfl <| lx_skip rfl <| lx_pick false (.bool false) rfl rfl rfl <| lx_move (.bool false) rfl rfl <| lx_skip rfl <| lx_skip rfl <| lx_skip rfl <| lx_skip rfl <| lx_skip rfl <| lx_skip rfl <| lx_skip rfl <| lx_pick false (.bool false) rfl rfl rfl <| lx_pick false (.bool false) rfl rfl rfl <| lx_nil <| wi_false rfl <| wi_skip <| wi_seq <| wi_reg rfl <| lx_ldB (vp) rfl rfl fl29 hbk1 rfl rfl <| lx_len rfl Try.underlying29 hr_vp rfl <| lx_move (.int .i64 0) rfl rfl <| lx_nil <| wi_block <| ?_
                refine wi_loop (σ := Nat) (rngB 67 97 [2, 5]) (fun (z : Nat) => [(67, .int .i64 ((z : Nat) : Int))]) (fun (z : Nat) (hh : Heap) => h1 = hh ∧ (z ≤ p.length) ∧ (∀ c, c < z → pb p x y = true → pb p y c = true → pb p x c = true)) (fun (z : Nat) => p.length - z) 0 ⟨rfl, trivial⟩ ⟨rfl, ?_, ?_⟩ ?_
                · try dsimp only
                  omega
                · try dsimp only
                  intro c hc; omega
                rintro g7 z hh7 ⟨rfl, hz, hC⟩ IH7
                refine wi_seq <| wi_reg rfl <| lx_lssS rfl rfl rfl (fun c23 => ?_) (fun c23 => ?_)
                · refine lx_nil <| wi_seq <| wi_true rfl <| wi_skip <| wi_seq <| wi_block <| wi_seq <| wi_reg rfl <| lx_move (.int .i64 ((z : Nat) : Int)) rfl rfl <| lx_assign (.int .i64 ((z : Nat) : Int)) rfl rfl <| lx_nil <| wi_seq <| wi_reg rfl <| lx_ldB (vp) rfl rfl fl29 hbk1 rfl rfl <| lx_move (.int .i64 ((x : Nat) : Int)) rfl rfl <| lx_ix (i := x) rfl eT29 hr_vp rfl rfl (by omega) <| lx_ld (i := x) (j := 0) ((gt hs x).v) rfl rfl fl70 (hr_vp.extS hx1) (by omega) rfl rfl <| lx_move (.int .i64 ((y : Nat) : Int)) rfl rfl <| lx_ix (i := y) rfl eT70 (ht_vp.2 x (by omega)) rfl rfl (by rw [hsq x (by omega)]; omega) <| lx_ld (i := y) (j := 0) (.bool (gt (gt p x) y)) rfl rfl fl4 ((ht_vp.extS hx1).2 x (by omega)) (by rw [hsq x (by omega)]; omega) rfl rfl <| lx_move (.bool (gt (gt p x) y)) rfl rfl <| ?_
                  cases c24 : (gt (gt p x) y)
                  · refine lx_skip rfl <| lx_skip rfl <| lx_skip rfl <| lx_skip rfl <| lx_skip rfl <| lx_skip rfl <| lx_skip rfl <| lx_pick false (.bool false) rfl rfl rfl <| lx_move (.bool false) rfl rfl <| lx_skip rfl <| lx_skip rfl <| lx_skip rfl <| lx_skip rfl <| lx_skip rfl <| lx_skip rfl <| lx_skip rfl <| lx_skip rfl <| lx_pick false (.bool false) rfl rfl rfl <| lx_nil <| wi_false rfl <| wi_skip <| wi_inBlock <| wi_reg rfl <| lx_add (((z + 1 : Nat) : Int)) rfl rfl rfl (by omega) (by omega) (by omega) <| lx_move (.int .i64 ((z + 1 : Nat) : Int)) rfl rfl <| lx_nil <| ?_
                    -- L4.1
                    refine IH7 _ _ (z + 1) (agree_ups rfl agree_self) ⟨rfl, trivial⟩ ⟨rfl, ?_, ?_⟩ ?_
                    · try dsimp only
                      omega
                    · try dsimp only
                      intro c hc h1 h2
                      by_cases e : c = z
                      · subst e; first | assumption | exact nbf (by assumption) | exact absurd h1 (ntb (by first | assumption | exact nbt (by assumption))) | exact absurd h2 (ntb (by first | assumption | exact nbt (by assumption)))
                      · exact hC c (by omega) h1 h2
                    · first | omega | (dsimp only; omega)
                  · refine lx_ldB (vp) rfl rfl fl29 hbk1 rfl rfl <| lx_move (.int .i64 ((y : Nat) : Int)) rfl rfl <| lx_ix (i := y) rfl eT29 hr_vp rfl rfl (by omega) <| lx_ld (i := y) (j := 0) ((gt hs y).v) rfl rfl fl70 (hr_vp.extS hx1) (by omega) rfl rfl <| lx_move (.int .i64 ((z : Nat) : Int)) rfl rfl <| lx_ix (i := z) rfl eT70 (ht_vp.2 y (by omega)) rfl rfl (by rw [hsq y (by omega)]; omega) <| lx_ld (i := z) (j := 0) (.bool (gt (gt p y) z)) rfl rfl fl4 ((ht_vp.extS hx1).2 y (by omega)) (by rw [hsq y (by omega)]; omega) rfl rfl <| lx_pick true (.bool (gt (gt p y) z)) rfl rfl rfl <| lx_move (.bool (gt (gt p y) z)) rfl rfl <| ?_
                    cases c25 : (gt (gt p y) z)
                    · refine lx_skip rfl <| lx_skip rfl <| lx_skip rfl <| lx_skip rfl <| lx_skip rfl <| lx_skip rfl <| lx_skip rfl <| lx_skip rfl <| lx_pick false (.bool false) rfl rfl rfl <| lx_nil <| wi_false rfl <| wi_skip <| wi_inBlock <| wi_reg rfl <| lx_add (((z + 1 : Nat) : Int)) rfl rfl rfl (by omega) (by omega) (by omega) <| lx_move (.int .i64 ((z + 1 : Nat) : Int)) rfl rfl <| lx_nil <| ?_
                      -- L4.2
                      refine IH7 _ _ (z + 1) (agree_ups rfl agree_self) ⟨rfl, trivial⟩ ⟨rfl, ?_, ?_⟩ ?_
                      · try dsimp only
                        omega
                      · try dsimp only
                        intro c hc h1 h2
                        by_cases e : c = z
                        · subst e; first | assumption | exact nbf (by assumption) | exact absurd h1 (ntb (by first | assumption | exact nbt (by assumption))) | exact absurd h2 (ntb (by first | assumption | exact nbt (by assumption)))
                        · exact hC c (by omega) h1 h2
                      · first | omega | (dsimp only; omega)
                    · refine lx_ldB (vp) rfl rfl fl29 hbk1 rfl rfl <| lx_move (.int .i64 ((x : Nat) : Int)) rfl rfl <| lx_ix (i := x) rfl eT29 hr_vp rfl rfl (by omega) <| lx_ld (i := x) (j := 0) ((gt hs x).v) rfl rfl fl70 (hr_vp.extS hx1) (by omega) rfl rfl <| lx_move (.int .i64 ((z : Nat) : Int)) rfl rfl <| lx_ix (i := z) rfl eT70 (ht_vp.2 x (by omega)) rfl rfl (by rw [hsq x (by omega)]; omega) <| lx_ld (i := z) (j := 0) (.bool (gt (gt p x) z)) rfl rfl fl4 ((ht_vp.extS hx1).2 x (by omega)) (by rw [hsq x (by omega)]; omega) rfl rfl <| lx_not rfl rfl <| lx_pick true (.bool (!(gt (gt p x) z))) rfl rfl rfl <| lx_nil <| wi_condS (t := !(gt (gt p x) z)) rfl (fun c26 => ?_) (fun c26 => ?_)
                      · refine wi_seq <| wi_reg rfl <| lx_assign (.int .i64 90) rfl rfl <| lx_nil <| ?_
                        -- R10
                        refine wi_ret ⟨.int .i64 90, (res_one rfl rfl), ⟨?_, hx1⟩⟩
                        · first
                          | (rw [chkT_size (by omega)]; done)
                          | rw [chkT_bad (bad_ok (x := x) (y := y) (by omega) (by omega) (by first | exact bad_tri (z := z) (by omega) (by first | assumption | exact nbf (by assumption) | exact nbt (by assumption)) (by first | assumption | exact nbf (by assumption) | exact nbt (by assumption)) (by first | assumption | exact nbf (by assumption) | exact nbt (by assumption)) | exact bad_refl (by omega) (by first | assumption | exact nbf (by assumption) | exact nbt (by assumption)) | exact bad_anti (by omega) (by first | assumption | exact nbf (by assumption) | exact nbt (by assumption)) (by first | assumption | exact nbf (by assumption) | exact nbt (by assumption))))]
                          | (have h9 : isT p = false := by
                               unfold isT; rw [show sqB p = false from by simpa using ‹(!sqB p) = true›]; rfl
                             rw [chkT_bad h9])
                          | (have h9 : isT p = true := isT_iff.2 ⟨hsQ, fun a b ha hb => hA a (by omega) b hb⟩
                             rw [ok_chkT (by omega) (by omega) h9])
                      · refine wi_skip <| wi_inBlock <| wi_reg rfl <| lx_add (((z + 1 : Nat) : Int)) rfl rfl rfl (by omega) (by omega) (by omega) <| lx_move (.int .i64 ((z + 1 : Nat) : Int)) rfl rfl <| lx_nil <| ?_
                        -- L4.3
                        refine IH7 _ _ (z + 1) (agree_ups rfl agree_self) ⟨rfl, trivial⟩ ⟨rfl, ?_, ?_⟩ ?_
                        · try dsimp only
                          omega
                        · try dsimp only
                          intro c hc h1 h2
                          by_cases e : c = z
                          · subst e; first | assumption | exact nbf (by assumption) | exact absurd h1 (ntb (by first | assumption | exact nbt (by assumption))) | exact absurd h2 (ntb (by first | assumption | exact nbt (by assumption)))
                          · exact hC c (by omega) h1 h2
                        · first | omega | (dsimp only; omega)
                · refine lx_nil <| wi_seq <| wi_false rfl <| wi_exit rfl <| wi_inBlock <| wi_reg rfl <| lx_add (((y + 1 : Nat) : Int)) rfl rfl rfl (by omega) (by omega) (by omega) <| lx_move (.int .i64 ((y + 1 : Nat) : Int)) rfl rfl <| lx_nil <| ?_
                  -- L2.5
                  refine IH2 _ _ (y + 1) (agree_ups rfl (agree_mix (rngB_sub (by decide) (by decide) rfl) (agree_ups rfl agree_self))) ⟨rfl, trivial⟩ ⟨rfl, ?_, ?_⟩ ?_
                  · try dsimp only
                    omega
                  · try dsimp only
                    intro b hb
                    by_cases e : b = y
                    · subst e; exact ⟨fun e => (by first | assumption | exact nbf (by assumption) | (exfalso; omega)), fun h1 h2 => (by first | (exfalso; omega) | assumption | exact nbt (by assumption) | exact absurd h2 (ntb (by assumption))), fun c hc h1 h2 => hC c (by omega) h1 h2⟩
                    · exact hB b (by omega)
                  · first | omega | (dsimp only; omega)
          · refine lx_nil <| wi_seq <| wi_false rfl <| wi_exit rfl <| wi_inBlock <| wi_reg rfl <| lx_add (((x + 1 : Nat) : Int)) rfl rfl rfl (by omega) (by omega) (by omega) <| lx_move (.int .i64 ((x + 1 : Nat) : Int)) rfl rfl <| lx_nil <| ?_
            -- L0.1
            refine IH1 _ _ (x + 1) (agree_ups rfl (agree_mix (rngB_sub (by decide) (by decide) rfl) (agree_ups rfl agree_self))) ⟨rfl, trivial⟩ ⟨rfl, ?_, ?_⟩ ?_
            · try dsimp only
              omega
            · try dsimp only
              intro a ha b hb
              by_cases e : a = x
              · subst e; exact hB b (by omega)
              · exact hA a (by omega) b hb
            · first | omega | (dsimp only; omega)
        · refine lx_nil <| wi_seq <| wi_false rfl <| wi_exit rfl <| wi_seq <| wi_reg rfl <| lx_assign (.int .i64 0) rfl rfl <| lx_nil <| ?_
          -- R11
          refine wi_ret ⟨.int .i64 0, (res_one rfl rfl), ⟨?_, hx1⟩⟩
          · first
            | (rw [chkT_size (by omega)]; done)
            | rw [chkT_bad (bad_ok (x := x) (y := y) (by omega) (by omega) (by first | exact bad_tri (z := z) (by omega) (by first | assumption | exact nbf (by assumption) | exact nbt (by assumption)) (by first | assumption | exact nbf (by assumption) | exact nbt (by assumption)) (by first | assumption | exact nbf (by assumption) | exact nbt (by assumption)) | exact bad_refl (by omega) (by first | assumption | exact nbf (by assumption) | exact nbt (by assumption)) | exact bad_anti (by omega) (by first | assumption | exact nbf (by assumption) | exact nbt (by assumption)) (by first | assumption | exact nbf (by assumption) | exact nbt (by assumption))))]
            | (have h9 : isT p = false := by
                 unfold isT; rw [show sqB p = false from by simpa using ‹(!sqB p) = true›]; rfl
               rw [chkT_bad h9])
            | (have h9 : isT p = true := isT_iff.2 ⟨hsQ, fun a b ha hb => hA a (by omega) b hb⟩
               rw [ok_chkT (by omega) (by omega) h9])

end Go.Proofs.Ytdokijbdnajhgaa
namespace Go.Proofs.Ytdokijbdnajhgaa
open Go Go.X

set_option maxRecDepth 10000 in
theorem obare_spec (h : Heap) (n : Nat) (hp1 : n ≤ 1000000) : Fx Try.prog 115 [.int .i64 ((n : Nat) : Int)] h (fun v h' => ∃ (s : Value) (hs : List Hdr), v = s ∧ OwE encHd h' h.size 70 s hs ∧ OT encB h' h.size 4 hs (tabF n (fun x y => decide (x = y))) ∧ Ext h.size h h') := by
  refine fx_intro (n := 25) [(0, .int .i64 ((n : Nat) : Int))] Try.func115 rfl rfl (by simp) ⟨rfl, trivial⟩ fun g0 => ?_
  refine wi_seq <| wi_reg rfl <| lx_assign (.slice none 0 0) rfl rfl <| lx_nil <| wi_seq <| wi_reg rfl <| lx_move (.int .i64 ((n : Nat) : Int)) rfl rfl <| lx_make (E := encHd) (n := n) (B := h.size) (default : Hdr) rfl rfl Try.underlying29 (eZ29) rfl rfl (by omega) (by omega) (Nat.le_refl _) (fun _ _ => trivial) fun v1 h1 ho1 hx1 hvb1 => ?_
  have ho2 := ho1.base (Nat.le_refl h.size)
  have hot1 := OT.rep encB h1 h.size 4 n
  have hl_hot1 := hot1.1
  refine lx_assign (v1) rfl rfl <| lx_nil <| wi_seq <| wi_seq <| wi_reg rfl <| lx_move (v1) rfl rfl <| lx_len rfl Try.underlying29 ho2.rd rfl <| lx_move (.int .i64 0) rfl rfl <| lx_nil <| wi_block <| ?_
  refine wi_loop (σ := Nat × (List Hdr) × (List (List Bool))) (rngB 9 24 [4]) (fun (ss : Nat × (List Hdr) × (List (List Bool))) => [(9, .int .i64 ((ss.1 : Nat) : Int))]) (fun (ss : Nat × (List Hdr) × (List (List Bool))) (hh : Heap) => OwE encHd hh h.size 70 v1 ss.2.1 ∧ OT encB hh h.size 4 ss.2.1 ss.2.2 ∧ Ext h.size h hh ∧ (ss.1 ≤ n) ∧ (ss.2.2.length = n) ∧ (∀ i, i < ss.1 → gt ss.2.2 i = rowF n fun j => decide (i = j))) (fun (ss : Nat × (List Hdr) × (List (List Bool))) => n - ss.1) (0, List.replicate n default, List.replicate n []) ⟨rfl, trivial⟩ ⟨?_, ?_, hx1, ?_, ?_, ?_⟩ ?_
  · first | exact ho2 | (simpa using ho2)
  · first | exact hot1 | (simpa using hot1)
  · try dsimp only
    omega
  · try dsimp only
    simp
  · try dsimp only
    intro i hi; omega
  rintro g1 ⟨x, hs, rows⟩ hh1 ⟨ho3, hot2, hx0_1, hx, hrl, hrw⟩ IH1
  dsimp only at *
  have hrr : (List.replicate n ([] : List Bool)).length = n := by simp
  have hrr2 : (List.replicate n (default : Hdr)).length = n := by simp
  have hl_hot2 := hot2.1
  refine wi_seq <| wi_reg rfl <| lx_lssS rfl rfl rfl (fun c1 => ?_) (fun c1 => ?_)
  · refine lx_nil <| wi_seq <| wi_true rfl <| wi_skip <| wi_seq <| wi_block <| wi_seq <| wi_reg rfl <| lx_move (.int .i64 ((x : Nat) : Int)) rfl rfl <| lx_assign (.int .i64 ((x : Nat) : Int)) rfl rfl <| lx_nil <| wi_seq <| wi_reg rfl <| lx_move (v1) rfl rfl <| lx_move (.int .i64 ((x : Nat) : Int)) rfl rfl <| lx_move (.int .i64 ((n : Nat) : Int)) rfl rfl <| lx_make (E := encB) (n := n) (B := hh1.size) false rfl rfl Try.underlying70 (eZ70) rfl rfl (by omega) (by omega) (Nat.le_refl _) (fun _ _ => trivial) fun v2 h2 ho4 hx2 hvb2 => ?_
    have hx0_2 := hx0_1.trans2 hx2 hx0_1.size
    have ho5 := ho3.extS hx2
    have hot3 := hot2.extS hx2
    have ho6 := ho4.base hx0_1.size
    have hot4 : OT encB h2 h.size 4 (hs.set x (hdrOf v2)) (rows.set x (List.replicate n false)) := OT.set hot3 (by omega) ho6 (djt_ne (djt_new hot2 ho4))
    refine lx_ix (i := x) rfl eT29 ho5.rd rfl rfl (by omega) <| lx_st (i := x) (hdrOf v2) rfl rfl Try.sizeOf70 ho5 (by omega) rfl (hdr_cells ho6.rd) (fun _ _ _ _ _ => trivial) fun h3 ho7 hc1 hsz1 => ?_
    have hx0_3 := hx0_2.trans (ho5.ext hc1 hx0_2.size)
    have hot5 : OT encB h3 h.size 4 (hs.set x (hdrOf v2)) (rows.set x (List.replicate n false)) := hot4.chg hc1 (djt_ty hot4 ho5 (by decide))
    have hl_hot5 := hot5.1
    have ho7 : OwE encHd h3 h.size 70 v1 (hs.set x (hdrOf v2)) := ho7
    refine lx_nil <| wi_reg rfl <| ?_
    have hgx : (gt (rows.set x (List.replicate n false)) x).length = n := by rw [gt_set (by omega), if_pos rfl]; simp
    refine lx_move (v1) rfl rfl <| lx_move (.int .i64 ((x : Nat) : Int)) rfl rfl <| lx_ix (i := x) rfl eT29 ho7.rd rfl rfl (by first | omega | (simp only [List.length_set, List.length_append, List.length_cons, List.length_nil, List.length_replicate, List.length_take, swp_length, exch_length]; omega)) <| lx_ld (i := x) (j := 0) ((gt (hs.set x (hdrOf v2)) x).v) rfl rfl fl70 ho7.rd (by first | omega | (simp only [List.length_set, List.length_append, List.length_cons, List.length_nil, List.length_replicate, List.length_take, swp_length, exch_length]; omega)) rfl rfl <| lx_move (.int .i64 ((x : Nat) : Int)) rfl rfl <| lx_ix (i := x) rfl eT70 (hot5.2.1 x (by first | omega | (simp only [List.length_set, List.length_append, List.length_cons, List.length_nil, List.length_replicate, List.length_take, swp_length, exch_length]; omega))).rd rfl rfl (by first | omega | (simp only [List.length_set, List.length_append, List.length_cons, List.length_nil, List.length_replicate, List.length_take, swp_length, exch_length]; omega)) <| lx_st (i := x) true rfl rfl Try.sizeOf4 (hot5.2.1 x (by first | omega | (simp only [List.length_set, List.length_append, List.length_cons, List.length_nil, List.length_replicate, List.length_take, swp_length, exch_length]; omega))) (by first | omega | (simp only [List.length_set, List.length_append, List.length_cons, List.length_nil, List.length_replicate, List.length_take, swp_length, exch_length]; omega)) rfl rfl (fun _ _ _ _ _ => trivial) fun h4 ho8 hc2 hsz2 => ?_
    have hx0_4 := hx0_3.trans ((hot5.2.1 x (by first | omega | (simp only [List.length_set, List.length_append, List.length_cons, List.length_nil, List.length_replicate, List.length_take, swp_length, exch_length]; omega))).ext hc2 hx0_3.size)
    have ho9 := ho7.chg hc2 (Dj.symm ((djt_ty hot5 ho7 (by decide)) x (by rw [hot5.1]; exact (by first | omega | (simp only [List.length_set, List.length_append, List.length_cons, List.length_nil, List.length_replicate, List.length_take, swp_length, exch_length]; omega)))))
    have hot6 := OT.cell hot5 (by first | omega | (simp only [List.length_set, List.length_append, List.length_cons, List.length_nil, List.length_replicate, List.length_take, swp_length, exch_length]; omega)) hc2 ho8
    have hl_hot6 := hot6.1
    refine lx_nil <| wi_inBlock <| wi_reg rfl <| lx_add (((x + 1 : Nat) : Int)) rfl rfl rfl (by omega) (by omega) (by omega) <| lx_move (.int .i64 ((x + 1 : Nat) : Int)) rfl rfl <| lx_nil <| ?_
    -- L0.1
    refine IH1 _ _ (x + 1, hs.set x (hdrOf v2), (rows.set x (List.replicate n false)).set x ((gt (rows.set x (List.replicate n false)) x).set x true)) (agree_ups rfl agree_self) ⟨rfl, trivial⟩ ⟨?_, ?_, hx0_4, ?_, ?_, ?_⟩ ?_
    · first | exact ho9 | (simpa using ho9)
    · first | exact hot6 | (simpa using hot6)
    · try dsimp only
      omega
    · try dsimp only
      simpa using hrl
    · try dsimp only
      intro i hi
      rw [gt_set (by simpa using by omega)]
      split
      · rename_i e; subst e; rw [gt_set (by omega), if_pos rfl]; exact id_row (by omega)
      · rename_i e; rw [gt_set (by omega), if_neg e]; exact hrw i (by omega)
    · first | omega | (dsimp only; omega)
  · refine lx_nil <| wi_seq <| wi_false rfl <| wi_exit rfl <| wi_seq <| wi_reg rfl <| lx_move (v1) rfl rfl <| lx_assign (v1) rfl rfl <| lx_nil <| ?_
    -- R1
    refine wi_ret ⟨v1, (res_one rfl rfl), ⟨v1, hs, rfl, ?_, ?_, hx0_1⟩⟩
    · exact ho3
    · rw [← tab_rows hrl (fun i hi => hrw i (by omega))]; exact hot2

set_option maxRecDepth 10000 in
theorem oclosed_spec (h : Heap) (B : Nat) (vp : Value) (hs : List Hdr) (p : List (List Bool)) (ho_vp : OwE encHd h B 70 vp hs) (ht_vp : OT encB h B 4 hs p) (hB : B ≤ h.size) (hp1 : p.length ≤ 1000000) (hp2 : Sq p p.length) : Fx Try.prog 116 [vp] h (fun v h' => ∃ (r : List (List Bool)), v = vp ∧ OwE encHd h' B 70 vp hs ∧ OT encB h' B 4 hs r ∧ (r = tabF p.length (warN (pb p) p.length)) ∧ Ext B h h') := by
  have hl_vp := ht_vp.1
  refine fx_intro (n := 56) [(0, vp)] Try.func116 rfl rfl (by simp) ⟨rfl, trivial⟩ fun g0 => ?_
  refine wi_seq <| wi_reg rfl <| lx_assign (.slice none 0 0) rfl rfl <| lx_nil <| wi_seq <| wi_seq <| wi_reg rfl <| lx_move (vp) rfl rfl <| lx_len rfl Try.underlying29 ho_vp.rd rfl <| lx_move (.int .i64 0) rfl rfl <| lx_nil <| wi_block <| ?_
  refine wi_loop (σ := Nat × (List (List Bool))) (rngB 8 55 [3, 4, 5]) (fun (ss : Nat × (List (List Bool))) => [(8, .int .i64 ((ss.1 : Nat) : Int))]) (fun (ss : Nat × (List (List Bool))) (hh : Heap) => OwE encHd hh B 70 vp hs ∧ OT encB hh B 4 hs ss.2 ∧ Ext B h hh ∧ (ss.1 ≤ p.length) ∧ (Sq ss.2 p.length) ∧ (∀ a c, a < p.length → c < p.length → pb ss.2 a c = warN (pb p) ss.1 a c)) (fun (ss : Nat × (List (List Bool))) => p.length - ss.1) (0, p) ⟨rfl, trivial⟩ ⟨?_, ?_, (Ext.refl _ _), ?_, ?_, ?_⟩ ?_
  · first | exact ho_vp | (simpa using ho_vp)
  · first | exact ht_vp | (simpa using ht_vp)
  · try dsimp only
    omega
  · try dsimp only
    exact hp2
  · try dsimp only
    exact fun _ _ _ _ => rfl
  rintro g1 ⟨y, r⟩ hh1 ⟨ho1, hot1, hx0_1, hy, hq, hr⟩ IH1
  dsimp only at *
  have hq1 := hq.1
  have hl_hot1 := hot1.1
  refine wi_seq <| wi_reg rfl <| lx_lssS rfl rfl rfl (fun c1 => ?_) (fun c1 => ?_)
  · refine lx_nil <| wi_seq <| wi_true rfl <| wi_skip <| wi_seq <| wi_block <| wi_seq <| wi_reg rfl <| lx_move (.int .i64 ((y : Nat) : Int)) rfl rfl <| lx_assign (.int .i64 ((y : Nat) : Int)) rfl rfl <| lx_nil <| wi_seq <| wi_reg rfl <| lx_move (vp) rfl rfl <| lx_len rfl Try.underlying29 ho1.rd rfl <| lx_move (.int .i64 0) rfl rfl <| lx_nil <| wi_block <| ?_
    refine wi_loop (σ := Nat × (List (List Bool))) (rngB 13 54 [4, 5]) (fun (ss : Nat × (List (List Bool))) => [(13, .int .i64 ((ss.1 : Nat) : Int))]) (fun (ss : Nat × (List (List Bool))) (hh : Heap) => OwE encHd hh B 70 vp hs ∧ OT encB hh B 4 hs ss.2 ∧ Ext B h hh ∧ (ss.1 ≤ p.length) ∧ (Sq ss.2 p.length) ∧ (∀ a c, a < p.length → c < p.length → pb ss.2 a c = warS (warN (pb p) y) y ss.1 0 a c)) (fun (ss : Nat × (List (List Bool))) => p.length - ss.1) (0, r) ⟨rfl, trivial⟩ ⟨?_, ?_, hx0_1, ?_, ?_, ?_⟩ ?_
    · first | exact ho1 | (simpa using ho1)
    · first | exact hot1 | (simpa using hot1)
    · try dsimp only
      omega
    · try dsimp only
      exact hq
    · try dsimp only
      intro a c ha hc; rw [warS_zero]; exact hr a c ha hc
    rintro g2 ⟨x, r⟩ hh2 ⟨ho2, hot2, hx0_2, hx, hq, hr⟩ IH2
    dsimp only at *
    have hq1 := hq.1
    have hl_hot2 := hot2.1
    refine wi_seq <| wi_reg rfl <| lx_lssS rfl rfl rfl (fun c2 => ?_) (fun c2 => ?_)
    · refine lx_nil <| wi_seq <| wi_true rfl <| wi_skip <| wi_seq <| wi_block <| wi_seq <| wi_reg rfl <| lx_move (.int .i64 ((x : Nat) : Int)) rfl rfl <| lx_assign (.int .i64 ((x : Nat) : Int)) rfl rfl <| lx_nil <| wi_seq <| wi_reg rfl <| lx_move (vp) rfl rfl <| lx_len rfl Try.underlying29 ho2.rd rfl <| lx_move (.int .i64 0) rfl rfl <| lx_nil <| wi_block <| ?_
      refine wi_loop (σ := Nat × (List (List Bool))) (rngB 18 53 [5]) (fun (ss : Nat × (List (List Bool))) => [(18, .int .i64 ((ss.1 : Nat) : Int))]) (fun (ss : Nat × (List (List Bool))) (hh : Heap) => OwE encHd hh B 70 vp hs ∧ OT encB hh B 4 hs ss.2 ∧ Ext B h hh ∧ (ss.1 ≤ p.length) ∧ (Sq ss.2 p.length) ∧ (∀ a c, a < p.length → c < p.length → pb ss.2 a c = warS (warN (pb p) y) y x ss.1 a c)) (fun (ss : Nat × (List (List Bool))) => p.length - ss.1) (0, r) ⟨rfl, trivial⟩ ⟨?_, ?_, hx0_2, ?_, ?_, ?_⟩ ?_
      · first | exact ho2 | (simpa using ho2)
      · first | exact hot2 | (simpa using hot2)
      · try dsimp only
        omega
      · try dsimp only
        exact hq
      · try dsimp only
        exact hr
      rintro g3 ⟨z, r⟩ hh3 ⟨ho3, hot3, hx0_3, hz, hq, hr⟩ IH3
      dsimp only at *
      have hq1 := hq.1
      have hl_hot3 := hot3.1
      refine wi_seq <| wi_reg rfl <| lx_lssS rfl rfl rfl (fun c3 => ?_) (fun c3 => ?_)
      · refine lx_nil <| wi_seq <| wi_true rfl <| wi_skip <| wi_seq <| wi_block <| wi_seq <| wi_reg rfl <| lx_move (.int .i64 ((z : Nat) : Int)) rfl rfl <| lx_assign (.int .i64 ((z : Nat) : Int)) rfl rfl <| lx_nil <| wi_draw mo rfl (by decide +kernel) <| lx_move (vp) rfl rfl <| lx_move (.int .i64 ((x : Nat) : Int)) rfl rfl <| lx_ix (i := x) rfl eT29 ho3.rd rfl rfl (by omega) <| lx_ld (i := x) (j := 0) ((gt hs x).v) rfl rfl fl70 ho3.rd (by omega) rfl rfl <| lx_move (.int .i64 ((z : Nat) : Int)) rfl rfl <| lx_move (vp) rfl rfl <| lx_move (.int .i64 ((x : Nat) : Int)) rfl rfl <| lx_ix (i := x) rfl eT29 ho3.rd rfl rfl (by omega) <| lx_ld (i := x) (j := 0) ((gt hs x).v) rfl rfl fl70 ho3.rd (by omega) rfl rfl <| lx_move (.int .i64 ((z : Nat) : Int)) rfl rfl <| lx_ix (i := z) rfl eT70 (hot3.2.1 x (by omega)).rd rfl rfl (by rw [hq.2 x (by omega)]; omega) <| lx_ld (i := z) (j := 0) (.bool (gt (gt r x) z)) rfl rfl fl4 (hot3.2.1 x (by omega)).rd (by rw [hq.2 x (by omega)]; omega) rfl rfl <| lx_move (.bool (gt (gt r x) z)) rfl rfl <| ?_
        cases c4 : (gt (gt r x) z)
        · refine lx_move (vp) rfl rfl <| lx_move (.int .i64 ((x : Nat) : Int)) rfl rfl <| lx_ix (i := x) rfl eT29 ho3.rd rfl rfl (by omega) <| lx_ld (i := x) (j := 0) ((gt hs x).v) rfl rfl fl70 ho3.rd (by omega) rfl rfl <| lx_move (.int .i64 ((y : Nat) : Int)) rfl rfl <| lx_ix (i := y) rfl eT70 (hot3.2.1 x (by omega)).rd rfl rfl (by rw [hq.2 x (by omega)]; omega) <| lx_ld (i := y) (j := 0) (.bool (gt (gt r x) y)) rfl rfl fl4 (hot3.2.1 x (by omega)).rd (by rw [hq.2 x (by omega)]; omega) rfl rfl <| lx_move (.bool (gt (gt r x) y)) rfl rfl <| ?_
          cases c5 : (gt (gt r x) y)
          · refine lx_skip rfl <| lx_skip rfl <| lx_skip rfl <| lx_skip rfl <| lx_skip rfl <| lx_skip rfl <| lx_skip rfl <| lx_pick false (.bool false) rfl rfl rfl <| lx_pick false (.bool false) rfl rfl rfl <| lx_ix (i := z) rfl eT70 (hot3.2.1 x (by omega)).rd rfl rfl (by rw [hq.2 x (by omega)]; omega) <| lx_st (i := z) false rfl rfl Try.sizeOf4 (hot3.2.1 x (by omega)) (by rw [hq.2 x (by omega)]; omega) rfl rfl (fun _ _ _ _ _ => trivial) fun h1 ho4 hc1 hsz1 => ?_
            have hx0_4 := hx0_3.trans ((hot3.2.1 x (by omega)).ext hc1 (Nat.le_trans hB hx0_3.size))
            have ho5 := ho3.chg hc1 (Dj.symm ((djt_ty hot3 ho3 (by decide)) x (by rw [hot3.1]; exact (by omega))))
            have hot4 := OT.cell hot3 (by omega) hc1 ho4
            have hl_hot4 := hot4.1
            refine lx_nil <| wi_inBlock <| wi_reg rfl <| lx_add (((z + 1 : Nat) : Int)) rfl rfl rfl (by omega) (by omega) (by omega) <| lx_move (.int .i64 ((z + 1 : Nat) : Int)) rfl rfl <| lx_nil <| ?_
            -- L4.1
            refine IH3 _ _ (z + 1, r.set x ((gt r x).set z false)) (agree_ups rfl agree_self) ⟨rfl, trivial⟩ ⟨?_, ?_, hx0_4, ?_, ?_, ?_⟩ ?_
            · first | exact ho5 | (simpa using ho5)
            · first | exact hot4 | (simpa using hot4)
            · try dsimp only
              omega
            · try dsimp only
              exact sq_set hq (by omega)
            · try dsimp only
              exact warS_step hq (by omega) (by omega) hr (by rw [warS_val (r := r) (by omega) (by omega) (by omega) hr]; first | exact or_t (by with_reducible assumption) | exact or_f (by with_reducible assumption) (by with_reducible assumption) | exact or_v (by with_reducible assumption) (by with_reducible assumption))
            · first | omega | (dsimp only; omega)
          · refine lx_move (vp) rfl rfl <| lx_move (.int .i64 ((y : Nat) : Int)) rfl rfl <| lx_ix (i := y) rfl eT29 ho3.rd rfl rfl (by omega) <| lx_ld (i := y) (j := 0) ((gt hs y).v) rfl rfl fl70 ho3.rd (by omega) rfl rfl <| lx_move (.int .i64 ((z : Nat) : Int)) rfl rfl <| lx_ix (i := z) rfl eT70 (hot3.2.1 y (by omega)).rd rfl rfl (by rw [hq.2 y (by omega)]; omega) <| lx_ld (i := z) (j := 0) (.bool (gt (gt r y) z)) rfl rfl fl4 (hot3.2.1 y (by omega)).rd (by rw [hq.2 y (by omega)]; omega) rfl rfl <| lx_pick true (.bool (gt (gt r y) z)) rfl rfl rfl <| lx_pick false (.bool (gt (gt r y) z)) rfl rfl rfl <| lx_ix (i := z) rfl eT70 (hot3.2.1 x (by omega)).rd rfl rfl (by rw [hq.2 x (by omega)]; omega) <| lx_st (i := z) (gt (gt r y) z) rfl rfl Try.sizeOf4 (hot3.2.1 x (by omega)) (by rw [hq.2 x (by omega)]; omega) rfl rfl (fun _ _ _ _ _ => trivial) fun h2 ho6 hc2 hsz2 => ?_
            have hx0_5 := hx0_3.trans ((hot3.2.1 x (by omega)).ext hc2 (Nat.le_trans hB hx0_3.size))
            have ho7 := ho3.chg hc2 (Dj.symm ((djt_ty hot3 ho3 (by decide)) x (by rw [hot3.1]; exact (by omega))))
            have hot5 := OT.cell hot3 (by omega) hc2 ho6
            have hl_hot5 := hot5.1
            refine lx_nil <| wi_inBlock <| wi_reg rfl <| lx_add (((z + 1 : Nat) : Int)) rfl rfl rfl (by omega) (by omega) (by omega) <| lx_move (.int .i64 ((z + 1 : Nat) : Int)) rfl rfl <| lx_nil <| ?_
            -- L4.2
            refine IH3 _ _ (z + 1, r.set x ((gt r x).set z (gt (gt r y) z))) (agree_ups rfl agree_self) ⟨rfl, trivial⟩ ⟨?_, ?_, hx0_5, ?_, ?_, ?_⟩ ?_
            · first | exact ho7 | (simpa using ho7)
            · first | exact hot5 | (simpa using hot5)
            · try dsimp only
              omega
            · try dsimp only
              exact sq_set hq (by omega)
            · try dsimp only
              exact warS_step hq (by omega) (by omega) hr (by rw [warS_val (r := r) (by omega) (by omega) (by omega) hr]; first | exact or_t (by with_reducible assumption) | exact or_f (by with_reducible assumption) (by with_reducible assumption) | exact or_v (by with_reducible assumption) (by with_reducible assumption))
            · first | omega | (dsimp only; omega)
        · refine lx_skip rfl <| lx_skip rfl <| lx_skip rfl <| lx_skip rfl <| lx_skip rfl <| lx_skip rfl <| lx_skip rfl <| lx_skip rfl <| lx_skip rfl <| lx_skip rfl <| lx_skip rfl <| lx_skip rfl <| lx_skip rfl <| lx_skip rfl <| lx_skip rfl <| lx_skip rfl <| lx_pick true (.bool true) rfl rfl rfl <| lx_ix (i := z) rfl eT70 (hot3.2.1 x (by omega)).rd rfl rfl (by rw [hq.2 x (by omega)]; omega) <| lx_st (i := z) true rfl rfl Try.sizeOf4 (hot3.2.1 x (by omega)) (by rw [hq.2 x (by omega)]; omega) rfl rfl (fun _ _ _ _ _ => trivial) fun h3 ho8 hc3 hsz3 => ?_
          have hx0_6 := hx0_3.trans ((hot3.2.1 x (by omega)).ext hc3 (Nat.le_trans hB hx0_3.size))
          have ho9 := ho3.chg hc3 (Dj.symm ((djt_ty hot3 ho3 (by decide)) x (by rw [hot3.1]; exact (by omega))))
          have hot6 := OT.cell hot3 (by omega) hc3 ho8
          have hl_hot6 := hot6.1
          refine lx_nil <| wi_inBlock <| wi_reg rfl <| lx_add (((z + 1 : Nat) : Int)) rfl rfl rfl (by omega) (by omega) (by omega) <| lx_move (.int .i64 ((z + 1 : Nat) : Int)) rfl rfl <| lx_nil <| ?_
          -- L4.3
          refine IH3 _ _ (z + 1, r.set x ((gt r x).set z true)) (agree_ups rfl agree_self) ⟨rfl, trivial⟩ ⟨?_, ?_, hx0_6, ?_, ?_, ?_⟩ ?_
          · first | exact ho9 | (simpa using ho9)
          · first | exact hot6 | (simpa using hot6)
          · try dsimp only
            omega
          · try dsimp only
            exact sq_set hq (by omega)
          · try dsimp only
            exact warS_step hq (by omega) (by omega) hr (by rw [warS_val (r := r) (by omega) (by omega) (by omega) hr]; first | exact or_t (by with_reducible assumption) | exact or_f (by with_reducible assumption) (by with_reducible assumption) | exact or_v (by with_reducible assumption) (by with_reducible assumption))
          · first | omega | (dsimp only; omega)
      · refine lx_nil <| wi_seq <| wi_false rfl <| wi_exit rfl <| wi_inBlock <| wi_reg rfl <| lx_add (((x + 1 : Nat) : Int)) rfl rfl rfl (by omega) (by omega) (by omega) <| lx_move (.int .i64 ((x + 1 : Nat) : Int)) rfl rfl <| lx_nil <| ?_
        -- L2.1
        refine IH2 _ _ (x + 1, r) (agree_ups rfl (agree_mix (rngB_sub (by decide) (by decide) rfl) (agree_ups rfl agree_self))) ⟨rfl, trivial⟩ ⟨?_, ?_, hx0_3, ?_, ?_, ?_⟩ ?_
        · first | exact ho3 | (simpa using ho3)
        · first | exact hot3 | (simpa using hot3)
        · try dsimp only
          omega
        · try dsimp only
          exact hq
        · try dsimp only
          intro a c ha hc; rw [hr a c ha hc, show z = p.length from by omega]; exact warS_next _ hc
        · first | omega | (dsimp only; omega)
    · refine lx_nil <| wi_seq <| wi_false rfl <| wi_exit rfl <| wi_inBlock <| wi_reg rfl <| lx_add (((y + 1 : Nat) : Int)) rfl rfl rfl (by omega) (by omega) (by omega) <| lx_move (.int .i64 ((y + 1 : Nat) : Int)) rfl rfl <| lx_nil <| ?_
      -- L0.1
      refine IH1 _ _ (y + 1, r) (agree_ups rfl (agree_mix (rngB_sub (by decide) (by decide) rfl) (agree_ups rfl agree_self))) ⟨rfl, trivial⟩ ⟨?_, ?_, hx0_2, ?_, ?_, ?_⟩ ?_
      · first | exact ho2 | (simpa using ho2)
      · first | exact hot2 | (simpa using hot2)
      · try dsimp only
        omega
      · try dsimp only
        exact hq
      · try dsimp only
        intro a c ha hc; rw [hr a c ha hc, show x = p.length from by omega]; exact warS_end _ ha
      · first | omega | (dsimp only; omega)
  · refine lx_nil <| wi_seq <| wi_false rfl <| wi_exit rfl <| wi_seq <| wi_reg rfl <| lx_move (vp) rfl rfl <| lx_assign (vp) rfl rfl <| lx_nil <| ?_
    -- R1
    refine wi_ret ⟨vp, (res_one rfl rfl), ⟨r, rfl, ho1, hot1, ?_, hx0_1⟩⟩
    · exact tab_ext hq (fun a c ha hc => by rw [hr a c ha hc, show y = p.length from by omega])

end Go.Proofs.Ytdokijbdnajhgaa
namespace Go.X

theorem bit_and_one (a i : Nat) : (a / 2 ^ i &&& 1) = if a.testBit i then 1 else 0 := by
  rw [Nat.and_one_is_mod, Nat.testBit_eq_decide_div_mod_eq]
  have := Nat.mod_two_eq_zero_or_one (a / 2 ^ i)
  rcases this with h | h <;> simp [h]

/-- Wire, pattern: whether it has a 1. -/
abbrev WF := Nat → Nat → Bool
/-- The words of the wires. -/
def Wi (f : WF) (ws : List Nat) : Prop := ws.length = 160 ∧ (∀ k, k < 160 → gt ws k < 2 ^ 64) ∧ ∀ i, i < 10 → ∀ p, p < 1024 → (gt ws (i * 16 + p / 64)).testBit (p % 64) = f i p
theorem Wi.congr {f g : WF} {ws : List Nat} (h : Wi f ws) (he : ∀ i, i < 10 → ∀ p, p < 1024 → f i p = g i p) : Wi g ws :=
  ⟨h.1, h.2.1, fun i hi p hp => (h.2.2 i hi p hp).trans (he i hi p hp)⟩
/-- Whether a word has changed. -/
theorem andNot_zero {a b : Nat} : andNot a b = 0 ↔ ∀ q, a.testBit q = true → b.testBit q = true := by
  constructor
  · intro h q ha
    have := congrArg (fun x => x.testBit q) h
    simp only [testBit_andNot, Nat.zero_testBit] at this
    cases hb : b.testBit q
    · simp [ha, hb] at this
    · rfl
  · intro h
    apply Nat.eq_of_testBit_eq
    intro q
    rw [testBit_andNot, Nat.zero_testBit]
    cases ha : a.testBit q
    · simp
    · simp [h q ha]
/-- The number with the bits 'g', below 'n'. -/
def colN : Nat → (Nat → Bool) → Nat
  | 0, _ => 0
  | n + 1, g => colN n g + (if g n then 1 else 0) * 2 ^ n
theorem colN_lt (n : Nat) (g : Nat → Bool) : colN n g < 2 ^ n := by
  induction n with
  | zero => simp [colN]
  | succ n ih =>
    simp only [colN]
    rw [Nat.pow_succ]
    split <;> omega
theorem colN_or {n : Nat} {g : Nat → Bool} {b : Nat} : colN n g ||| b * 2 ^ n = colN n g + b * 2 ^ n := by
  rw [Nat.or_comm, Nat.mul_comm, ← Nat.two_pow_add_eq_or_of_lt (colN_lt n g)]
  omega
theorem colN_bit (n : Nat) (g : Nat → Bool) (i : Nat) : (colN n g).testBit i = (decide (i < n) && g i) := by
  induction n with
  | zero => simp [colN]
  | succ n ih =>
    have : colN (n + 1) g = colN n g ||| (if g n then 1 else 0) * 2 ^ n := colN_or.symm
    rw [this, Nat.testBit_or, ih]
    by_cases c : i = n
    · subst c
      cases hg : g i <;> simp [hg, Nat.testBit_two_pow]
    · have hne : ((if g n then 1 else 0) * 2 ^ n).testBit i = false := by
        split
        · rw [Nat.one_mul, Nat.testBit_two_pow]; simp; omega
        · simp
      rw [hne, Bool.or_false]
      congr 1
      simp; omega
theorem ChgB.refl (bn : Nat) (h : Heap) : ChgB bn h h := ⟨rfl, fun _ _ => rfl⟩
theorem ChgB.trans {bn : Nat} {a b c : Heap} (h : ChgB bn a b) (k : ChgB bn b c) : ChgB bn a c := ⟨k.size.trans h.size, fun i hi => (k.block i hi).trans (h.block i hi)⟩
end Go.X
namespace Go.X
/-- The first 'n' numbers. -/
def iota (n : Nat) : List Int := (List.range n).map fun j : Nat => (j : Int)
theorem iota_length (n : Nat) : (iota n).length = n := by simp [iota]
theorem gt_iota {n j : Nat} (h : j < n) : gt (iota n) j = (j : Int) := by
  rw [gt_eq (by rw [iota_length]; exact h)]; simp [iota]
end Go.X
namespace Go.X
theorem gt_exch {xs : List Int} {i j : Nat} (hi : i < xs.length) (hj : j < xs.length) (hij : i ≠ j) (k : Nat) : gt (exch xs i j) k = if k = i then min (gt xs i) (gt xs j) else if k = j then max (gt xs i) (gt xs j) else gt xs k := by
  unfold exch
  split
  · rw [gt_swp hi hj]
    by_cases h1 : k = i
    · subst h1; rw [if_neg (by omega), if_pos rfl, if_pos rfl]; omega
    · by_cases h2 : k = j
      · subst h2; rw [if_pos rfl, if_neg h1, if_pos rfl]; omega
      · rw [if_neg h2, if_neg h1, if_neg h1, if_neg h2]
  · by_cases h1 : k = i
    · subst h1; rw [if_pos rfl]; omega
    · by_cases h2 : k = j
      · subst h2; rw [if_neg h1, if_pos rfl]; omega
      · rw [if_neg h1, if_neg h2]
/-- Where the values of the loose network are in the straight one. -/
structure StInv (n : Nat) (w x y : List Int) : Prop where
  lw : w.length = n
  lx : x.length = n
  ly : y.length = n
  rng : ∀ i, i < n → 0 ≤ gt w i ∧ gt w i < (n : Int)
  inj : ∀ i j, i < n → j < n → gt w i = gt w j → i = j
  val : ∀ i, i < n → gt x (gt w i).toNat = gt y i
theorem StInv.step {n a b : Nat} {w x y : List Int} (h : StInv n w x y) (ha : a < n) (hb : b < n) (hab : a ≠ b) :
    StInv n (exch w a b) (exch x (min (gt w a) (gt w b)).toNat (max (gt w a) (gt w b)).toNat) (exch y a b) := by
  obtain ⟨lw, lx, ly, rng, inj, val⟩ := h
  have r1 := rng a ha
  have r2 := rng b hb
  have hne : gt w a ≠ gt w b := fun e => hab (inj a b ha hb e)
  have gw := gt_exch (xs := w) (i := a) (j := b) (by omega) (by omega) hab
  have gy := gt_exch (xs := y) (i := a) (j := b) (by omega) (by omega) hab
  have gx := gt_exch (xs := x) (i := (min (gt w a) (gt w b)).toNat) (j := (max (gt w a) (gt w b)).toNat) (by omega) (by omega) (by omega)
  have va := val a ha
  have vb := val b hb
  refine ⟨by rw [exch_length]; exact lw, by rw [exch_length]; exact lx, by rw [exch_length]; exact ly, fun i hi => ?_, fun i j hi hj e => ?_, fun i hi => ?_⟩
  · have := rng i hi
    rw [gw]; split
    · omega
    · split <;> omega
  · rw [gw, gw] at e
    by_cases h1 : i = a
    · by_cases h2 : j = a
      · omega
      · rw [if_pos h1, if_neg h2] at e
        by_cases h3 : j = b
        · rw [if_pos h3] at e; omega
        · rw [if_neg h3] at e
          have := inj j a hj ha
          have := inj j b hj hb
          omega
    · by_cases h4 : i = b
      · rw [if_neg h1, if_pos h4] at e
        by_cases h2 : j = a
        · rw [if_pos h2] at e; omega
        · rw [if_neg h2] at e
          by_cases h3 : j = b
          · omega
          · rw [if_neg h3] at e
            have := inj j a hj ha
            have := inj j b hj hb
            omega
      · rw [if_neg h1, if_neg h4] at e
        by_cases h2 : j = a
        · rw [if_pos h2] at e
          have := inj i a hi ha
          have := inj i b hi hb
          omega
        · rw [if_neg h2] at e
          by_cases h3 : j = b
          · rw [if_pos h3] at e
            have := inj i a hi ha
            have := inj i b hi hb
            omega
          · rw [if_neg h3] at e; exact inj i j hi hj e
  · rw [gw, gy]
    have key : min (gt x (min (gt w a) (gt w b)).toNat) (gt x (max (gt w a) (gt w b)).toNat) = min (gt y a) (gt y b) ∧ max (gt x (min (gt w a) (gt w b)).toNat) (gt x (max (gt w a) (gt w b)).toNat) = max (gt y a) (gt y b) := by
      rcases Int.lt_or_lt_of_ne hne with hl | hl
      · rw [show min (gt w a) (gt w b) = gt w a from by omega, show max (gt w a) (gt w b) = gt w b from by omega, va, vb]; exact ⟨rfl, rfl⟩
      · rw [show min (gt w a) (gt w b) = gt w b from by omega, show max (gt w a) (gt w b) = gt w a from by omega, va, vb]; omega
    by_cases h1 : i = a
    · rw [if_pos h1, if_pos h1, gx, if_pos rfl]; exact key.1
    · by_cases h2 : i = b
      · rw [if_neg h1, if_pos h2, if_neg h1, if_pos h2, gx, if_neg (by omega), if_pos rfl]; exact key.2
      · rw [if_neg h1, if_neg h2, if_neg h1, if_neg h2, gx]
        have e1 := inj i a hi ha
        have e2 := inj i b hi hb
        have e3 := rng i hi
        rw [if_neg (by omega), if_neg (by omega)]
        exact val i hi
theorem StInv.zero {n : Nat} {x : List Int} (hx : x.length = n) : StInv n (iota n) x x :=
  ⟨iota_length n, hx, hx, fun i hi => by rw [gt_iota hi]; omega, fun i j hi hj e => by rw [gt_iota hi, gt_iota hj] at e; omega, fun i hi => by rw [gt_iota hi]; rfl⟩
end Go.X
namespace Go.X
/-- The sum of 'f' below 'n'. -/
def S (f : Nat → Nat) : Nat → Nat
  | 0 => 0
  | n + 1 => S f n + f n
/-- Two indices for one another. -/
def tr (i j a : Nat) : Nat := if a = i then j else if a = j then i else a
end Go.X
namespace Go.X
end Go.X
namespace Go.X
def NetOk (n : Nat) (ls : List (Int × Int)) : Prop := ∀ c ∈ ls, ∃ a b : Nat, c = ((a : Int), (b : Int)) ∧ a < n ∧ b < n ∧ a ≠ b
def NetLt (n : Nat) (ls : List (Int × Int)) : Prop := ∀ c ∈ ls, ∃ a b : Nat, c = ((a : Int), (b : Int)) ∧ a < b ∧ b < n
theorem NetLt.ok {n : Nat} {ls : List (Int × Int)} (h : NetLt n ls) : NetOk n ls := fun c hc => by
  obtain ⟨a, b, e, h1, h2⟩ := h c hc
  exact ⟨a, b, e, by omega, h2, by omega⟩
theorem NetLt.append {n : Nat} {xs ys : List (Int × Int)} (h : NetLt n xs) (h' : NetLt n ys) : NetLt n (xs ++ ys) := fun c hc => by
  rw [List.mem_append] at hc
  exact hc.elim (h c) (h' c)
theorem NetLt.cons {n : Nat} {x : Int × Int} {xs : List (Int × Int)} (h : NetLt n (x :: xs)) : NetLt n xs := fun c hc => h c (List.mem_cons_of_mem _ hc)
end Go.X
namespace Go.X
end Go.X
namespace Go.X
/-- A list of numbers, rising: what a test takes among the first ones. -/
def filtF (N : Nat) (f : Nat → Bool) : List Int := ((List.range N).filter f).map fun q : Nat => (q : Int)
theorem filtF_asc (N : Nat) (f : Nat → Bool) : (filtF N f).Pairwise (· < ·) := by
  unfold filtF
  rw [List.pairwise_map]
  exact (List.pairwise_lt_range.filter _).imp (by intro a b h; omega)
theorem filtF_mem {N : Nat} {f : Nat → Bool} {x : Int} : x ∈ filtF N f ↔ ∃ q : Nat, q < N ∧ f q = true ∧ (q : Int) = x := by
  unfold filtF
  rw [List.mem_map]
  constructor
  · rintro ⟨q, hq, e⟩; rw [List.mem_filter, List.mem_range] at hq; exact ⟨q, hq.1, hq.2, e⟩
  · rintro ⟨q, h1, h2, e⟩; exact ⟨q, by rw [List.mem_filter, List.mem_range]; exact ⟨h1, h2⟩, e⟩
theorem filtF_succ (N : Nat) (f : Nat → Bool) : filtF (N + 1) f = filtF N f ++ if f N then [(N : Int)] else [] := by
  unfold filtF
  have e : List.filter f [N] = if f N then [N] else [] := by simp only [List.filter_cons, List.filter_nil]
  rw [List.range_succ, List.filter_append, List.map_append, e]
  cases f N <;> rfl
theorem filtF_length (N : Nat) (f : Nat → Bool) : (filtF N f).length ≤ N := by
  unfold filtF
  rw [List.length_map]
  exact Nat.le_trans (List.length_filter_le ..) (by simp)
/-! ### Idle comparators, in their list -/
end Go.X
namespace Go.X
theorem colN_set {n : Nat} {g : Nat → Bool} (h : g n = true) : colN n g ||| 1 * 2 ^ n = colN (n + 1) g := by rw [colN_or]; simp [colN, h]
theorem colN_skip {n : Nat} {g : Nat → Bool} (h : g n = false) : colN n g = colN (n + 1) g := by simp [colN, h]
theorem pow12 {n : Nat} (h : n ≤ 12) : 2 ^ n ≤ 4096 := Nat.pow_le_pow_right (by omega : 0 < 2) h
theorem bit_zero {s x : Nat} : (s / 2 ^ x &&& 1) = 0 ↔ s.testBit x = false := by rw [bit_and_one]; cases s.testBit x <;> simp
theorem bit_nz {s x : Nat} (h : ¬ (s / 2 ^ x &&& 1) = 0) : s.testBit x = true := by
  cases c : s.testBit x
  · exact absurd (bit_zero.2 c) h
  · rfl
theorem bit_mod {s x : Nat} : s / 2 ^ x % 2 = 1 ↔ s.testBit x = true := by
  rw [← Nat.and_one_is_mod, bit_and_one]; cases s.testBit x <;> simp
theorem bit_modD {s x : Nat} : decide (((s / 2 ^ x % 2 : Nat) : Int) = 1) = s.testBit x := by
  have := @bit_mod s x
  cases h : s.testBit x
  · rw [h] at this; exact decide_eq_false fun e => absurd (this.1 (by omega)) (by simp)
  · rw [h] at this; exact decide_eq_true (by have := this.2 rfl; omega)
theorem bit_lt {n s x : Nat} (h : s < 2 ^ n) (hb : s.testBit x = true) : x < n := by
  refine Nat.lt_of_not_le fun hc => ?_
  rw [Nat.testBit_lt_two_pow (Nat.lt_of_lt_of_le h (Nat.pow_le_pow_right (by omega) hc))] at hb
  cases hb
def incl (a b : Nat) : Bool := decide (andNot a b = 0)
theorem incl_iff {a b : Nat} : incl a b = true ↔ ∀ q, a.testBit q = true → b.testBit q = true := by unfold incl; rw [decide_eq_true_iff]; exact andNot_zero
theorem andNot_le (a b : Nat) : andNot a b ≤ a := by
  rw [show andNot a b = a &&& andNot a b from Nat.eq_of_testBit_eq fun i => by rw [Nat.testBit_and, testBit_andNot]; cases a.testBit i <;> simp]
  exact Nat.and_le_left
theorem incl_D {a b : Nat} : decide (((andNot a b : Nat) : Int) = 0) = incl a b := by
  unfold incl
  rw [decide_eq_decide]
  omega
def dnF (n : Nat) (f : Nat → Nat → Bool) (x : Nat) : Nat := colN n fun y => f y x
def upF (n : Nat) (f : Nat → Nat → Bool) (x : Nat) : Nat := colN n fun y => f x y
theorem dnF_lt (n : Nat) (f : Nat → Nat → Bool) (x : Nat) : dnF n f x < 2 ^ n := colN_lt n _
theorem upF_lt (n : Nat) (f : Nat → Nat → Bool) (x : Nat) : upF n f x < 2 ^ n := colN_lt n _
theorem dnF_bit {n : Nat} {f : Nat → Nat → Bool} {x y : Nat} : (dnF n f x).testBit y = (decide (y < n) && f y x) := colN_bit n _ y
theorem upF_bit {n : Nat} {f : Nat → Nat → Bool} {x y : Nat} : (upF n f x).testBit y = (decide (y < n) && f x y) := colN_bit n _ y
theorem rall_succ (k : Nat) (g : Nat → Bool) : (List.range (k + 1)).all g = ((List.range k).all g && g k) := by rw [List.range_succ, List.all_append]; simp
theorem rall_iff {k : Nat} {g : Nat → Bool} : (List.range k).all g = true ↔ ∀ i, i < k → g i = true := by rw [List.all_eq_true]; exact ⟨fun h i hi => h i (List.mem_range.2 hi), fun h i hi => h i (List.mem_range.1 hi)⟩
/-- Ideals: with each element all below it. -/
def idlB (n : Nat) (f : Nat → Nat → Bool) (s : Nat) : Bool := (List.range n).all fun x => !s.testBit x || incl (dnF n f x) s
theorem idlB_iff {n s : Nat} {f : Nat → Nat → Bool} : idlB n f s = true ↔ ∀ x y, x < n → y < n → s.testBit x = true → f y x = true → s.testBit y = true := by
  unfold idlB
  rw [rall_iff]
  constructor
  · intro h x y hx hy hb hf
    have h1 := h x hx
    rw [hb, Bool.not_true, Bool.false_or, incl_iff] at h1
    exact h1 y (by rw [dnF_bit, hf, decide_eq_true hy]; rfl)
  · intro h x hx
    cases hb : s.testBit x
    · rfl
    · rw [Bool.not_true, Bool.false_or, incl_iff]
      intro y hy
      rw [dnF_bit, Bool.and_eq_true, decide_eq_true_iff] at hy
      exact h x y hx hy.1 hb hy.2
def idealsF (n : Nat) (f : Nat → Nat → Bool) : List Int := filtF (2 ^ n) (idlB n f)
theorem filtF_yes {N : Nat} {f : Nat → Bool} (h : f N = true) : filtF N f ++ [(N : Int)] = filtF (N + 1) f := by rw [filtF_succ, h]; rfl
theorem filtF_no {N : Nat} {f : Nat → Bool} (h : f N = false) : filtF N f = filtF (N + 1) f := by rw [filtF_succ, h]; simp
theorem filtF_gt {N : Nat} {f : Nat → Bool} {i : Nat} (h : i < (filtF N f).length) : ∃ a : Nat, gt (filtF N f) i = (a : Int) ∧ a < N ∧ f a = true := by
  obtain ⟨q, h1, h2, h3⟩ := filtF_mem.1 (gt_mem h)
  exact ⟨q, h3.symm, h1, h2⟩
theorem up_order {n : Nat} {ls : List (Int × Int)} (h : ∀ d, d ∈ ls → ∃ a b : Nat, d = ((a : Int), (b : Int)) ∧ a < b ∧ b < n) : IsO n (closW n ls) :=
  clos_order (fun x => x) (fun _ _ _ _ e => e) fun x y hm => by
    obtain ⟨a, b, e, h1, h2⟩ := h _ hm
    obtain ⟨e1, e2⟩ := Prod.mk.inj e
    omega
end Go.X
namespace Go.Proofs.Ytdokijbdnajhgaa
open Go Go.X

set_option maxRecDepth 10000 in
theorem ints_spec (h : Heap) (va : Value) (xs : List Int) (vb : Value) (ys : List Int) (hr_va : RdE encI h va xs) (hr_vb : RdE encI h vb ys) (hp1 : xs.length ≤ 4611686018427387904) (hp2 : ys.length ≤ 4611686018427387904) : Fx Try.prog 19 [va, vb] h (fun v h' => v = .bool (decide (xs = ys)) ∧ h = h') := by
  refine fx_intro (n := 26) [(0, va), (1, vb)] Try.func19 rfl rfl (by simp) ⟨rfl, rfl, trivial⟩ fun g0 => ?_
  refine wi_seq <| wi_reg rfl <| lx_assign (.bool false) rfl rfl <| lx_nil <| wi_seq <| wi_seq <| wi_reg rfl <| lx_move (va) rfl rfl <| lx_len rfl Try.underlying25 hr_va rfl <| lx_move (vb) rfl rfl <| lx_len rfl Try.underlying25 hr_vb rfl <| lx_neqS rfl rfl rfl (fun c1 => ?_) (fun c1 => ?_)
  · refine lx_nil <| wi_true rfl <| wi_seq <| wi_reg rfl <| lx_assign (.bool false) rfl rfl <| lx_nil <| ?_
    -- R1
    refine wi_ret ⟨.bool false, (res_one rfl rfl), ⟨?_, rfl⟩⟩
    · have e : xs ≠ ys := by intro e; rw [e] at c1; exact c1 rfl
      simp [e]
  · refine lx_nil <| wi_false rfl <| wi_skip <| wi_seq <| wi_seq <| wi_reg rfl <| lx_assign (.int .i64 0) rfl rfl <| lx_nil <| wi_block <| ?_
    refine wi_loop (σ := Nat) (rngB 11 26 [4, 5]) (fun (i : Nat) => [(5, .int .i64 ((i : Nat) : Int))]) (fun (i : Nat) (hh : Heap) => (i ≤ xs.length) ∧ (∀ j, j < i → gt xs j = gt ys j) ∧ h = hh) (fun (i : Nat) => xs.length - i) 0 ⟨rfl, trivial⟩ ⟨?_, ?_, rfl⟩ ?_
    · try dsimp only
      omega
    · try dsimp only
      intro j hj; omega
    rintro g1 i hh1 ⟨hi, he, rfl⟩ IH1
    refine wi_seq <| wi_seq <| wi_reg rfl <| lx_move (.int .i64 ((i : Nat) : Int)) rfl rfl <| lx_move (va) rfl rfl <| lx_len rfl Try.underlying25 hr_va rfl <| lx_lssS rfl rfl rfl (fun c2 => ?_) (fun c2 => ?_)
    · refine lx_nil <| wi_true rfl <| wi_skip <| wi_seq <| wi_block <| wi_seq <| wi_draw mo rfl (by decide +kernel) <| lx_move (va) rfl rfl <| lx_move (.int .i64 ((i : Nat) : Int)) rfl rfl <| lx_ix (i := i) rfl eT25 hr_va rfl rfl (by omega) <| lx_ld (i := i) (j := 0) (.int .i64 (gt xs i)) rfl rfl fl3 hr_va (by omega) rfl rfl <| lx_move (vb) rfl rfl <| lx_move (.int .i64 ((i : Nat) : Int)) rfl rfl <| lx_ix (i := i) rfl eT25 hr_vb rfl rfl (by omega) <| lx_ld (i := i) (j := 0) (.int .i64 (gt ys i)) rfl rfl fl3 hr_vb (by omega) rfl rfl <| lx_neqS rfl rfl rfl (fun c3 => ?_) (fun c3 => ?_)
      · refine lx_nil <| wi_true rfl <| wi_seq <| wi_reg rfl <| lx_assign (.bool false) rfl rfl <| lx_nil <| ?_
        -- R2
        refine wi_ret ⟨.bool false, (res_one rfl rfl), ⟨?_, rfl⟩⟩
        · have e : xs ≠ ys := by intro e; rw [e] at c3; exact c3 rfl
          simp [e]
      · refine lx_nil <| wi_false rfl <| wi_skip <| wi_inBlock <| wi_reg rfl <| lx_move (.int .i64 ((i : Nat) : Int)) rfl rfl <| lx_add (((i + 1 : Nat) : Int)) rfl rfl rfl (by omega) (by omega) (by omega) <| lx_assign (.int .i64 ((i + 1 : Nat) : Int)) rfl rfl <| lx_nil <| ?_
        -- L0.1
        refine IH1 _ _ (i + 1) (agree_ups rfl agree_self) ⟨rfl, trivial⟩ ⟨?_, ?_, rfl⟩ ?_
        · try dsimp only
          omega
        · try dsimp only
          intro j hj; by_cases hji : j = i
          · subst hji; simpa using c3
          · exact he j (by omega)
        · first | omega | (dsimp only; omega)
    · refine lx_nil <| wi_false rfl <| wi_exit rfl <| wi_seq <| wi_reg rfl <| lx_assign (.bool true) rfl rfl <| lx_nil <| ?_
      -- R3
      refine wi_ret ⟨.bool true, (res_one rfl rfl), ⟨?_, rfl⟩⟩
      · have e : xs = ys := gt_ext (by omega) (fun j hj => he j (by omega))
        simp [e]

set_option maxRecDepth 10000 in
theorem longs_spec (h : Heap) (va : Value) (xs : List Int) (vb : Value) (ys : List Int) (hr_va : RdE encI h va xs) (hr_vb : RdE encI h vb ys) (hp1 : xs.length ≤ 4611686018427387904) (hp2 : ys.length ≤ 4611686018427387904) : Fx Try.prog 41 [va, vb] h (fun v h' => v = .bool (decide (xs = ys)) ∧ h = h') := by
  refine fx_intro (n := 26) [(0, va), (1, vb)] Try.func41 rfl rfl (by simp) ⟨rfl, rfl, trivial⟩ fun g0 => ?_
  refine wi_seq <| wi_reg rfl <| lx_assign (.bool false) rfl rfl <| lx_nil <| wi_seq <| wi_seq <| wi_reg rfl <| lx_move (va) rfl rfl <| lx_len rfl Try.underlying58 hr_va rfl <| lx_move (vb) rfl rfl <| lx_len rfl Try.underlying58 hr_vb rfl <| lx_neqS rfl rfl rfl (fun c1 => ?_) (fun c1 => ?_)
  · refine lx_nil <| wi_true rfl <| wi_seq <| wi_reg rfl <| lx_assign (.bool false) rfl rfl <| lx_nil <| ?_
    -- R1
    refine wi_ret ⟨.bool false, (res_one rfl rfl), ⟨?_, rfl⟩⟩
    · have e : xs ≠ ys := by intro e; rw [e] at c1; exact c1 rfl
      simp [e]
  · refine lx_nil <| wi_false rfl <| wi_skip <| wi_seq <| wi_seq <| wi_reg rfl <| lx_assign (.int .i64 0) rfl rfl <| lx_nil <| wi_block <| ?_
    refine wi_loop (σ := Nat) (rngB 11 26 [4, 5]) (fun (i : Nat) => [(5, .int .i64 ((i : Nat) : Int))]) (fun (i : Nat) (hh : Heap) => (i ≤ xs.length) ∧ (∀ j, j < i → gt xs j = gt ys j) ∧ h = hh) (fun (i : Nat) => xs.length - i) 0 ⟨rfl, trivial⟩ ⟨?_, ?_, rfl⟩ ?_
    · try dsimp only
      omega
    · try dsimp only
      intro j hj; omega
    rintro g1 i hh1 ⟨hi, he, rfl⟩ IH1
    refine wi_seq <| wi_seq <| wi_reg rfl <| lx_move (.int .i64 ((i : Nat) : Int)) rfl rfl <| lx_move (va) rfl rfl <| lx_len rfl Try.underlying58 hr_va rfl <| lx_lssS rfl rfl rfl (fun c2 => ?_) (fun c2 => ?_)
    · refine lx_nil <| wi_true rfl <| wi_skip <| wi_seq <| wi_block <| wi_seq <| wi_draw mo rfl (by decide +kernel) <| lx_move (va) rfl rfl <| lx_move (.int .i64 ((i : Nat) : Int)) rfl rfl <| lx_ix (i := i) rfl eT58 hr_va rfl rfl (by omega) <| lx_ld (i := i) (j := 0) (.int .i64 (gt xs i)) rfl rfl fl2 hr_va (by omega) rfl rfl <| lx_move (vb) rfl rfl <| lx_move (.int .i64 ((i : Nat) : Int)) rfl rfl <| lx_ix (i := i) rfl eT58 hr_vb rfl rfl (by omega) <| lx_ld (i := i) (j := 0) (.int .i64 (gt ys i)) rfl rfl fl2 hr_vb (by omega) rfl rfl <| lx_neqS rfl rfl rfl (fun c3 => ?_) (fun c3 => ?_)
      · refine lx_nil <| wi_true rfl <| wi_seq <| wi_reg rfl <| lx_assign (.bool false) rfl rfl <| lx_nil <| ?_
        -- R2
        refine wi_ret ⟨.bool false, (res_one rfl rfl), ⟨?_, rfl⟩⟩
        · have e : xs ≠ ys := by intro e; rw [e] at c3; exact c3 rfl
          simp [e]
      · refine lx_nil <| wi_false rfl <| wi_skip <| wi_inBlock <| wi_reg rfl <| lx_move (.int .i64 ((i : Nat) : Int)) rfl rfl <| lx_add (((i + 1 : Nat) : Int)) rfl rfl rfl (by omega) (by omega) (by omega) <| lx_assign (.int .i64 ((i + 1 : Nat) : Int)) rfl rfl <| lx_nil <| ?_
        -- L0.1
        refine IH1 _ _ (i + 1) (agree_ups rfl agree_self) ⟨rfl, trivial⟩ ⟨?_, ?_, rfl⟩ ?_
        · try dsimp only
          omega
        · try dsimp only
          intro j hj; by_cases hji : j = i
          · subst hji; simpa using c3
          · exact he j (by omega)
        · first | omega | (dsimp only; omega)
    · refine lx_nil <| wi_false rfl <| wi_exit rfl <| wi_seq <| wi_reg rfl <| lx_assign (.bool true) rfl rfl <| lx_nil <| ?_
      -- R3
      refine wi_ret ⟨.bool true, (res_one rfl rfl), ⟨?_, rfl⟩⟩
      · have e : xs = ys := gt_ext (by omega) (fun j hj => he j (by omega))
        simp [e]

set_option maxRecDepth 10000 in
theorem in_spec (h : Heap) (s : Nat) (x : Nat) (hp1 : s ≤ 4096) (hp2 : x ≤ 12) : Fx Try.prog 78 [.int .i64 ((s : Nat) : Int), .int .i64 ((x : Nat) : Int)] h (fun v h' => v = .bool (s.testBit x) ∧ h = h') := by
  refine fx_intro (n := 11) [(0, .int .i64 ((s : Nat) : Int)), (1, .int .i64 ((x : Nat) : Int))] Try.func78 rfl rfl (by simp) ⟨rfl, rfl, trivial⟩ fun g0 => ?_
  refine wi_seq <| wi_reg rfl <| lx_assign (.bool false) rfl rfl <| lx_nil <| wi_seq <| wi_reg rfl <| lx_move (.int .i64 ((s : Nat) : Int)) rfl rfl <| lx_move (.int .i64 ((x : Nat) : Int)) rfl rfl <| lx_conv ((x : Nat) : Int) rfl Try.underlying3 Try.underlying45 rfl (wrap_u64 (by omega) (by omega)) <| lx_shr (m := s) (n := x) rfl rfl rfl (by show _ ≤ 64; omega) <| lx_rem (m := s / 2 ^ x) (n := 2) rfl rfl rfl (by omega) <| lx_eql rfl rfl rfl <| lx_assign (.bool (decide ((((s / 2 ^ x) % 2 : Nat) : Int) = (1 : Int)))) rfl rfl <| lx_nil <| ?_
  -- R1
  refine wi_ret ⟨.bool (decide ((((s / 2 ^ x) % 2 : Nat) : Int) = (1 : Int))), (res_one rfl rfl), ⟨?_, rfl⟩⟩
  · congr 1
    exact bit_modD

set_option maxRecDepth 10000 in
theorem up_spec (h : Heap) (vp : Value) (hs : List Hdr) (p : List (List Bool)) (x : Nat) (hr_vp : RdE encHd h vp hs) (ht_vp : RT encB h hs p) (hp1 : p.length ≤ 12) (hp2 : Sq p p.length) (hp3 : x < p.length) : Fx Try.prog 80 [vp, .int .i64 ((x : Nat) : Int)] h (fun v h' => v = .int .i64 ((upF p.length (pb p) x : Nat) : Int) ∧ h = h') := by
  have hl_vp := ht_vp.1
  refine fx_intro (n := 26) [(0, vp), (1, .int .i64 ((x : Nat) : Int))] Try.func80 rfl rfl (by simp) ⟨rfl, rfl, trivial⟩ fun g0 => ?_
  refine wi_seq <| wi_reg rfl <| lx_assign (.int .i64 0) rfl rfl <| lx_nil <| wi_seq <| wi_reg rfl <| lx_assign (.int .i64 0) rfl rfl <| lx_nil <| wi_seq <| wi_seq <| wi_reg rfl <| lx_move (vp) rfl rfl <| lx_move (.int .i64 ((x : Nat) : Int)) rfl rfl <| lx_ix (i := x) rfl eT29 hr_vp rfl rfl (by omega) <| lx_ld (i := x) (j := 0) ((gt hs x).v) rfl rfl fl70 hr_vp (by omega) rfl rfl <| lx_len rfl Try.underlying70 (ht_vp.2 x (by omega)) rfl <| lx_move (.int .i64 0) rfl rfl <| lx_nil <| wi_block <| ?_
  refine wi_loop (σ := Nat × Nat) (rngB 13 25 [5, 6, 7]) (fun (ss : Nat × Nat) => [(13, .int .i64 ((ss.1 : Nat) : Int)), (5, .int .i64 ((ss.2 : Nat) : Int))]) (fun (ss : Nat × Nat) (hh : Heap) => h = hh ∧ (ss.1 ≤ p.length) ∧ (ss.2 = colN ss.1 (fun c => pb p x c))) (fun (ss : Nat × Nat) => p.length - ss.1) (0, 0) ⟨rfl, rfl, trivial⟩ ⟨rfl, ?_, ?_⟩ ?_
  · try dsimp only
    omega
  · try dsimp only
    first | done | rfl
  rintro g1 ⟨y, o⟩ hh1 ⟨rfl, hy, ho⟩ IH1
  dsimp only at *
  refine wi_seq <| wi_reg rfl <| ?_
  have hrl := hp2.2 x hp3
  refine lx_lssS rfl rfl rfl (fun c1 => ?_) (fun c1 => ?_)
  · refine lx_nil <| wi_seq <| wi_true rfl <| wi_skip <| wi_seq <| wi_block <| wi_seq <| wi_reg rfl <| lx_move (.int .i64 ((y : Nat) : Int)) rfl rfl <| lx_ix (i := y) rfl eT70 (ht_vp.2 x (by omega)) rfl rfl (by rw [hp2.2 x (by omega)]; omega) <| lx_ld (i := y) (j := 0) (.bool (gt (gt p x) y)) rfl rfl fl4 (ht_vp.2 x (by omega)) (by rw [hp2.2 x (by omega)]; omega) rfl rfl <| lx_assign (.int .i64 ((y : Nat) : Int)) rfl rfl <| lx_assign (.bool (gt (gt p x) y)) rfl rfl <| lx_nil <| wi_seq <| wi_reg rfl <| lx_move (.bool (gt (gt p x) y)) rfl rfl <| lx_nil <| wi_condS (t := gt (gt p x) y) rfl (fun c2 => ?_) (fun c2 => ?_)
    · refine wi_reg rfl <| ?_
      have hpw := pow12 (show y ≤ 12 by omega)
      have hpw1 := pow12 (show y + 1 ≤ 12 by omega)
      have hlt : o < 2 ^ y := by rw [ho]; exact colN_lt _ _
      have hor : o ||| 1 * 2 ^ y < 2 ^ (y + 1) := by rw [ho, colN_set (n := y) (g := fun c => pb p x c) (by assumption)]; exact colN_lt _ _
      refine lx_move (.int .i64 ((o : Nat) : Int)) rfl rfl <| lx_move (.int .i64 ((y : Nat) : Int)) rfl rfl <| lx_conv ((y : Nat) : Int) rfl Try.underlying3 Try.underlying45 rfl (wrap_u64 (by omega) (by omega)) <| lx_shl (m := 1) (n := y) rfl rfl rfl (by show _ ≤ 64; omega) (wrap_i64 (by omega) (by omega)) <| lx_or (m := o) (n := 1 * 2 ^ y) rfl rfl rfl (by show _ < 2 ^ 64; omega) (by show _ < 2 ^ 64; omega) (wrap_i64 (by omega) (by omega)) <| lx_assign (.int .i64 ((o ||| (1 * 2 ^ y) : Nat) : Int)) rfl rfl <| lx_nil <| wi_inBlock <| wi_reg rfl <| lx_add (((y + 1 : Nat) : Int)) rfl rfl rfl (by omega) (by omega) (by omega) <| lx_move (.int .i64 ((y + 1 : Nat) : Int)) rfl rfl <| lx_nil <| ?_
      -- L0.1
      refine IH1 _ _ (y + 1, o ||| (1 * 2 ^ y)) (agree_ups rfl agree_self) ⟨rfl, rfl, trivial⟩ ⟨rfl, ?_, ?_⟩ ?_
      · try dsimp only
        omega
      · try dsimp only
        rw [ho]; first | exact colN_set (by assumption) | exact colN_skip (by assumption)
      · first | omega | (dsimp only; omega)
    · refine wi_skip <| wi_inBlock <| wi_reg rfl <| lx_add (((y + 1 : Nat) : Int)) rfl rfl rfl (by omega) (by omega) (by omega) <| lx_move (.int .i64 ((y + 1 : Nat) : Int)) rfl rfl <| lx_nil <| ?_
      -- L0.2
      refine IH1 _ _ (y + 1, o) (agree_ups rfl agree_self) ⟨rfl, rfl, trivial⟩ ⟨rfl, ?_, ?_⟩ ?_
      · try dsimp only
        omega
      · try dsimp only
        rw [ho]; first | exact colN_set (by assumption) | exact colN_skip (by assumption)
      · first | omega | (dsimp only; omega)
  · refine lx_nil <| wi_seq <| wi_false rfl <| wi_exit rfl <| wi_seq <| wi_reg rfl <| lx_move (.int .i64 ((o : Nat) : Int)) rfl rfl <| lx_assign (.int .i64 ((o : Nat) : Int)) rfl rfl <| lx_nil <| ?_
    -- R1
    refine wi_ret ⟨.int .i64 ((o : Nat) : Int), (res_one rfl rfl), ⟨?_, rfl⟩⟩
    · rw [ho, show y = p.length from by omega]; rfl

set_option maxRecDepth 10000 in
theorem down_spec (h : Heap) (vp : Value) (hs : List Hdr) (p : List (List Bool)) (x : Nat) (hr_vp : RdE encHd h vp hs) (ht_vp : RT encB h hs p) (hp1 : p.length ≤ 12) (hp2 : Sq p p.length) (hp3 : x < p.length) : Fx Try.prog 81 [vp, .int .i64 ((x : Nat) : Int)] h (fun v h' => v = .int .i64 ((dnF p.length (pb p) x : Nat) : Int) ∧ h = h') := by
  have hl_vp := ht_vp.1
  refine fx_intro (n := 26) [(0, vp), (1, .int .i64 ((x : Nat) : Int))] Try.func81 rfl rfl (by simp) ⟨rfl, rfl, trivial⟩ fun g0 => ?_
  refine wi_seq <| wi_reg rfl <| lx_assign (.int .i64 0) rfl rfl <| lx_nil <| wi_seq <| wi_reg rfl <| lx_assign (.int .i64 0) rfl rfl <| lx_nil <| wi_seq <| wi_seq <| wi_reg rfl <| lx_move (vp) rfl rfl <| lx_len rfl Try.underlying29 hr_vp rfl <| lx_move (.int .i64 0) rfl rfl <| lx_nil <| wi_block <| ?_
  refine wi_loop (σ := Nat × Nat) (rngB 9 25 [5, 6]) (fun (ss : Nat × Nat) => [(9, .int .i64 ((ss.1 : Nat) : Int)), (5, .int .i64 ((ss.2 : Nat) : Int))]) (fun (ss : Nat × Nat) (hh : Heap) => h = hh ∧ (ss.1 ≤ p.length) ∧ (ss.2 = colN ss.1 (fun c => pb p c x))) (fun (ss : Nat × Nat) => p.length - ss.1) (0, 0) ⟨rfl, rfl, trivial⟩ ⟨rfl, ?_, ?_⟩ ?_
  · try dsimp only
    omega
  · try dsimp only
    first | done | rfl
  rintro g1 ⟨y, o⟩ hh1 ⟨rfl, hy, ho⟩ IH1
  dsimp only at *
  refine wi_seq <| wi_reg rfl <| lx_lssS rfl rfl rfl (fun c1 => ?_) (fun c1 => ?_)
  · refine lx_nil <| wi_seq <| wi_true rfl <| wi_skip <| wi_seq <| wi_block <| wi_seq <| wi_reg rfl <| lx_move (.int .i64 ((y : Nat) : Int)) rfl rfl <| lx_assign (.int .i64 ((y : Nat) : Int)) rfl rfl <| lx_nil <| wi_seq <| wi_reg rfl <| lx_move (vp) rfl rfl <| lx_move (.int .i64 ((y : Nat) : Int)) rfl rfl <| lx_ix (i := y) rfl eT29 hr_vp rfl rfl (by omega) <| lx_ld (i := y) (j := 0) ((gt hs y).v) rfl rfl fl70 hr_vp (by omega) rfl rfl <| lx_move (.int .i64 ((x : Nat) : Int)) rfl rfl <| lx_ix (i := x) rfl eT70 (ht_vp.2 y (by omega)) rfl rfl (by rw [hp2.2 y (by omega)]; omega) <| lx_ld (i := x) (j := 0) (.bool (gt (gt p y) x)) rfl rfl fl4 (ht_vp.2 y (by omega)) (by rw [hp2.2 y (by omega)]; omega) rfl rfl <| lx_nil <| wi_condS (t := gt (gt p y) x) rfl (fun c2 => ?_) (fun c2 => ?_)
    · refine wi_reg rfl <| ?_
      have hpw := pow12 (show y ≤ 12 by omega)
      have hpw1 := pow12 (show y + 1 ≤ 12 by omega)
      have hlt : o < 2 ^ y := by rw [ho]; exact colN_lt _ _
      have hor : o ||| 1 * 2 ^ y < 2 ^ (y + 1) := by rw [ho, colN_set (n := y) (g := fun c => pb p c x) (by assumption)]; exact colN_lt _ _
      refine lx_move (.int .i64 ((o : Nat) : Int)) rfl rfl <| lx_move (.int .i64 ((y : Nat) : Int)) rfl rfl <| lx_conv ((y : Nat) : Int) rfl Try.underlying3 Try.underlying45 rfl (wrap_u64 (by omega) (by omega)) <| lx_shl (m := 1) (n := y) rfl rfl rfl (by show _ ≤ 64; omega) (wrap_i64 (by omega) (by omega)) <| lx_or (m := o) (n := 1 * 2 ^ y) rfl rfl rfl (by show _ < 2 ^ 64; omega) (by show _ < 2 ^ 64; omega) (wrap_i64 (by omega) (by omega)) <| lx_assign (.int .i64 ((o ||| (1 * 2 ^ y) : Nat) : Int)) rfl rfl <| lx_nil <| wi_inBlock <| wi_reg rfl <| lx_add (((y + 1 : Nat) : Int)) rfl rfl rfl (by omega) (by omega) (by omega) <| lx_move (.int .i64 ((y + 1 : Nat) : Int)) rfl rfl <| lx_nil <| ?_
      -- L0.1
      refine IH1 _ _ (y + 1, o ||| (1 * 2 ^ y)) (agree_ups rfl agree_self) ⟨rfl, rfl, trivial⟩ ⟨rfl, ?_, ?_⟩ ?_
      · try dsimp only
        omega
      · try dsimp only
        rw [ho]; first | exact colN_set (by assumption) | exact colN_skip (by assumption)
      · first | omega | (dsimp only; omega)
    · refine wi_skip <| wi_inBlock <| wi_reg rfl <| lx_add (((y + 1 : Nat) : Int)) rfl rfl rfl (by omega) (by omega) (by omega) <| lx_move (.int .i64 ((y + 1 : Nat) : Int)) rfl rfl <| lx_nil <| ?_
      -- L0.2
      refine IH1 _ _ (y + 1, o) (agree_ups rfl agree_self) ⟨rfl, rfl, trivial⟩ ⟨rfl, ?_, ?_⟩ ?_
      · try dsimp only
        omega
      · try dsimp only
        rw [ho]; first | exact colN_set (by assumption) | exact colN_skip (by assumption)
      · first | omega | (dsimp only; omega)
  · refine lx_nil <| wi_seq <| wi_false rfl <| wi_exit rfl <| wi_seq <| wi_reg rfl <| lx_move (.int .i64 ((o : Nat) : Int)) rfl rfl <| lx_assign (.int .i64 ((o : Nat) : Int)) rfl rfl <| lx_nil <| ?_
    -- R1
    refine wi_ret ⟨.int .i64 ((o : Nat) : Int), (res_one rfl rfl), ⟨?_, rfl⟩⟩
    · rw [ho, show y = p.length from by omega]; rfl

end Go.Proofs.Ytdokijbdnajhgaa
namespace Go.X
section
variable {P : Program} {S : Heap → Prop} {kd : Oper → Kd} {ops : Array Oper} {rest : List Oper} {K : Env → Heap → Prop} {L : List (Nat × Value)} {b : Env} {h : Heap}
variable {d : Nat} {tx ty t : TypeId} {p : String} {af : Array Edge} {g : Option (Nat × Bool)} {x y : Operand}
end
end Go.X
namespace Go.Proofs.Ytdokijbdnajhgaa
open Go Go.X

end Go.Proofs.Ytdokijbdnajhgaa
namespace Go.Proofs.Ytdokijbdnajhgaa
open Go Go.X

end Go.Proofs.Ytdokijbdnajhgaa
namespace Go.Proofs.Ytdokijbdnajhgaa
open Go Go.X

set_option maxRecDepth 10000 in
theorem ideals_spec (h : Heap) (vp : Value) (hs : List Hdr) (p : List (List Bool)) (hr_vp : RdE encHd h vp hs) (ht_vp : RT encB h hs p) (hp1 : p.length ≤ 12) (hp2 : Sq p p.length) : Fx Try.prog 76 [vp] h (fun v h' => ∃ (s : Value), v = s ∧ OwE encI h' h.size 3 s (idealsF p.length (pb p)) ∧ Ext h.size h h') := by
  have hl_vp := ht_vp.1
  refine fx_intro (n := 44) [(0, vp)] Try.func76 rfl rfl (by simp) ⟨rfl, trivial⟩ fun g0 => ?_
  refine wi_seq <| wi_reg rfl <| lx_assign (.slice none 0 0) rfl rfl <| lx_nil <| wi_seq <| wi_reg rfl <| lx_assign (.slice none 0 0) rfl rfl <| lx_nil <| wi_seq <| wi_seq <| wi_reg rfl <| ?_
  have hpw := pow12 hp1
  have hpe : 2 ^ hs.length = 2 ^ p.length := by rw [hl_vp]
  refine lx_move (vp) rfl rfl <| lx_len rfl Try.underlying29 hr_vp rfl <| lx_conv ((hs.length : Nat) : Int) rfl Try.underlying3 Try.underlying45 rfl (wrap_u64 (by omega) (by omega)) <| lx_shl (m := 1) (n := hs.length) rfl rfl rfl (by show _ ≤ 64; omega) (wrap_i64 (by omega) (by omega)) <| lx_move (.int .i64 0) rfl rfl <| lx_nil <| wi_block <| ?_
  refine wi_loop (σ := Nat × Value × (List Int)) (rngB 11 43 [3, 4, 5, 6]) (fun (ss : Nat × Value × (List Int)) => [(11, .int .i64 ((ss.1 : Nat) : Int)), (3, ss.2.1)]) (fun (ss : Nat × Value × (List Int)) (hh : Heap) => OwE encI hh h.size 3 ss.2.1 ss.2.2 ∧ Ext h.size h hh ∧ (ss.1 ≤ 2 ^ p.length) ∧ (ss.2.2 = filtF ss.1 (idlB p.length (pb p)))) (fun (ss : Nat × Value × (List Int)) => 2 ^ p.length - ss.1) (0, .slice none 0 0, []) ⟨rfl, rfl, trivial⟩ ⟨?_, (Ext.refl _ _), ?_, ?_⟩ ?_
  · first | exact (owE_nil encI _ h.size 3) | (simpa using (owE_nil encI _ h.size 3))
  · try dsimp only
    exact Nat.zero_le _
  · try dsimp only
    first | done | rfl
  rintro g1 ⟨t, v, xs⟩ hh1 ⟨ho1, hx0_1, hsl, hxs⟩ IH1
  dsimp only at *
  refine wi_seq <| wi_reg rfl <| lx_lssS rfl rfl rfl (fun c1 => ?_) (fun c1 => ?_)
  · refine lx_nil <| wi_seq <| wi_true rfl <| wi_skip <| wi_seq <| wi_block <| wi_seq <| wi_reg rfl <| lx_move (.int .i64 ((t : Nat) : Int)) rfl rfl <| lx_assign (.int .i64 ((t : Nat) : Int)) rfl rfl <| lx_nil <| wi_seq <| wi_reg rfl <| ?_
    have hxl : xs.length ≤ t := by rw [hxs]; exact filtF_length _ _
    refine lx_assign (.bool true) rfl rfl <| lx_nil <| wi_seq <| wi_seq <| wi_reg rfl <| lx_move (vp) rfl rfl <| lx_len rfl Try.underlying29 hr_vp rfl <| lx_move (.int .i64 0) rfl rfl <| lx_nil <| wi_block <| ?_
    refine wi_loop (σ := Nat × Bool) (rngB 16 37 [5, 6]) (fun (ss : Nat × Bool) => [(16, .int .i64 ((ss.1 : Nat) : Int)), (5, .bool ss.2)]) (fun (ss : Nat × Bool) (hh : Heap) => hh1 = hh ∧ (ss.1 ≤ p.length) ∧ (ss.2 = (List.range ss.1).all (fun q => !t.testBit q || incl (dnF p.length (pb p) q) t))) (fun (ss : Nat × Bool) => p.length - ss.1) (0, true) ⟨rfl, rfl, trivial⟩ ⟨rfl, ?_, ?_⟩ ?_
    · try dsimp only
      omega
    · try dsimp only
      first | done | rfl
    rintro g2 ⟨x, w⟩ hh2 ⟨rfl, hx, hw⟩ IH2
    dsimp only at *
    refine wi_seq <| wi_reg rfl <| lx_lssS rfl rfl rfl (fun c2 => ?_) (fun c2 => ?_)
    · refine lx_nil <| wi_seq <| wi_true rfl <| wi_skip <| wi_seq <| wi_block <| wi_seq <| wi_reg rfl <| lx_move (.int .i64 ((x : Nat) : Int)) rfl rfl <| lx_assign (.int .i64 ((x : Nat) : Int)) rfl rfl <| lx_nil <| wi_reg rfl <| ?_
      have hdv := Nat.div_le_self t (2 ^ x)
      have hdl := dnF_lt p.length (pb p) x
      have hbl : t / 2 ^ x &&& 1 ≤ 1 := Nat.and_le_right
      refine lx_move (.bool w) rfl rfl <| lx_move (.bool w) rfl rfl <| ?_
      cases c3 : w
      · refine lx_skip rfl <| lx_skip rfl <| lx_skip rfl <| lx_skip rfl <| lx_skip rfl <| lx_skip rfl <| lx_skip rfl <| lx_skip rfl <| lx_skip rfl <| lx_skip rfl <| lx_skip rfl <| lx_skip rfl <| lx_skip rfl <| lx_skip rfl <| lx_pick false (.bool false) rfl rfl rfl <| lx_assign (.bool false) rfl rfl <| lx_nil <| wi_inBlock <| wi_reg rfl <| lx_add (((x + 1 : Nat) : Int)) rfl rfl rfl (by omega) (by omega) (by omega) <| lx_move (.int .i64 ((x + 1 : Nat) : Int)) rfl rfl <| lx_nil <| ?_
        -- L2.1
        refine IH2 _ _ (x + 1, false) (agree_ups rfl agree_self) ⟨rfl, rfl, trivial⟩ ⟨rfl, ?_, ?_⟩ ?_
        · try dsimp only
          omega
        · try dsimp only
          rw [rall_succ, ← hw]
          first
          | (rw [show w = false from by assumption]; rfl)
          | (rw [show w = true from by assumption, show t.testBit x = false from bit_zero.1 (by omega)]; rfl)
          | (rw [show w = true from by assumption, show t.testBit x = true from bit_nz (by omega)]; exact incl_D)
        · first | omega | (dsimp only; omega)
      · refine lx_move (.int .i64 ((t : Nat) : Int)) rfl rfl <| lx_move (.int .i64 ((x : Nat) : Int)) rfl rfl <| lx_conv ((x : Nat) : Int) rfl Try.underlying3 Try.underlying45 rfl (wrap_u64 (by omega) (by omega)) <| lx_shr (m := t) (n := x) rfl rfl rfl (by show _ ≤ 64; omega) <| lx_and (m := t / 2 ^ x) (n := 1) rfl rfl rfl (by show _ < 2 ^ 64; omega) (by show _ < 2 ^ 64; omega) (wrap_i64 (by omega) (by omega)) <| lx_eqlS rfl rfl rfl (fun c4 => ?_) (fun c4 => ?_)
        · refine lx_move (.bool true) rfl rfl <| lx_skip rfl <| lx_skip rfl <| lx_skip rfl <| lx_skip rfl <| lx_skip rfl <| lx_skip rfl <| lx_pick true (.bool true) rfl rfl rfl <| lx_pick true (.bool true) rfl rfl rfl <| lx_assign (.bool true) rfl rfl <| lx_nil <| wi_inBlock <| wi_reg rfl <| lx_add (((x + 1 : Nat) : Int)) rfl rfl rfl (by omega) (by omega) (by omega) <| lx_move (.int .i64 ((x + 1 : Nat) : Int)) rfl rfl <| lx_nil <| ?_
          -- L2.2
          refine IH2 _ _ (x + 1, true) (agree_ups rfl agree_self) ⟨rfl, rfl, trivial⟩ ⟨rfl, ?_, ?_⟩ ?_
          · try dsimp only
            omega
          · try dsimp only
            rw [rall_succ, ← hw]
            first
            | (rw [show w = false from by assumption]; rfl)
            | (rw [show w = true from by assumption, show t.testBit x = false from bit_zero.1 (by omega)]; rfl)
            | (rw [show w = true from by assumption, show t.testBit x = true from bit_nz (by omega)]; exact incl_D)
          · first | omega | (dsimp only; omega)
        · refine lx_move (.bool false) rfl rfl <| lx_move (vp) rfl rfl <| lx_move (.int .i64 ((x : Nat) : Int)) rfl rfl <| lx_call [vp, .int .i64 ((x : Nat) : Int)] rfl rfl Try.call81 rfl (down_spec hh1 vp hs p x (hr_vp.extS hx0_1) (ht_vp.extS hx0_1) (by omega) (by first | with_reducible assumption | omega) (by omega)) (fun _ _ _ => trivial) ?_
          rintro _ h1 ⟨rfl, rfl⟩
          refine lx_move (.int .i64 ((t : Nat) : Int)) rfl rfl <| lx_andNot (m := dnF p.length (pb p) x) (n := t) rfl rfl rfl (by show _ < 2 ^ 64; omega) (by show _ < 2 ^ 64; omega) (wrap_i64 (by omega) (by have := andNot_le (dnF p.length (pb p) x) t; omega)) <| lx_eql rfl rfl rfl <| lx_pick false (.bool (decide (((andNot (dnF p.length (pb p) x) t : Nat) : Int) = (0 : Int)))) rfl rfl rfl <| lx_pick true (.bool (decide (((andNot (dnF p.length (pb p) x) t : Nat) : Int) = (0 : Int)))) rfl rfl rfl <| lx_assign (.bool (decide (((andNot (dnF p.length (pb p) x) t : Nat) : Int) = (0 : Int)))) rfl rfl <| lx_nil <| wi_inBlock <| wi_reg rfl <| lx_add (((x + 1 : Nat) : Int)) rfl rfl rfl (by omega) (by omega) (by omega) <| lx_move (.int .i64 ((x + 1 : Nat) : Int)) rfl rfl <| lx_nil <| ?_
          -- L2.3
          refine IH2 _ _ (x + 1, decide (((andNot (dnF p.length (pb p) x) t : Nat) : Int) = (0 : Int))) (agree_ups rfl agree_self) ⟨rfl, rfl, trivial⟩ ⟨rfl, ?_, ?_⟩ ?_
          · try dsimp only
            omega
          · try dsimp only
            rw [rall_succ, ← hw]
            first
            | (rw [show w = false from by assumption]; rfl)
            | (rw [show w = true from by assumption, show t.testBit x = false from bit_zero.1 (by omega)]; rfl)
            | (rw [show w = true from by assumption, show t.testBit x = true from bit_nz (by omega)]; exact incl_D)
          · first | omega | (dsimp only; omega)
    · refine lx_nil <| wi_seq <| wi_false rfl <| wi_exit rfl <| wi_seq <| wi_reg rfl <| lx_move (.bool w) rfl rfl <| lx_nil <| wi_condS (t := w) rfl (fun c5 => ?_) (fun c5 => ?_)
      · refine wi_reg rfl <| lx_move (v) rfl rfl <| lx_move (.int .i64 ((t : Nat) : Int)) rfl rfl <| lx_appendL (E := encI) (B := h.size) [((t : Nat) : Int)] [.int .i64 ((t : Nat) : Int)] rfl rfl (fun _ => rfl) rfl eT25 rfl rfl rfl rfl ho1 (fun _ => rfl) (by show xs.length + 1 ≤ _; omega) (by show (xs.length + 1) * 8 ≤ _; omega) hx0_1.size (fun _ _ => trivial) fun u1 v1 h2 ho2 hc1 hg1 => ?_
        have hx0_2 := hx0_1.trans (ho1.ext hc1 hx0_1.size)
        refine lx_assign (v1) rfl rfl <| lx_nil <| wi_inBlock <| wi_reg rfl <| lx_add (((t + 1 : Nat) : Int)) rfl rfl rfl (by omega) (by omega) (by omega) <| lx_move (.int .i64 ((t + 1 : Nat) : Int)) rfl rfl <| lx_nil <| ?_
        -- L0.1
        refine IH1 _ _ (t + 1, v1, xs ++ [((t : Nat) : Int)]) (agree_ups rfl (agree_mix (rngB_sub (by decide) (by decide) rfl) (agree_ups rfl agree_self))) ⟨rfl, rfl, trivial⟩ ⟨?_, hx0_2, ?_, ?_⟩ ?_
        · first | exact ho2 | (simpa using ho2)
        · try dsimp only
          omega
        · try dsimp only
          rw [hxs]
          have hid : w = idlB p.length (pb p) t := by rw [hw, show x = p.length from by omega]; rfl
          first
          | exact filtF_yes (by rw [← hid]; assumption)
          | exact filtF_no (by rw [← hid]; assumption)
        · first | omega | (dsimp only; omega)
      · refine wi_skip <| wi_inBlock <| wi_reg rfl <| lx_add (((t + 1 : Nat) : Int)) rfl rfl rfl (by omega) (by omega) (by omega) <| lx_move (.int .i64 ((t + 1 : Nat) : Int)) rfl rfl <| lx_nil <| ?_
        -- L0.2
        refine IH1 _ _ (t + 1, v, xs) (agree_ups rfl (agree_mix (rngB_sub (by decide) (by decide) rfl) (agree_ups rfl agree_self))) ⟨rfl, rfl, trivial⟩ ⟨?_, hx0_1, ?_, ?_⟩ ?_
        · first | exact ho1 | (simpa using ho1)
        · try dsimp only
          omega
        · try dsimp only
          rw [hxs]
          have hid : w = idlB p.length (pb p) t := by rw [hw, show x = p.length from by omega]; rfl
          first
          | exact filtF_yes (by rw [← hid]; assumption)
          | exact filtF_no (by rw [← hid]; assumption)
        · first | omega | (dsimp only; omega)
  · refine lx_nil <| wi_seq <| wi_false rfl <| wi_exit rfl <| wi_seq <| wi_reg rfl <| lx_move (v) rfl rfl <| lx_assign (v) rfl rfl <| lx_nil <| ?_
    -- R1
    refine wi_ret ⟨v, (res_one rfl rfl), ⟨v, rfl, ?_, hx0_1⟩⟩
    · rw [show idealsF p.length (pb p) = xs from by rw [hxs, show t = 2 ^ p.length from by omega]; rfl]; exact ho1

end Go.Proofs.Ytdokijbdnajhgaa
namespace Go.X
theorem count_lt {p q : Nat → Bool} (h : ∀ i, q i = true → p i = true) : ∀ {n : Nat}, (∃ j, j < n ∧ p j = true ∧ q j = false) → (List.range n).countP q < (List.range n).countP p
  | 0, ⟨j, hj, _⟩ => absurd hj (by omega)
  | n + 1, ⟨j, hj, h1, h2⟩ => by
    rw [List.range_succ, List.countP_append, List.countP_append]
    have hle : ∀ m, (List.range m).countP q ≤ (List.range m).countP p := fun m => List.countP_mono_left fun x _ => h x
    simp only [List.countP_cons, List.countP_nil]
    by_cases e : j = n
    · subst e
      rw [h1, h2]
      have := hle j
      simp; omega
    · have := count_lt h (n := n) ⟨j, by omega, h1, h2⟩
      cases c : q n
      · simp; split <;> omega
      · rw [h n c]; simp; omega

end Go.X
namespace Go.X
/-- Sums over 0, 1, .. below 'n'. -/
def sumI : Nat → (Nat → Int) → Int
  | 0, _ => 0
  | n + 1, g => sumI n g + g n
theorem sumI_congr : ∀ {n : Nat} {f g : Nat → Int}, (∀ i, i < n → f i = g i) → sumI n f = sumI n g
  | 0, _, _, _ => rfl
  | n + 1, f, g, h => by
    show sumI n f + f n = sumI n g + g n
    rw [sumI_congr fun i hi => h i (by omega), h n (by omega)]
theorem sumI_bound {B : Int} (hB : 0 ≤ B) : ∀ {n : Nat} {g : Nat → Int}, (∀ i, i < n → -B ≤ g i ∧ g i ≤ B) → -(n * B) ≤ sumI n g ∧ sumI n g ≤ n * B
  | 0, _, _ => by simp [sumI]
  | n + 1, g, h => by
    have h1 := sumI_bound hB (n := n) (g := g) fun i hi => h i (by omega)
    have h2 := h n (by omega)
    have h3 : ((n + 1 : Nat) : Int) * B = n * B + B := by rw [Int.natCast_add, Int.add_mul]; simp
    show -(((n + 1 : Nat) : Int) * B) ≤ sumI n g + g n ∧ sumI n g + g n ≤ ((n + 1 : Nat) : Int) * B
    rw [h3]
    omega
theorem sumI_add (n : Nat) (f g : Nat → Int) : sumI n (fun i => f i + g i) = sumI n f + sumI n g := by
  induction n with
  | zero => rfl
  | succ n ih => show sumI n _ + (f n + g n) = (sumI n f + f n) + (sumI n g + g n); rw [ih]; omega
theorem sumI_zero {n : Nat} {g : Nat → Int} (h : ∀ i, i < n → g i = 0) : sumI n g = 0 := by
  induction n with
  | zero => rfl
  | succ n ih => show sumI n g + g n = 0; rw [ih fun i hi => h i (by omega), h n (by omega)]; rfl
theorem sumI_one {n k : Nat} {g : Nat → Int} (hk : k < n) (h : ∀ i, i < n → i ≠ k → g i = 0) : sumI n g = g k := by
  induction n with
  | zero => omega
  | succ n ih =>
    show sumI n g + g n = g k
    by_cases e : k = n
    · subst e; rw [sumI_zero fun i hi => h i (by omega) (by omega)]; omega
    · rw [ih (by omega) fun i hi => h i (by omega), h n (by omega) (Ne.symm e)]; omega
theorem sumI_neg (n : Nat) (g : Nat → Int) : sumI n (fun i => -g i) = -sumI n g := by
  induction n with
  | zero => rfl
  | succ n ih => show sumI n _ + -g n = -(sumI n g + g n); rw [ih]; omega
theorem sumI_mul (n : Nat) (c : Int) (g : Nat → Int) : sumI n (fun i => c * g i) = c * sumI n g := by
  induction n with
  | zero => simp [sumI]
  | succ n ih => show sumI n _ + c * g n = c * (sumI n g + g n); rw [ih, Int.mul_add]
theorem sumI_swap (m n : Nat) (g : Nat → Nat → Int) : sumI m (fun i => sumI n (g i)) = sumI n (fun j => sumI m fun i => g i j) := by
  induction m with
  | zero => exact (sumI_zero fun _ _ => rfl).symm
  | succ m ih => show sumI m _ + sumI n (g m) = sumI n (fun j => sumI m (fun i => g i j) + g m j); rw [ih, sumI_add]

/-- How many are at most an element. -/
def cntD (n : Nat) (f : Nat → Nat → Bool) (y : Nat) : Nat := (List.range n).countP fun z => f z y
theorem cntD_le (n : Nat) (f : Nat → Nat → Bool) (y : Nat) : cntD n f y ≤ n := by
  have := List.countP_le_length (p := fun z => f z y) (l := List.range n)
  simpa [cntD] using this
theorem cntD_pos {n y : Nat} {f : Nat → Nat → Bool} (ho : IsO n f) (hy : y < n) : 0 < cntD n f y := List.countP_pos_iff.2 ⟨y, List.mem_range.2 hy, ho.refl hy⟩
theorem cntD_lt {n y z : Nat} {f : Nat → Nat → Bool} (ho : IsO n f) (hz : z < n) (hy : y < n) (h : f z y = true) (hne : z ≠ y) : cntD n f z < cntD n f y := by
  have h9 : (List.range n).countP (fun i => decide (i < n) && f i z) < (List.range n).countP (fun i => decide (i < n) && f i y) := count_lt (fun i hi => by
    rw [Bool.and_eq_true, decide_eq_true_iff] at hi ⊢
    exact ⟨hi.1, ho.trans hi.1 hz hy hi.2 h⟩) ⟨y, hy, by rw [decide_eq_true hy, ho.refl hy]; rfl, by
      cases c : f y z
      · simp
      · exact absurd (ho.anti hz hy h c) hne⟩
  have e : ∀ g : Nat → Bool, (List.range n).countP (fun i => decide (i < n) && g i) = (List.range n).countP g := fun g => List.countP_congr fun i hi => by rw [decide_eq_true (List.mem_range.1 hi)]; simp
  rw [e, e] at h9
  exact h9
/-- What is strictly between, with the lower end. -/
def btw (f : Nat → Nat → Bool) (x y z : Nat) : Bool := f x z && f z y && decide (z ≠ y)
def muA (n : Nat) (f : Nat → Nat → Bool) : Nat → Nat → Nat → Int
  | 0, _, _ => 0
  | k + 1, x, y => if x = y then 1 else if f x y then -sumI n fun z => if btw f x y z then muA n f k x z else 0 else 0
theorem muA_stable {n : Nat} {f : Nat → Nat → Bool} (ho : IsO n f) : ∀ (k l : Nat) {x y : Nat}, x < n → y < n → cntD n f y ≤ k → cntD n f y ≤ l → muA n f k x y = muA n f l x y
  | 0, _, x, y, hx, hy, h1, _ => absurd (cntD_pos ho hy) (by omega)
  | _ + 1, 0, x, y, hx, hy, _, h2 => absurd (cntD_pos ho hy) (by omega)
  | k + 1, l + 1, x, y, hx, hy, h1, h2 => by
    unfold muA
    by_cases e : x = y
    · rw [if_pos e, if_pos e]
    · rw [if_neg e, if_neg e]
      split
      · congr 1
        refine sumI_congr fun z hz => ?_
        cases hb : btw f x y z
        · rfl
        · rw [if_pos rfl, if_pos rfl]
          unfold btw at hb
          simp only [Bool.and_eq_true, decide_eq_true_iff] at hb
          have := cntD_lt ho hz hy hb.1.2 hb.2
          exact muA_stable ho k l hx hz (by omega) (by omega)
      · rfl
def muF (n : Nat) (f : Nat → Nat → Bool) (x y : Nat) : Int := muA n f (n + 1) x y
theorem muF_self {n x : Nat} {f : Nat → Nat → Bool} : muF n f x x = 1 := by unfold muF muA; rw [if_pos rfl]
theorem muF_out {n x y : Nat} {f : Nat → Nat → Bool} (hne : x ≠ y) (h : f x y = false) : muF n f x y = 0 := by unfold muF muA; rw [if_neg hne, h]; rfl
theorem muF_in {n x y : Nat} {f : Nat → Nat → Bool} (ho : IsO n f) (hx : x < n) (hy : y < n) (hne : x ≠ y) (h : f x y = true) : muF n f x y = -sumI n fun z => if btw f x y z then muF n f x z else 0 := by
  rw [show muF n f x y = muA n f (n + 1) x y from rfl]
  rw [muA, if_neg hne, if_pos h]
  congr 1
  refine sumI_congr fun z hz => ?_
  cases hb : btw f x y z
  · rfl
  · rw [if_pos rfl, if_pos rfl]
    unfold btw at hb
    simp only [Bool.and_eq_true, decide_eq_true_iff] at hb
    have h1 := cntD_lt ho hz hy hb.1.2 hb.2
    have h2 := cntD_le n f y
    have h3 := cntD_le n f z
    exact muA_stable ho n (n + 1) hx hz (by omega) (by omega)
theorem muA_bound {n : Nat} {f : Nat → Nat → Bool} : ∀ (k x y : Nat), -(((n + 1) ^ k : Nat) : Int) ≤ muA n f k x y ∧ muA n f k x y ≤ (((n + 1) ^ k : Nat) : Int)
  | 0, x, y => by simp [muA]
  | k + 1, x, y => by
    have hp : 0 < (n + 1) ^ (k + 1) := Nat.pow_pos (by omega)
    have hp0 : 0 < (n + 1) ^ k := Nat.pow_pos (by omega)
    unfold muA
    split
    · omega
    · split
      · have h := sumI_bound (B := (((n + 1) ^ k : Nat) : Int)) (by omega) (n := n) (g := fun z => if btw f x y z then muA n f k x z else 0) fun i _ => by
          skip
          split
          · exact muA_bound k x i
          · omega
        have e : ((n : Nat) : Int) * (((n + 1) ^ k : Nat) : Int) ≤ (((n + 1) ^ (k + 1) : Nat) : Int) := by
          rw [Nat.pow_succ, ← Int.natCast_mul]
          have : n * (n + 1) ^ k ≤ (n + 1) ^ k * (n + 1) := by rw [Nat.mul_comm]; exact Nat.mul_le_mul_left _ (by omega)
          omega
        omega
      · omega
theorem muF_bound {n : Nat} {f : Nat → Nat → Bool} (hn : n ≤ 12) (x y : Nat) : -302875106592253 ≤ muF n f x y ∧ muF n f x y ≤ 302875106592253 := by
  have h := muA_bound (n := n) (f := f) (n + 1) x y
  have h1 : (n + 1) ^ (n + 1) ≤ 13 ^ 13 := Nat.le_trans (Nat.pow_le_pow_left (by omega) _) (Nat.pow_le_pow_right (by omega) (by omega))
  have h2 : (13 : Nat) ^ 13 = 302875106592253 := by decide
  unfold muF
  omega
/-- A list of all elements, in which none comes before one below it. -/
structure LinL (n : Nat) (f : Nat → Nat → Bool) (xs : List Int) : Prop where
  len : xs.length = n
  rng : ∀ i, i < n → ∃ a : Nat, gt xs i = (a : Int) ∧ a < n
  all : ∀ a : Nat, a < n → ∃ i, i < n ∧ gt xs i = (a : Int)
  ord : ∀ i j, i < n → j < n → f (gt xs i).toNat (gt xs j).toNat = true → i ≠ j → i < j
  inj : ∀ i j, i < n → j < n → gt xs i = gt xs j → i = j
end Go.X
namespace Go.X
/-- All numbers below 'n', in some order. -/
structure PermL (n : Nat) (xs : List Int) : Prop where
  len : xs.length = n
  rng : ∀ i, i < n → ∃ a : Nat, gt xs i = (a : Int) ∧ a < n
  inj : ∀ i j, i < n → j < n → gt xs i = gt xs j → i = j
  all : ∀ a : Nat, a < n → ∃ i, i < n ∧ gt xs i = (a : Int)
def swI (i j k : Nat) : Nat := if k = j then i else if k = i then j else k
theorem swI_lt {i j k n : Nat} (hi : i < n) (hj : j < n) (hk : k < n) : swI i j k < n := by unfold swI; split <;> (try split) <;> omega
theorem swI_swI (i j k : Nat) : swI i j (swI i j k) = k := by unfold swI; split <;> (try split) <;> (try split) <;> (try split) <;> omega
theorem gt_swI {xs : List Int} {i j : Nat} (hi : i < xs.length) (hj : j < xs.length) (k : Nat) : gt ((xs.set i (gt xs j)).set j (gt xs i)) k = gt xs (swI i j k) := by
  rw [gt_set (by simpa using hj), gt_set hi]
  unfold swI
  split
  · rfl
  · split <;> rfl
theorem PermL.swap {n : Nat} {xs : List Int} (h : PermL n xs) {i j : Nat} (hi : i < n) (hj : j < n) : PermL n ((xs.set i (gt xs j)).set j (gt xs i)) := by
  have hl := h.len
  have hg := fun k => gt_swI (xs := xs) (i := i) (j := j) (by omega) (by omega) k
  refine ⟨by simp [hl], fun k hk => ?_, fun a b ha hb e => ?_, fun a ha => ?_⟩
  · rw [hg]; exact h.rng _ (swI_lt hi hj hk)
  · rw [hg, hg] at e
    have := h.inj _ _ (swI_lt hi hj ha) (swI_lt hi hj hb) e
    rw [← swI_swI i j a, this, swI_swI]
  · obtain ⟨k, hk, e⟩ := h.all a ha
    exact ⟨swI i j k, swI_lt hi hj hk, by rw [hg, swI_swI]; exact e⟩
theorem permL_iota (n : Nat) (xs : List Int) (hl : xs.length = n) (hg : ∀ i, i < n → gt xs i = ((i : Nat) : Int)) : PermL n xs :=
  ⟨hl, fun i hi => ⟨i, hg i hi, hi⟩, fun i j hi hj e => by rw [hg i hi, hg j hj] at e; omega, fun a ha => ⟨a, ha, hg a ha⟩⟩
abbrev kyF (K : Nat → Nat) (xs : List Int) (i : Nat) : Nat := K (gt xs i).toNat
/-- The first 'm' rise. -/
def RiseK (K : Nat → Nat) (xs : List Int) (m : Nat) : Prop := ∀ a b, a < b → b < m → kyF K xs a ≤ kyF K xs b
/-- The first 'm' rise but for what stands at 'j', which may be too great for those before it. -/
def RiseJ (K : Nat → Nat) (xs : List Int) (m j : Nat) : Prop := ∀ a b, a < b → b < m → b ≠ j → kyF K xs a ≤ kyF K xs b
theorem riseJ_start {K : Nat → Nat} {xs : List Int} {i : Nat} (h : RiseK K xs i) : RiseJ K xs (i + 1) i := fun a b hab hb hne => h a b hab (by omega)
theorem riseJ_stop {K : Nat → Nat} {xs : List Int} {i j : Nat} (h : RiseJ K xs (i + 1) j) (hj : j = 0 ∨ ¬ kyF K xs j < kyF K xs (j - 1)) : RiseK K xs (i + 1) := fun a b hab hb => by
  by_cases e : b = j
  · subst e
    rcases hj with h0 | h0
    · omega
    · by_cases ea : a = b - 1
      · subst ea; omega
      · have := h a (b - 1) (by omega) (by omega) (by omega); omega
  · exact h a b hab hb e
theorem riseJ_step {K : Nat → Nat} {n : Nat} {xs : List Int} {i j : Nat} (hp : PermL n xs) (hi : i < n) (hji : j ≤ i) (h : RiseJ K xs (i + 1) j) (hj : 0 < j) (hlt : kyF K xs j < kyF K xs (j - 1)) :
    RiseJ K ((xs.set j (gt xs (j - 1))).set (j - 1) (gt xs j)) (i + 1) (j - 1) := fun a b hab hb hne => by
  have hl := hp.len
  have hg := fun k => gt_swI (xs := xs) (i := j) (j := j - 1) (by omega) (by omega) k
  show K _ ≤ K _
  rw [hg, hg]
  have hs : ∀ k, swI j (j - 1) k = if k = j - 1 then j else if k = j then j - 1 else k := fun k => rfl
  rw [hs, hs, if_neg hne]
  by_cases e1 : b = j
  · rw [if_pos e1]
    by_cases e2 : a = j - 1
    · rw [if_pos e2]; exact Nat.le_of_lt hlt
    · rw [if_neg e2, if_neg (by omega)]; exact h a (j - 1) (by omega) (by omega) (by omega)
  · rw [if_neg e1]
    by_cases e2 : a = j - 1
    · rw [if_pos e2]; exact h j b (by omega) hb e1
    · rw [if_neg e2]
      by_cases e3 : a = j
      · rw [if_pos e3]; exact h (j - 1) b (by omega) hb e1
      · rw [if_neg e3]; exact h a b hab hb e1
/-- What rises by the number of elements at most it is a list in which none comes before one below it. -/
theorem linL {n : Nat} {f : Nat → Nat → Bool} (ho : IsO n f) {xs : List Int} (hp : PermL n xs) (hr : RiseK (cntD n f) xs n) : LinL n f xs :=
  ⟨hp.len, hp.rng, hp.all, fun i j hi hj hf hne => by
    refine Classical.byContradiction fun hc => ?_
    obtain ⟨a, ha, ha2⟩ := hp.rng i hi
    obtain ⟨b, hb, hb2⟩ := hp.rng j hj
    have h1 := hr j i (by omega) hi
    rw [ha, hb, Int.toNat_natCast, Int.toNat_natCast] at hf
    unfold kyF at h1
    rw [ha, hb, Int.toNat_natCast, Int.toNat_natCast] at h1
    have := cntD_lt ho ha2 hb2 hf (fun e => hne (hp.inj i j hi hj (by rw [ha, hb, e])))
    omega, hp.inj⟩
end Go.X
namespace Go.Proofs.Ytdokijbdnajhgaa
open Go Go.X

set_option maxRecDepth 10000 in
theorem below_spec (h : Heap) (vp : Value) (hs : List Hdr) (p : List (List Bool)) (x : Nat) (y : Nat) (hr_vp : RdE encHd h vp hs) (ht_vp : RT encB h hs p) (hp1 : p.length ≤ 12) (hp2 : Sq p p.length) (hp3 : x < p.length) (hp4 : y < p.length) : Fx Try.prog 106 [vp, .int .i64 ((x : Nat) : Int), .int .i64 ((y : Nat) : Int)] h (fun v h' => v = .bool (decide (x ≠ y) && pb p x y) ∧ h = h') := by
  have hl_vp := ht_vp.1
  refine fx_intro (n := 19) [(0, vp), (1, .int .i64 ((x : Nat) : Int)), (2, .int .i64 ((y : Nat) : Int))] Try.func106 rfl rfl (by simp) ⟨rfl, rfl, rfl, trivial⟩ fun g0 => ?_
  refine wi_seq <| wi_reg rfl <| lx_assign (.bool false) rfl rfl <| lx_nil <| wi_seq <| wi_reg rfl <| lx_move (.int .i64 ((x : Nat) : Int)) rfl rfl <| lx_move (.int .i64 ((y : Nat) : Int)) rfl rfl <| lx_neqS rfl rfl rfl (fun c1 => ?_) (fun c1 => ?_)
  · refine lx_move (.bool true) rfl rfl <| lx_move (vp) rfl rfl <| lx_move (.int .i64 ((x : Nat) : Int)) rfl rfl <| lx_ix (i := x) rfl eT29 hr_vp rfl rfl (by omega) <| lx_ld (i := x) (j := 0) ((gt hs x).v) rfl rfl fl70 hr_vp (by omega) rfl rfl <| lx_move (.int .i64 ((y : Nat) : Int)) rfl rfl <| lx_ix (i := y) rfl eT70 (ht_vp.2 x (by omega)) rfl rfl (by rw [hp2.2 x (by omega)]; omega) <| lx_ld (i := y) (j := 0) (.bool (gt (gt p x) y)) rfl rfl fl4 (ht_vp.2 x (by omega)) (by rw [hp2.2 x (by omega)]; omega) rfl rfl <| lx_pick true (.bool (gt (gt p x) y)) rfl rfl rfl <| lx_assign (.bool (gt (gt p x) y)) rfl rfl <| lx_nil <| ?_
    -- R1
    refine wi_ret ⟨.bool (gt (gt p x) y), (res_one rfl rfl), ⟨?_, rfl⟩⟩
    · congr 1
      first
      | (rw [decide_eq_true (show x ≠ y by omega)]; simp; done)
      | (rw [decide_eq_false (show ¬ x ≠ y by omega)]; rfl)
      | (rw [show pb p x y = true from by assumption, decide_eq_true (show x ≠ y by omega)]; rfl)
      | (rw [show pb p x y = false from by assumption]; simp)
  · refine lx_move (.bool false) rfl rfl <| lx_skip rfl <| lx_skip rfl <| lx_skip rfl <| lx_skip rfl <| lx_skip rfl <| lx_skip rfl <| lx_skip rfl <| lx_pick false (.bool false) rfl rfl rfl <| lx_assign (.bool false) rfl rfl <| lx_nil <| ?_
    -- R2
    refine wi_ret ⟨.bool false, (res_one rfl rfl), ⟨?_, rfl⟩⟩
    · congr 1
      first
      | (rw [decide_eq_true (show x ≠ y by omega)]; simp; done)
      | (rw [decide_eq_false (show ¬ x ≠ y by omega)]; rfl)
      | (rw [show pb p x y = true from by assumption, decide_eq_true (show x ≠ y by omega)]; rfl)
      | (rw [show pb p x y = false from by assumption]; simp)

set_option maxRecDepth 10000 in
theorem size_up_spec (h : Heap) (x : Nat) (vp : Value) (hs : List Hdr) (p : List (List Bool)) (b1 : Nat) (hb_b1 : Blk h b1 (#[vp]) 29) (hr_vp : RdE encHd h vp hs) (ht_vp : RT encB h hs p) (hp1 : p.length ≤ 12) (hp2 : Sq p p.length) (hp3 : x < p.length) : Fx Try.prog 136 [.int .i64 ((x : Nat) : Int), .pointer (some ⟨b1, 0, none⟩)] h (fun v h' => v = .int .i64 ((cntD p.length (pb p) x : Nat) : Int) ∧ h = h') := by
  have hl_vp := ht_vp.1
  refine fx_intro (n := 22) [(0, .int .i64 ((x : Nat) : Int)), (1, .pointer (some ⟨b1, 0, none⟩))] Try.func136 rfl rfl (by simp) ⟨rfl, rfl, trivial⟩ fun g0 => ?_
  refine wi_seq <| wi_reg rfl <| lx_assign (.int .i64 0) rfl rfl <| lx_nil <| wi_seq <| wi_reg rfl <| lx_assign (.int .i64 0) rfl rfl <| lx_nil <| wi_seq <| wi_seq <| wi_reg rfl <| lx_ldB (vp) rfl rfl fl29 hb_b1 rfl rfl <| lx_len rfl Try.underlying29 hr_vp rfl <| lx_move (.int .i64 0) rfl rfl <| lx_nil <| wi_block <| ?_
  refine wi_loop (σ := Nat × Nat) (rngB 8 21 [4, 5]) (fun (ss : Nat × Nat) => [(8, .int .i64 ((ss.1 : Nat) : Int)), (4, .int .i64 ((ss.2 : Nat) : Int))]) (fun (ss : Nat × Nat) (hh : Heap) => h = hh ∧ (ss.1 ≤ p.length) ∧ (ss.2 = (List.range ss.1).countP fun z => pb p z x)) (fun (ss : Nat × Nat) => p.length - ss.1) (0, 0) ⟨rfl, rfl, trivial⟩ ⟨rfl, ?_, ?_⟩ ?_
  · try dsimp only
    omega
  · try dsimp only
    first | done | rfl
  rintro g1 ⟨y, n⟩ hh1 ⟨rfl, hy, hn⟩ IH1
  dsimp only at *
  have hnl : n ≤ y := by rw [hn]; have := List.countP_le_length (p := fun z => pb p z x) (l := List.range y); simpa using this
  refine wi_seq <| wi_reg rfl <| lx_lssS rfl rfl rfl (fun c1 => ?_) (fun c1 => ?_)
  · refine lx_nil <| wi_seq <| wi_true rfl <| wi_skip <| wi_seq <| wi_block <| wi_seq <| wi_reg rfl <| lx_move (.int .i64 ((y : Nat) : Int)) rfl rfl <| lx_assign (.int .i64 ((y : Nat) : Int)) rfl rfl <| lx_nil <| wi_seq <| wi_reg rfl <| lx_ldB (vp) rfl rfl fl29 hb_b1 rfl rfl <| lx_move (.int .i64 ((y : Nat) : Int)) rfl rfl <| lx_ix (i := y) rfl eT29 hr_vp rfl rfl (by omega) <| lx_ld (i := y) (j := 0) ((gt hs y).v) rfl rfl fl70 hr_vp (by omega) rfl rfl <| lx_move (.int .i64 ((x : Nat) : Int)) rfl rfl <| lx_ix (i := x) rfl eT70 (ht_vp.2 y (by omega)) rfl rfl (by rw [hp2.2 y (by omega)]; omega) <| lx_ld (i := x) (j := 0) (.bool (gt (gt p y) x)) rfl rfl fl4 (ht_vp.2 y (by omega)) (by rw [hp2.2 y (by omega)]; omega) rfl rfl <| lx_nil <| wi_condS (t := gt (gt p y) x) rfl (fun c2 => ?_) (fun c2 => ?_)
    · refine wi_reg rfl <| lx_move (.int .i64 ((n : Nat) : Int)) rfl rfl <| lx_add (((n + 1 : Nat) : Int)) rfl rfl rfl (by omega) (by omega) (by omega) <| lx_assign (.int .i64 ((n + 1 : Nat) : Int)) rfl rfl <| lx_nil <| wi_inBlock <| wi_reg rfl <| lx_add (((y + 1 : Nat) : Int)) rfl rfl rfl (by omega) (by omega) (by omega) <| lx_move (.int .i64 ((y + 1 : Nat) : Int)) rfl rfl <| lx_nil <| ?_
      -- L0.1
      refine IH1 _ _ (y + 1, n + 1) (agree_ups rfl agree_self) ⟨rfl, rfl, trivial⟩ ⟨rfl, ?_, ?_⟩ ?_
      · try dsimp only
        omega
      · try dsimp only
        rw [List.range_succ, List.countP_append, ← hn]
        first
        | (rw [List.countP_cons, show pb p y x = true from by assumption]; rfl)
        | (rw [List.countP_cons, show pb p y x = false from by assumption]; rfl)
      · first | omega | (dsimp only; omega)
    · refine wi_skip <| wi_inBlock <| wi_reg rfl <| lx_add (((y + 1 : Nat) : Int)) rfl rfl rfl (by omega) (by omega) (by omega) <| lx_move (.int .i64 ((y + 1 : Nat) : Int)) rfl rfl <| lx_nil <| ?_
      -- L0.2
      refine IH1 _ _ (y + 1, n) (agree_ups rfl agree_self) ⟨rfl, rfl, trivial⟩ ⟨rfl, ?_, ?_⟩ ?_
      · try dsimp only
        omega
      · try dsimp only
        rw [List.range_succ, List.countP_append, ← hn]
        first
        | (rw [List.countP_cons, show pb p y x = true from by assumption]; rfl)
        | (rw [List.countP_cons, show pb p y x = false from by assumption]; rfl)
      · first | omega | (dsimp only; omega)
  · refine lx_nil <| wi_seq <| wi_false rfl <| wi_exit rfl <| wi_seq <| wi_reg rfl <| lx_move (.int .i64 ((n : Nat) : Int)) rfl rfl <| lx_assign (.int .i64 ((n : Nat) : Int)) rfl rfl <| lx_nil <| ?_
    -- R1
    refine wi_ret ⟨.int .i64 ((n : Nat) : Int), (res_one rfl rfl), ⟨?_, rfl⟩⟩
    · rw [hn, show y = p.length from by omega]; rfl

set_option maxRecDepth 10000 in
theorem cmp_up_spec (h : Heap) (x : Nat) (y : Nat) (vp : Value) (hs : List Hdr) (p : List (List Bool)) (b5 : Nat) (b1 : Nat) (hb_b5 : Blk h b5 (#[.func (.func 136) #[] #[.pointer (some ⟨b1, 0, none⟩)]]) 111) (hb_b1 : Blk h b1 (#[vp]) 29) (hr_vp : RdE encHd h vp hs) (ht_vp : RT encB h hs p) (hp1 : p.length ≤ 12) (hp2 : Sq p p.length) (hp3 : x < p.length) (hp4 : y < p.length) : Fx Try.prog 138 [.int .i64 ((x : Nat) : Int), .int .i64 ((y : Nat) : Int), .pointer (some ⟨b5, 0, none⟩)] h (fun v h' => v = .int .i64 (((cntD p.length (pb p) x : Nat) : Int) - ((cntD p.length (pb p) y : Nat) : Int)) ∧ h = h') := by
  have hl_vp := ht_vp.1
  refine fx_intro (n := 13) [(0, .int .i64 ((x : Nat) : Int)), (1, .int .i64 ((y : Nat) : Int)), (2, .pointer (some ⟨b5, 0, none⟩))] Try.func138 rfl rfl (by simp) ⟨rfl, rfl, rfl, trivial⟩ fun g0 => ?_
  refine wi_seq <| wi_reg rfl <| lx_assign (.int .i64 0) rfl rfl <| lx_nil <| wi_seq <| wi_drawS (fun h9 => h = h9) (fun o => match o.dst with | some 6 | some 9 => .free | _ => kindOf o) mo rfl (by decide +kernel) rfl <| ?_
  have h1 := cntD_le p.length (pb p) x
  have h2 := cntD_le p.length (pb p) y
  refine lx_ldBF (.func (.func 136) #[] #[.pointer (some ⟨b1, 0, none⟩)]) rfl fl111 (fun _ e9 => e9 ▸ hb_b5) rfl rfl <| lx_move (.int .i64 ((x : Nat) : Int)) rfl rfl <| lx_callV [] [.pointer (some ⟨b1, 0, none⟩)] [.int .i64 ((x : Nat) : Int)] rfl rfl Try.call136 rfl rfl (size_up_spec h x vp hs p b1 hb_b1 hr_vp ht_vp (by omega) (by first | with_reducible assumption | omega) (by omega)) (by rintro _ _ ⟨_, e⟩; exact e) ?_
  rintro _ h1 ⟨rfl, rfl⟩
  refine lx_ldBF (.func (.func 136) #[] #[.pointer (some ⟨b1, 0, none⟩)]) rfl fl111 (fun _ e9 => e9 ▸ hb_b5) rfl rfl <| lx_move (.int .i64 ((y : Nat) : Int)) rfl rfl <| lx_callV [] [.pointer (some ⟨b1, 0, none⟩)] [.int .i64 ((y : Nat) : Int)] rfl rfl Try.call136 rfl rfl (size_up_spec h y vp hs p b1 hb_b1 hr_vp ht_vp (by omega) (by first | with_reducible assumption | omega) (by omega)) (by rintro _ _ ⟨_, e⟩; exact e) ?_
  rintro _ h2 ⟨rfl, rfl⟩
  refine lx_sub ((((cntD p.length (pb p) x : Nat) : Int)) - (((cntD p.length (pb p) y : Nat) : Int))) rfl rfl rfl (by omega) (by omega) (by omega) <| lx_assign (.int .i64 ((((cntD p.length (pb p) x : Nat) : Int)) - (((cntD p.length (pb p) y : Nat) : Int)))) rfl rfl <| lx_nil <| ?_
  -- R1
  refine wi_ret ⟨.int .i64 ((((cntD p.length (pb p) x : Nat) : Int)) - (((cntD p.length (pb p) y : Nat) : Int))), (res_one rfl rfl), ⟨?_, rfl⟩⟩
  · first | rfl | (simp; done) | (simp; omega)

end Go.Proofs.Ytdokijbdnajhgaa
