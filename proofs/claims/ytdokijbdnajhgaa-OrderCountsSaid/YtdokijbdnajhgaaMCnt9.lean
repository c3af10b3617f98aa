/-
  Texts in one: PZ, QA, QB, QC, XBirk, XRota, QD, QE, QF.
-/
import Derived.Test.YtdokijbdnajhgaaMCnt8
set_option linter.unusedSimpArgs false
set_option linter.unusedVariables false
namespace Go.Proofs.Ytdokijbdnajhgaa
open Go Go.X

/-- Rows of sums, being made. -/
def accR (n : Nat) (F : Nat → Nat → Int) (y x : Nat) : List Int := mapR n fun q => if q < y then F q n else if q = y then F y x else 0
theorem accR_len (n : Nat) (F : Nat → Nat → Int) (y x : Nat) : (accR n F y x).length = n := mapR_len _ _
theorem accR_zero {n : Nat} {F : Nat → Nat → Int} (h0 : ∀ q, F q 0 = 0) : List.replicate n (0 : Int) = accR n F 0 0 := by
  rw [rep_mapR]
  refine mapR_congr fun q _ => ?_
  rw [if_neg (by omega), h0]; split <;> rfl
theorem accR_at {n : Nat} {F : Nat → Nat → Int} {y x : Nat} (hy : y < n) : gt (accR n F y x) y = F y x := by unfold accR; rw [gt_mapR hy, if_neg (by omega), if_pos rfl]
theorem accR_step {n : Nat} {F : Nat → Nat → Int} {y x : Nat} {v : Int} (hy : y < n) (h : F y (x + 1) = F y x + v) : (accR n F y x).set y (F y x + v) = accR n F y (x + 1) := by
  unfold accR
  rw [mapR_set hy]
  refine mapR_congr fun q _ => ?_
  by_cases e : q = y
  · subst e; rw [if_pos rfl, if_neg (by omega), if_pos rfl, h]
  · rw [if_neg e, if_neg e, if_neg e]
theorem accR_same {n : Nat} {F : Nat → Nat → Int} {y x : Nat} (h : F y (x + 1) = F y x) : accR n F y x = accR n F y (x + 1) := by unfold accR; rw [h]
theorem accR_next {n : Nat} {F : Nat → Nat → Int} {y : Nat} (h0 : ∀ q, F q 0 = 0) : accR n F y n = accR n F (y + 1) 0 := by
  unfold accR
  refine mapR_congr fun q _ => ?_
  by_cases e : q < y
  · rw [if_pos e, if_pos (by omega)]
  · rw [if_neg e]
    by_cases e2 : q = y
    · subst e2; rw [if_pos rfl, if_pos (by omega)]
    · rw [if_neg e2, if_neg (by omega), h0]; split <;> rfl
theorem accR_end {n : Nat} {F : Nat → Nat → Int} : accR n F n 0 = mapR n fun q => F q n := mapR_congr fun q hq => if_pos hq
theorem lisE_zero {p : List (List Bool)} {xs : List Int} (h : lisE p xs = 0) : chkT p = 0 ∧ xs.length = p.length ∧ ∀ i, i < xs.length → -1000000000 ≤ gt xs i ∧ gt xs i ≤ 1000000000 := by
  unfold lisE at h
  by_cases e : chkT p = 0
  · rw [if_pos e] at h
    unfold lstE at h
    by_cases e2 : xs.length = p.length
    · rw [if_pos e2] at h
      refine ⟨e, e2, numB_iff.1 ?_⟩
      cases c : numB xs
      · rw [c] at h; cases h
      · rfl
    · rw [if_neg e2] at h; cases h
  · rw [if_neg e] at h; exact absurd h e
theorem smP_bd {f : Nat → Nat → Bool} {a : Nat → Int} {y j : Nat} (hj : j ≤ 12) (h : ∀ x, x < j → -1000000000 ≤ a x ∧ a x ≤ 1000000000) : -12000000000 ≤ smP f a y j ∧ smP f a y j ≤ 12000000000 := by
  have h1 := sumI_bound (B := 1000000000) (by decide) (n := j) (g := fun x => if f x y then a x else 0) fun i hi => by
    have := h i hi
    skip
    split
    · exact this
    · omega
  unfold smP
  omega
theorem mul_bd {a b : Int} (h1 : -1000000000 ≤ a ∧ a ≤ 1000000000) (h2 : -1000000000 ≤ b ∧ b ≤ 1000000000) : -1000000000000000000 ≤ a * b ∧ a * b ≤ 1000000000000000000 := by
  have h3 : (a * b).natAbs ≤ 1000000000 * 1000000000 := by
    rw [Int.natAbs_mul]
    exact Nat.mul_le_mul (by omega) (by omega)
  omega
theorem dfP_bd {n : Nat} {f : Nat → Nat → Bool} (ho : IsO n f) (hn : n ≤ 9) {a : Nat → Int} {y j : Nat} (hy : y < n) (hj : j ≤ n) (h : ∀ x, x < j → -1000000000 ≤ a x ∧ a x ≤ 1000000000) : -9000000000000000000 ≤ dfP n f a y j ∧ dfP n f a y j ≤ 9000000000000000000 := by
  have h1 := sumI_bound (B := 1000000000000000000) (by decide) (n := j) (g := fun x => a x * muF n f x y) fun i hi => mul_bd (h i hi) (mu9 ho hn (by omega) hy)
  unfold dfP
  omega

set_option maxRecDepth 10000 in
theorem osums_spec (h : Heap) (vp : Value) (hs : List Hdr) (p : List (List Bool)) (vl : Value) (xs : List Int) (hr_vp : RdE encHd h vp hs) (ht_vp : RT encB h hs p) (hr_vl : RdE encI h vl xs) (hp1 : p.length ≤ 1000000) (hp2 : ∀ i, i < p.length → (gt p i).length ≤ 1000000) (hp3 : xs.length ≤ 1000000) : Fx Try.prog 47 [vp, vl] h (fun v h' => ∃ (s : Value) (ys : List Int), v = .tuple #[s, .int .i64 (lisE p xs)] ∧ OwE encI h' h.size 2 s ys ∧ ((lisE p xs ≠ 0 ∧ ys = []) ∨ (lisE p xs = 0 ∧ ys = sumT p.length (pb p) xs)) ∧ Ext h.size h h') := by
  have hl_vp := ht_vp.1
  refine fx_intro (n := 49) [(0, vp), (1, vl)] Try.func47 rfl rfl (by simp) ⟨rfl, rfl, trivial⟩ fun g0 => ?_
  refine wi_seq <| wi_reg rfl <| lx_assign (.slice none 0 0) rfl rfl <| lx_assign (.int .i64 0) rfl rfl <| lx_nil <| wi_seq <| wi_seq <| wi_reg rfl <| lx_move (vp) rfl rfl <| lx_move (vl) rfl rfl <| lx_call [vp, vl] rfl rfl Try.call107 rfl (checkList_spec h vp hs p vl xs hr_vp ht_vp hr_vl (by omega) (by first | with_reducible assumption | omega) (by omega)) (fun _ _ _ => trivial) ?_
  rintro _ h1 ⟨rfl, hx1⟩
  refine lx_assign (.int .i64 (lisE p xs)) rfl rfl <| lx_nil <| wi_seq <| wi_reg rfl <| lx_move (.int .i64 (lisE p xs)) rfl rfl <| lx_neqS rfl rfl rfl (fun c1 => ?_) (fun c1 => ?_)
  · refine lx_nil <| wi_true rfl <| wi_seq <| wi_reg rfl <| lx_move (.int .i64 (lisE p xs)) rfl rfl <| lx_assign (.slice none 0 0) rfl rfl <| lx_assign (.int .i64 (lisE p xs)) rfl rfl <| lx_nil <| ?_
    -- R1
    refine wi_ret ⟨.tuple #[.slice none 0 0, .int .i64 (lisE p xs)], (res_two rfl rfl rfl), ⟨.slice none 0 0, [], rfl, (owE_nil encI _ h.size 2), ?_, hx1⟩⟩
    · exact .inl ⟨by omega, rfl⟩
  · refine lx_nil <| wi_false rfl <| wi_skip <| wi_seq <| wi_reg rfl <| ?_
    obtain ⟨hck, hxl, hxb⟩ := lisE_zero (p := p) (xs := xs) (by omega)
    have hok := chkT_ok (p := p) (by omega)
    have hp12 : p.length ≤ 12 := hok.2.1
    have hpq : Sq p p.length := isT_sq hok.2.2
    have hio := isT_o hok.2.2
    have hl_vp9 : hs.length = p.length := by first | assumption | omega
    refine lx_move (vp) rfl rfl <| lx_len rfl Try.underlying29 hr_vp rfl <| lx_make (E := encI) (n := hs.length) (B := h1.size) (0 : Int) rfl rfl Try.underlying58 (eZ58) rfl rfl (by omega) (by omega) (Nat.le_refl _) (fun _ _ => trivial) fun v1 h2 ho1 hx2 hvb1 => ?_
    have hx0_1 := hx1.trans2 hx2 hx1.size
    have ho2 := ho1.base hx1.size
    refine lx_assign (v1) rfl rfl <| lx_nil <| wi_seq <| wi_seq <| wi_reg rfl <| lx_move (vp) rfl rfl <| lx_len rfl Try.underlying29 hr_vp rfl <| lx_move (.int .i64 0) rfl rfl <| lx_nil <| wi_block <| ?_
    refine wi_loop (σ := Nat × (List Int)) (rngB 21 48 [8, 9]) (fun (ss : Nat × (List Int)) => [(21, .int .i64 ((ss.1 : Nat) : Int))]) (fun (ss : Nat × (List Int)) (hh : Heap) => OwE encI hh h.size 2 v1 ss.2 ∧ Ext h.size h hh ∧ (ss.1 ≤ p.length) ∧ (ss.2 = accR p.length (smP (pb p) (gt xs)) ss.1 0)) (fun (ss : Nat × (List Int)) => p.length - ss.1) (0, List.replicate hs.length 0) ⟨rfl, trivial⟩ ⟨?_, hx0_1, ?_, ?_⟩ ?_
    · first | exact ho2 | (simpa using ho2)
    · try dsimp only
      omega
    · try dsimp only
      rw [hl_vp9]; exact accR_zero fun _ => rfl
    rintro g1 ⟨y, es⟩ hh1 ⟨ho3, hx0_2, hy, hes⟩ IH1
    dsimp only at *
    refine wi_seq <| wi_reg rfl <| lx_lssS rfl rfl rfl (fun c2 => ?_) (fun c2 => ?_)
    · refine lx_nil <| wi_seq <| wi_true rfl <| wi_skip <| wi_seq <| wi_block <| wi_seq <| wi_reg rfl <| lx_move (.int .i64 ((y : Nat) : Int)) rfl rfl <| lx_assign (.int .i64 ((y : Nat) : Int)) rfl rfl <| lx_nil <| wi_seq <| wi_reg rfl <| lx_move (vp) rfl rfl <| lx_len rfl Try.underlying29 hr_vp rfl <| lx_move (.int .i64 0) rfl rfl <| lx_nil <| wi_block <| ?_
      refine wi_loop (σ := Nat × (List Int)) (rngB 26 47 [9]) (fun (ss : Nat × (List Int)) => [(26, .int .i64 ((ss.1 : Nat) : Int))]) (fun (ss : Nat × (List Int)) (hh : Heap) => OwE encI hh h.size 2 v1 ss.2 ∧ Ext h.size h hh ∧ (ss.1 ≤ p.length) ∧ (ss.2 = accR p.length (smP (pb p) (gt xs)) y ss.1)) (fun (ss : Nat × (List Int)) => p.length - ss.1) (0, es) ⟨rfl, trivial⟩ ⟨?_, hx0_2, ?_, ?_⟩ ?_
      · first | exact ho3 | (simpa using ho3)
      · try dsimp only
        omega
      · try dsimp only
        exact hes
      rintro g2 ⟨x, es2⟩ hh2 ⟨ho4, hx0_3, hx, hes2⟩ IH2
      dsimp only at *
      have hel2 : es2.length = p.length := by rw [hes2]; exact accR_len _ _ _ _
      refine wi_seq <| wi_reg rfl <| lx_lssS rfl rfl rfl (fun c3 => ?_) (fun c3 => ?_)
      · refine lx_nil <| wi_seq <| wi_true rfl <| wi_skip <| wi_seq <| wi_block <| wi_seq <| wi_reg rfl <| lx_move (.int .i64 ((x : Nat) : Int)) rfl rfl <| lx_assign (.int .i64 ((x : Nat) : Int)) rfl rfl <| lx_nil <| wi_seq <| wi_reg rfl <| lx_move (vp) rfl rfl <| lx_move (.int .i64 ((x : Nat) : Int)) rfl rfl <| lx_ix (i := x) rfl eT29 hr_vp rfl rfl (by omega) <| lx_ld (i := x) (j := 0) ((gt hs x).v) rfl rfl fl70 (hr_vp.extS hx0_3) (by omega) rfl rfl <| lx_move (.int .i64 ((y : Nat) : Int)) rfl rfl <| lx_ix (i := y) rfl eT70 (ht_vp.2 x (by omega)) rfl rfl (by rw [hpq.2 x (by omega)]; omega) <| lx_ld (i := y) (j := 0) (.bool (gt (gt p x) y)) rfl rfl fl4 ((ht_vp.extS hx0_3).2 x (by omega)) (by rw [hpq.2 x (by omega)]; omega) rfl rfl <| lx_nil <| wi_condS (t := gt (gt p x) y) rfl (fun c4 => ?_) (fun c4 => ?_)
        · refine wi_draw mo rfl (by decide +kernel) <| ?_
          have hg1 := accR_at (F := (smP (pb p) (gt xs))) (x := x) (show y < p.length by omega)
          rw [← hes2] at hg1
          have hb1 := smP_bd (f := pb p) (a := gt xs) (y := y) (j := x) (by omega) fun i hi => hxb i (by omega)
          rw [← hg1] at hb1
          have hb2 := hxb x (by omega)
          refine lx_move (v1) rfl rfl <| lx_move (.int .i64 ((y : Nat) : Int)) rfl rfl <| lx_ix (i := y) rfl eT58 ho4.rd rfl rfl (by omega) <| lx_ld (i := y) (j := 0) (.int .i64 (gt es2 y)) rfl rfl fl2 ho4.rd (by omega) rfl rfl <| lx_move (vl) rfl rfl <| lx_move (.int .i64 ((x : Nat) : Int)) rfl rfl <| lx_ix (i := x) rfl eT58 hr_vl rfl rfl (by omega) <| lx_ld (i := x) (j := 0) (.int .i64 (gt xs x)) rfl rfl fl2 (hr_vl.extS hx0_3) (by omega) rfl rfl <| lx_add ((gt es2 y) + (gt xs x)) rfl rfl rfl (by omega) (by omega) (by omega) <| lx_ix (i := y) rfl eT58 ho4.rd rfl rfl (by omega) <| lx_st (i := y) ((gt es2 y) + (gt xs x)) rfl rfl Try.sizeOf2 ho4 (by omega) rfl rfl (fun _ _ _ _ _ => trivial) fun h3 ho5 hc1 hsz1 => ?_
          have hx0_4 := hx0_3.trans (ho4.ext hc1 hx0_3.size)
          refine lx_nil <| wi_inBlock <| wi_reg rfl <| lx_add (((x + 1 : Nat) : Int)) rfl rfl rfl (by omega) (by omega) (by omega) <| lx_move (.int .i64 ((x + 1 : Nat) : Int)) rfl rfl <| lx_nil <| ?_
          -- L2.1
          refine IH2 _ _ (x + 1, es2.set y ((gt es2 y) + (gt xs x))) (agree_ups rfl agree_self) ⟨rfl, trivial⟩ ⟨?_, hx0_4, ?_, ?_⟩ ?_
          · first | exact ho5 | (simpa using ho5)
          · try dsimp only
            omega
          · try dsimp only
            rw [hg1, hes2]; exact accR_step (by omega) (by rw [smP_succ, if_pos (by assumption)])
          · first | omega | (dsimp only; omega)
        · refine wi_skip <| wi_inBlock <| wi_reg rfl <| lx_add (((x + 1 : Nat) : Int)) rfl rfl rfl (by omega) (by omega) (by omega) <| lx_move (.int .i64 ((x + 1 : Nat) : Int)) rfl rfl <| lx_nil <| ?_
          -- L2.2
          refine IH2 _ _ (x + 1, es2) (agree_ups rfl agree_self) ⟨rfl, trivial⟩ ⟨?_, hx0_3, ?_, ?_⟩ ?_
          · first | exact ho4 | (simpa using ho4)
          · try dsimp only
            omega
          · try dsimp only
            rw [hes2]; exact accR_same (by rw [smP_succ, if_neg (by rw [show pb p x y = false from by assumption]; simp), Int.add_zero])
          · first | omega | (dsimp only; omega)
      · refine lx_nil <| wi_seq <| wi_false rfl <| wi_exit rfl <| wi_inBlock <| wi_reg rfl <| lx_add (((y + 1 : Nat) : Int)) rfl rfl rfl (by omega) (by omega) (by omega) <| lx_move (.int .i64 ((y + 1 : Nat) : Int)) rfl rfl <| lx_nil <| ?_
        -- L0.1
        refine IH1 _ _ (y + 1, es2) (agree_ups rfl (agree_mix (rngB_sub (by decide) (by decide) rfl) (agree_ups rfl agree_self))) ⟨rfl, trivial⟩ ⟨?_, hx0_3, ?_, ?_⟩ ?_
        · first | exact ho4 | (simpa using ho4)
        · try dsimp only
          omega
        · try dsimp only
          rw [hes2, show x = p.length from by omega]; exact accR_next fun _ => rfl
        · first | omega | (dsimp only; omega)
    · refine lx_nil <| wi_seq <| wi_false rfl <| wi_exit rfl <| wi_seq <| wi_reg rfl <| lx_move (v1) rfl rfl <| lx_assign (v1) rfl rfl <| lx_assign (.int .i64 0) rfl rfl <| lx_nil <| ?_
      -- R2
      refine wi_ret ⟨.tuple #[v1, .int .i64 0], (res_two rfl rfl rfl), ⟨v1, es, ?_, ho3, ?_, hx0_2⟩⟩
      · rw [show lisE p xs = 0 from by omega]
      · exact .inr ⟨by omega, by rw [hes, show y = p.length from by omega]; exact accR_end⟩

set_option maxRecDepth 10000 in
theorem odiff_spec (h : Heap) (vp : Value) (hs : List Hdr) (p : List (List Bool)) (vl : Value) (xs : List Int) (hr_vp : RdE encHd h vp hs) (ht_vp : RT encB h hs p) (hr_vl : RdE encI h vl xs) (hp1 : p.length ≤ 1000000) (hp2 : ∀ i, i < p.length → (gt p i).length ≤ 1000000) (hp3 : xs.length ≤ 1000000) (hp4 : p.length ≤ 9) : Fx Try.prog 48 [vp, vl] h (fun v h' => ∃ (s : Value) (ys : List Int), v = .tuple #[s, .int .i64 (lisE p xs)] ∧ OwE encI h' h.size 2 s ys ∧ ((lisE p xs ≠ 0 ∧ ys = []) ∨ (lisE p xs = 0 ∧ ys = dfT p.length (pb p) xs)) ∧ Ext h.size h h') := by
  have hl_vp := ht_vp.1
  refine fx_intro (n := 53) [(0, vp), (1, vl)] Try.func48 rfl rfl (by simp) ⟨rfl, rfl, trivial⟩ fun g0 => ?_
  refine wi_seq <| wi_reg rfl <| lx_assign (.slice none 0 0) rfl rfl <| lx_assign (.int .i64 0) rfl rfl <| lx_nil <| wi_seq <| wi_seq <| wi_reg rfl <| lx_move (vp) rfl rfl <| lx_move (vl) rfl rfl <| lx_call [vp, vl] rfl rfl Try.call107 rfl (checkList_spec h vp hs p vl xs hr_vp ht_vp hr_vl (by omega) (by first | with_reducible assumption | omega) (by omega)) (fun _ _ _ => trivial) ?_
  rintro _ h1 ⟨rfl, hx1⟩
  refine lx_assign (.int .i64 (lisE p xs)) rfl rfl <| lx_nil <| wi_seq <| wi_reg rfl <| lx_move (.int .i64 (lisE p xs)) rfl rfl <| lx_neqS rfl rfl rfl (fun c1 => ?_) (fun c1 => ?_)
  · refine lx_nil <| wi_true rfl <| wi_seq <| wi_reg rfl <| lx_move (.int .i64 (lisE p xs)) rfl rfl <| lx_assign (.slice none 0 0) rfl rfl <| lx_assign (.int .i64 (lisE p xs)) rfl rfl <| lx_nil <| ?_
    -- R1
    refine wi_ret ⟨.tuple #[.slice none 0 0, .int .i64 (lisE p xs)], (res_two rfl rfl rfl), ⟨.slice none 0 0, [], rfl, (owE_nil encI _ h.size 2), ?_, hx1⟩⟩
    · exact .inl ⟨by omega, rfl⟩
  · refine lx_nil <| wi_false rfl <| wi_skip <| wi_seq <| wi_reg rfl <| ?_
    obtain ⟨hck, hxl, hxb⟩ := lisE_zero (p := p) (xs := xs) (by omega)
    have hok := chkT_ok (p := p) (by omega)
    have hp12 : p.length ≤ 12 := hok.2.1
    have hpq : Sq p p.length := isT_sq hok.2.2
    have hio := isT_o hok.2.2
    have hl_vp9 : hs.length = p.length := by first | assumption | omega
    refine lx_move (vp) rfl rfl <| lx_len rfl Try.underlying29 hr_vp rfl <| lx_make (E := encI) (n := hs.length) (B := h1.size) (0 : Int) rfl rfl Try.underlying58 (eZ58) rfl rfl (by omega) (by omega) (Nat.le_refl _) (fun _ _ => trivial) fun v1 h2 ho1 hx2 hvb1 => ?_
    have hx0_1 := hx1.trans2 hx2 hx1.size
    have ho2 := ho1.base hx1.size
    refine lx_assign (v1) rfl rfl <| lx_nil <| wi_seq <| wi_reg rfl <| lx_move (vp) rfl rfl <| lx_call [vp] rfl rfl Try.call108 rfl (moebius_spec h2 vp hs p (hr_vp.extS hx0_1) (ht_vp.extS hx0_1) hp12 hok.2.2) (fun _ _ _ => trivial) ?_
    rintro vmu h3 ⟨_, hmu, rfl, ho3, hot1, hx3⟩
    have hx0_2 := hx0_1.trans2 hx3 hx0_1.size
    have ho4 := ho2.extS hx3
    have ho5 := ho3.base hx0_1.size
    have hot2 := hot1.base hx0_1.size
    have hl_hot2 := hot2.1
    refine lx_assign (vmu) rfl rfl <| lx_nil <| wi_seq <| wi_seq <| wi_reg rfl <| ?_
    have hml : (muT p.length (pb p)).length = p.length := muT_len _ _
    refine lx_move (vp) rfl rfl <| lx_len rfl Try.underlying29 hr_vp rfl <| lx_move (.int .i64 0) rfl rfl <| lx_nil <| wi_block <| ?_
    refine wi_loop (σ := Nat × (List Int)) (rngB 24 52 [9, 10]) (fun (ss : Nat × (List Int)) => [(24, .int .i64 ((ss.1 : Nat) : Int))]) (fun (ss : Nat × (List Int)) (hh : Heap) => OwE encI hh h.size 2 v1 ss.2 ∧ OwE encHd hh h.size 25 vmu hmu ∧ OT encI hh h.size 3 hmu (muT p.length (pb p)) ∧ Djt hmu v1 ∧ Ext h.size h hh ∧ (ss.1 ≤ p.length) ∧ (ss.2 = accR p.length (dfP p.length (pb p) (gt xs)) ss.1 0)) (fun (ss : Nat × (List Int)) => p.length - ss.1) (0, List.replicate hs.length 0) ⟨rfl, trivial⟩ ⟨?_, ?_, ?_, (djt_newT ho2 hot1), hx0_2, ?_, ?_⟩ ?_
    · first | exact ho4 | (simpa using ho4)
    · first | exact ho5 | (simpa using ho5)
    · first | exact hot2 | (simpa using hot2)
    · try dsimp only
      omega
    · try dsimp only
      rw [hl_vp9]; exact accR_zero fun _ => rfl
    rintro g1 ⟨y, es⟩ hh1 ⟨ho6, ho7, hot3, hdt1, hx0_3, hy, hes⟩ IH1
    dsimp only at *
    have hl_hot3 := hot3.1
    refine wi_seq <| wi_reg rfl <| lx_lssS rfl rfl rfl (fun c2 => ?_) (fun c2 => ?_)
    · refine lx_nil <| wi_seq <| wi_true rfl <| wi_skip <| wi_seq <| wi_block <| wi_seq <| wi_reg rfl <| lx_move (.int .i64 ((y : Nat) : Int)) rfl rfl <| lx_assign (.int .i64 ((y : Nat) : Int)) rfl rfl <| lx_nil <| wi_seq <| wi_reg rfl <| lx_move (vp) rfl rfl <| lx_len rfl Try.underlying29 hr_vp rfl <| lx_move (.int .i64 0) rfl rfl <| lx_nil <| wi_block <| ?_
      refine wi_loop (σ := Nat × (List Int)) (rngB 29 51 [10]) (fun (ss : Nat × (List Int)) => [(29, .int .i64 ((ss.1 : Nat) : Int))]) (fun (ss : Nat × (List Int)) (hh : Heap) => OwE encI hh h.size 2 v1 ss.2 ∧ OwE encHd hh h.size 25 vmu hmu ∧ OT encI hh h.size 3 hmu (muT p.length (pb p)) ∧ Djt hmu v1 ∧ Ext h.size h hh ∧ (ss.1 ≤ p.length) ∧ (ss.2 = accR p.length (dfP p.length (pb p) (gt xs)) y ss.1)) (fun (ss : Nat × (List Int)) => p.length - ss.1) (0, es) ⟨rfl, trivial⟩ ⟨?_, ?_, ?_, hdt1, hx0_3, ?_, ?_⟩ ?_
      · first | exact ho6 | (simpa using ho6)
      · first | exact ho7 | (simpa using ho7)
      · first | exact hot3 | (simpa using hot3)
      · try dsimp only
        omega
      · try dsimp only
        exact hes
      rintro g2 ⟨x, es2⟩ hh2 ⟨ho8, ho9, hot4, hdt2, hx0_4, hx, hes2⟩ IH2
      dsimp only at *
      have hel2 : es2.length = p.length := by rw [hes2]; exact accR_len _ _ _ _
      have hl_hot4 := hot4.1
      refine wi_seq <| wi_reg rfl <| lx_lssS rfl rfl rfl (fun c3 => ?_) (fun c3 => ?_)
      · refine lx_nil <| wi_seq <| wi_true rfl <| wi_skip <| wi_seq <| wi_block <| wi_seq <| wi_reg rfl <| lx_move (.int .i64 ((x : Nat) : Int)) rfl rfl <| lx_assign (.int .i64 ((x : Nat) : Int)) rfl rfl <| lx_nil <| wi_draw mo rfl (by decide +kernel) <| ?_
        have hg1 := accR_at (F := (dfP p.length (pb p) (gt xs))) (x := x) (show y < p.length by omega)
        rw [← hes2] at hg1
        have hb1 := dfP_bd hio hp4 (a := gt xs) (y := y) (j := x) (by omega) (by omega) fun i hi => hxb i (by omega)
        rw [← hg1] at hb1
        have hb2 := hxb x (by omega)
        have hb3 := mu9 hio hp4 (show x < p.length by omega) (show y < p.length by omega)
        have hb4 := mul_bd hb2 hb3
        have hb5 := dfP_bd hio hp4 (a := gt xs) (y := y) (j := x + 1) (by omega) (by omega) fun i hi => hxb i (by omega)
        rw [dfP_succ, ← hg1] at hb5
        have hmr : (gt (muT p.length (pb p)) x).length = p.length := by rw [gt_muT (by omega)]; exact mapR_len _ _
        have hmg : gt (gt (muT p.length (pb p)) x) y = muF p.length (pb p) x y := by rw [gt_muT (by omega), gt_mapR (by omega)]
        refine lx_move (v1) rfl rfl <| lx_move (.int .i64 ((y : Nat) : Int)) rfl rfl <| lx_ix (i := y) rfl eT58 ho8.rd rfl rfl (by omega) <| lx_ld (i := y) (j := 0) (.int .i64 (gt es2 y)) rfl rfl fl2 ho8.rd (by omega) rfl rfl <| lx_move (vl) rfl rfl <| lx_move (.int .i64 ((x : Nat) : Int)) rfl rfl <| lx_ix (i := x) rfl eT58 hr_vl rfl rfl (by omega) <| lx_ld (i := x) (j := 0) (.int .i64 (gt xs x)) rfl rfl fl2 (hr_vl.extS hx0_4) (by omega) rfl rfl <| lx_move (vmu) rfl rfl <| lx_move (.int .i64 ((x : Nat) : Int)) rfl rfl <| lx_ix (i := x) rfl eT49 ho9.rd rfl rfl (by omega) <| lx_ld (i := x) (j := 0) ((gt hmu x).v) rfl rfl fl25 ho9.rd (by omega) rfl rfl <| lx_move (.int .i64 ((y : Nat) : Int)) rfl rfl <| lx_ix (i := y) rfl eT25 (hot4.2.1 x (by omega)).rd rfl rfl (by omega) <| lx_ld (i := y) (j := 0) (.int .i64 (muF p.length (pb p) x y)) rfl rfl fl3 (hot4.2.1 x (by omega)).rd (by omega) (by show some (Value.int .i64 (gt (gt (muT p.length (pb p)) x) y)) = _; rw [hmg]) rfl <| lx_mul ((gt xs x) * (muF p.length (pb p) x y)) rfl rfl rfl (by omega) (by omega) (by omega) <| lx_add ((gt es2 y) + ((gt xs x) * (muF p.length (pb p) x y))) rfl rfl rfl (by omega) (by omega) (by omega) <| lx_ix (i := y) rfl eT58 ho8.rd rfl rfl (by omega) <| lx_st (i := y) ((gt es2 y) + ((gt xs x) * (muF p.length (pb p) x y))) rfl rfl Try.sizeOf2 ho8 (by omega) rfl rfl (fun _ _ _ _ _ => trivial) fun h4 ho10 hc1 hsz1 => ?_
        have hx0_5 := hx0_4.trans (ho8.ext hc1 hx0_4.size)
        have ho11 := ho9.chg hc1 (Dj.symm (dj_new ho2 ho3))
        have hot5 := hot4.chg hc1 hdt2
        refine lx_nil <| wi_inBlock <| wi_reg rfl <| lx_add (((x + 1 : Nat) : Int)) rfl rfl rfl (by omega) (by omega) (by omega) <| lx_move (.int .i64 ((x + 1 : Nat) : Int)) rfl rfl <| lx_nil <| ?_
        -- L2.1
        refine IH2 _ _ (x + 1, es2.set y ((gt es2 y) + ((gt xs x) * (muF p.length (pb p) x y)))) (agree_ups rfl agree_self) ⟨rfl, trivial⟩ ⟨?_, ?_, ?_, hdt2, hx0_5, ?_, ?_⟩ ?_
        · first | exact ho10 | (simpa using ho10)
        · first | exact ho11 | (simpa using ho11)
        · first | exact hot5 | (simpa using hot5)
        · try dsimp only
          omega
        · try dsimp only
          rw [hg1, hes2]; exact accR_step (by omega) dfP_succ
        · first | omega | (dsimp only; omega)
      · refine lx_nil <| wi_seq <| wi_false rfl <| wi_exit rfl <| wi_inBlock <| wi_reg rfl <| lx_add (((y + 1 : Nat) : Int)) rfl rfl rfl (by omega) (by omega) (by omega) <| lx_move (.int .i64 ((y + 1 : Nat) : Int)) rfl rfl <| lx_nil <| ?_
        -- L0.1
        refine IH1 _ _ (y + 1, es2) (agree_ups rfl (agree_mix (rngB_sub (by decide) (by decide) rfl) (agree_ups rfl agree_self))) ⟨rfl, trivial⟩ ⟨?_, ?_, ?_, hdt2, hx0_4, ?_, ?_⟩ ?_
        · first | exact ho8 | (simpa using ho8)
        · first | exact ho9 | (simpa using ho9)
        · first | exact hot4 | (simpa using hot4)
        · try dsimp only
          omega
        · try dsimp only
          rw [hes2, show x = p.length from by omega]; exact accR_next fun _ => rfl
        · first | omega | (dsimp only; omega)
    · refine lx_nil <| wi_seq <| wi_false rfl <| wi_exit rfl <| wi_seq <| wi_reg rfl <| lx_move (v1) rfl rfl <| lx_assign (v1) rfl rfl <| lx_assign (.int .i64 0) rfl rfl <| lx_nil <| ?_
      -- R2
      refine wi_ret ⟨.tuple #[v1, .int .i64 0], (res_two rfl rfl rfl), ⟨v1, es, ?_, ho6, ?_, hx0_3⟩⟩
      · rw [show lisE p xs = 0 from by omega]
      · exact .inr ⟨by omega, by rw [hes, show y = p.length from by omega]; exact accR_end⟩

end Go.Proofs.Ytdokijbdnajhgaa
namespace Go.Proofs.Ytdokijbdnajhgaa
open Go Go.X

/-- The next row of the numbers of chains: from the elements before 'z', and from 'z' to those before 'w'. -/
def chP (n : Nat) (f : Nat → Nat → Bool) (x k z w q : Nat) : Int := (sumI z fun a => if blw f a q then chN n f x k a else 0) + if q < w then (if blw f z q then chN n f x k z else 0) else 0
theorem chP_zero {n : Nat} {f : Nat → Nat → Bool} {x k q : Nat} : chP n f x k 0 0 q = 0 := rfl
theorem chP_next {n : Nat} {f : Nat → Nat → Bool} {x k z q w : Nat} (hq : q < w) : chP n f x k z w q = chP n f x k (z + 1) 0 q := by unfold chP; rw [if_pos hq, if_neg (show ¬ q < 0 by omega), sumI]; omega
theorem chP_all {n : Nat} {f : Nat → Nat → Bool} {x k q : Nat} : chP n f x k n 0 q = chN n f x (k + 1) q := by unfold chP; rw [if_neg (show ¬ q < 0 by omega), chN, Int.add_zero]
theorem chP_step {n : Nat} {f : Nat → Nat → Bool} {x k z w q : Nat} : chP n f x k z (w + 1) q = chP n f x k z w q + if q = w then (if blw f z q then chN n f x k z else 0) else 0 := by
  unfold chP
  by_cases e : q = w
  · rw [if_pos e, if_pos (show q < w + 1 by omega), if_neg (show ¬ q < w by omega)]; omega
  · rw [if_neg e]
    by_cases e2 : q < w
    · rw [if_pos e2, if_pos (show q < w + 1 by omega)]; omega
    · rw [if_neg e2, if_neg (show ¬ q < w + 1 by omega)]; omega
theorem chP_bound {n : Nat} {f : Nat → Nat → Bool} {x k z w q : Nat} (hn : n ≤ 12) (hk : k ≤ 12) (hz : z < n) : 0 ≤ chP n f x k z w q ∧ chP n f x k z w q ≤ 115909305827328 := by
  have hb : ∀ a, 0 ≤ chN n f x k a ∧ chN n f x k a ≤ 8916100448256 := fun a => by
    have h1 := chN_bound (f := f) (x := x) hn k a
    have h2 : 12 ^ k ≤ 12 ^ 12 := Nat.pow_le_pow_right (by omega) hk
    omega
  have hpos : ∀ (m : Nat) (g : Nat → Int), (∀ i, i < m → 0 ≤ g i) → 0 ≤ sumI m g := by
    intro m
    induction m with
    | zero => intro g _; exact Int.le_refl _
    | succ m ih => intro g hg; unfold sumI; have := ih g (fun i hi => hg i (by omega)); have := hg m (by omega); omega
  have h1 : ∀ a, 0 ≤ (if blw f a q then chN n f x k a else 0) ∧ (if blw f a q then chN n f x k a else 0) ≤ 8916100448256 := fun a => by
    have := hb a
    split
    · exact this
    · omega
  have h2 := hpos z (fun a => if blw f a q then chN n f x k a else 0) fun i _ => (h1 i).1
  have h3 := (sumI_bound (B := 8916100448256) (by decide) (n := z) (g := fun a => if blw f a q then chN n f x k a else 0) fun i _ => ⟨by have := (h1 i).1; omega, (h1 i).2⟩).2
  have h4 := h1 z
  unfold chP
  split <;> omega
theorem chP_set {n : Nat} {f : Nat → Nat → Bool} {x k z w : Nat} (hw : w < n) (h : blw f z w = true) : (mapR n (chP n f x k z w)).set w (chP n f x k z w w + chN n f x k z) = mapR n (chP n f x k z (w + 1)) := by
  rw [mapR_set hw]
  refine mapR_congr fun q _ => ?_
  rw [chP_step]
  by_cases e : q = w
  · subst e; rw [if_pos rfl, if_pos rfl, if_pos h]
  · rw [if_neg e, if_neg e]; omega
theorem chP_skip {n : Nat} {f : Nat → Nat → Bool} {x k z w : Nat} (h : blw f z w = false) : mapR n (chP n f x k z w) = mapR n (chP n f x k z (w + 1)) := mapR_congr fun q _ => by
  rw [chP_step]
  by_cases e : q = w
  · subst e; rw [if_pos rfl, h, if_neg (by simp), Int.add_zero]
  · rw [if_neg e, Int.add_zero]
theorem chN_start {n : Nat} {f : Nat → Nat → Bool} {x : Nat} (hx : x < n) : (List.replicate n (0 : Int)).set x 1 = mapR n (chN n f x 0) := by
  rw [rep_mapR, mapR_set hx]; rfl

set_option maxRecDepth 10000 in
theorem lengths1_seq (b1 b2 b3 : Nat) (vp : Value) (hs : List Hdr) (p : List (List Bool)) (x y : Nat) (hp1 : p.length ≤ 12) (hp2 : Sq p p.length) (hp3 : x < p.length) (hp4 : y < p.length) (hp5 : hs.length = p.length) : SeqO Try.prog 145 [.pointer (some ⟨b1, 0, none⟩), .pointer (some ⟨b2, 0, none⟩), .pointer (some ⟨b3, 0, none⟩)] 2 (fun h => Blk h b1 #[vp] 29 ∧ Blk h b2 #[.int .i64 ((x : Nat) : Int)] 3 ∧ Blk h b3 #[.int .i64 ((y : Nat) : Int)] 3 ∧ RdE encHd h vp hs ∧ RT encB h hs p) p.length (fun k => [.int .i64 (chN p.length (pb p) x k y)]) := by
  intro l h J hJS hCap hLt hY h0
  obtain ⟨hcp1, hcp2, hcp3, hcp4, hcp5⟩ := hCap _ _ _ h0
  refine fx_intro (n := 57) [(0, .func (.yield l) #[] #[]), (1, .pointer (some ⟨b1, 0, none⟩)), (2, .pointer (some ⟨b2, 0, none⟩)), (3, .pointer (some ⟨b3, 0, none⟩))] Try.func145 rfl rfl (by simp) ⟨rfl, rfl, rfl, rfl, trivial⟩ fun g0 => ?_
  refine wi_seq <| wi_reg rfl <| lx_ldB (vp) rfl rfl fl29 hcp1 rfl rfl <| lx_len rfl Try.underlying29 hcp4 rfl <| lx_make (E := encI) (n := hs.length) (B := h.size) (0 : Int) rfl rfl Try.underlying58 (eZ58) rfl rfl (by omega) (by omega) (Nat.le_refl _) (fun _ _ => trivial) fun v1 h1 ho1 hx1 hvb1 => ?_
  have hch1 := hx1
  have hsz_hch1 := hch1.1
  have hx0_1 := hx1.mono (Nat.le_refl h.size)
  have hb1 := hcp1.extS hx1
  have hb2 := hcp2.extS hx1
  have hb3 := hcp3.extS hx1
  have hnw_v1 : ∀ g9, Value.ownBlock v1 = some g9 → (h).size ≤ g9 := fun g9 e9 => Nat.le_trans (Nat.le_refl _) (ho1.lt e9).1
  have ho2 := ho1.base (Nat.le_refl h.size)
  refine lx_assign (v1) rfl rfl <| lx_nil <| wi_seq <| wi_reg rfl <| lx_move (v1) rfl rfl <| lx_ldB (.int .i64 ((x : Nat) : Int)) rfl rfl fl3 hb2 rfl rfl <| lx_ix (i := x) rfl eT58 ho2.rd rfl rfl (by first | omega | (simp only [List.length_set, List.length_append, List.length_cons, List.length_nil, List.length_replicate, List.length_take, swp_length, exch_length]; omega)) <| lx_st (i := x) ((1 : Int)) rfl rfl Try.sizeOf2 ho2 (by first | omega | (simp only [List.length_set, List.length_append, List.length_cons, List.length_nil, List.length_replicate, List.length_take, swp_length, exch_length]; omega)) rfl rfl (fun _ _ _ _ _ => trivial) fun h2 ho3 hc1 hsz1 => ?_
  have hch2 := hch1.trans ((Ext.of_chgN hc1 (by assumption) hch1.size : Ext (h).size _ _))
  have hsz_hch2 := hch2.1
  have hx0_2 := hx0_1.trans (ho2.ext hc1 (Nat.le_trans (Nat.le_refl h.size) hx0_1.size))
  have hb4 := hb1.chg hc1 (nb_new hcp1 ho1)
  have hb5 := hb2.chg hc1 (nb_new hcp2 ho1)
  have hb6 := hb3.chg hc1 (nb_new hcp3 ho1)
  refine lx_nil <| wi_seq <| wi_reg rfl <| lx_ldB (vp) rfl rfl fl29 hb4 rfl rfl <| lx_len rfl Try.underlying29 hcp4 rfl <| lx_move (.int .i64 0) rfl rfl <| lx_nil <| wi_block <| ?_
  refine wi_loop (σ := Nat × (Option Nat) × Value × (List Int)) (rngB 18 57 [5, 6, 7, 8, 9]) (fun (ss : Nat × (Option Nat) × Value × (List Int)) => [(18, .int .i64 ((ss.1 : Nat) : Int)), (5, ss.2.2.1)]) (fun (ss : Nat × (Option Nat) × Value × (List Int)) (hh : Heap) => h.size ≤ hh.size ∧ J ss.1 ss.2.1 hh ∧ OwE encI hh h.size 2 ss.2.2.1 ss.2.2.2 ∧ (ss.1 ≤ p.length) ∧ (∀ g9, Value.ownBlock ss.2.2.1 = some g9 → ss.2.1 ≠ some g9) ∧ (ss.2.2.2 = mapR p.length (chN p.length (pb p) x ss.1))) (fun (ss : Nat × (Option Nat) × Value × (List Int)) => p.length - ss.1) (0, none, v1, (List.replicate hs.length (0 : Int)).set x ((1 : Int))) ⟨rfl, rfl, trivial⟩ ⟨(Nat.le_trans (Nat.le_refl h.size) hx0_2.size), (hJS _ _ _ _ h0 hch2), ?_, ?_, ?_, ?_⟩ ?_
  · first | exact ho3 | (simpa using ho3)
  · try dsimp only
    omega
  · try dsimp only
    intro g9 _ e9; cases e9
  · try dsimp only
    rw [hp5]; exact chN_start hp3
  rintro g1 ⟨k, o, v, es⟩ hh1 ⟨hle1, hJ1, ho4, hk, hvo, hes⟩ IH1
  dsimp only at *
  have hel : es.length = p.length := by rw [hes]; exact mapR_len _ _
  obtain ⟨hcp6, hcp7, hcp8, hcp9, hcp10⟩ := hCap _ _ _ hJ1
  refine wi_seq <| wi_reg rfl <| lx_lssS rfl rfl rfl (fun c1 => ?_) (fun c1 => ?_)
  · have hJk1 := hJ1
    have hy2 := hY _ _ _ (by omega) hJk1
    dsimp only at hy2
    rw [show chN p.length (pb p) x k y = gt es y from by rw [hes, gt_mapR hp4]] at hy2
    refine lx_nil <| wi_seq <| wi_true rfl <| wi_skip <| wi_seq <| wi_block <| wi_seq <| wi_seq <| wi_reg rfl <| lx_move (.func (.yield l) #[] #[]) rfl rfl <| lx_move (v) rfl rfl <| lx_ldB (.int .i64 ((y : Nat) : Int)) rfl rfl fl3 hcp8 rfl rfl <| lx_ix (i := y) rfl eT58 ho4.rd rfl rfl (by omega) <| lx_ld (i := y) (j := 0) (.int .i64 (gt es y)) rfl rfl fl2 ho4.rd (by omega) rfl rfl <| lx_yield [.int .i64 (gt es y)] rfl rfl rfl rfl hy2 (fun _ _ => trivial) fun h3 ⟨o1, hty1, hno1, hJ2⟩ => ?_
    have ho5 := hty1.owE ho4 (by assumption)
    have hlt_o1 : ∀ b9, o1 = some b9 → b9 < h3.size := hLt _ _ _ hJ2
    have hle2 : h.size ≤ h3.size := Nat.le_trans hle1 hty1.1
    obtain ⟨hcp11, hcp12, hcp13, hcp14, hcp15⟩ := hCap _ _ _ hJ2
    refine lx_notB false rfl rfl rfl <| lx_nil <| wi_false rfl <| wi_skip <| wi_seq <| wi_reg rfl <| lx_ldB (vp) rfl rfl fl29 hcp11 rfl rfl <| lx_len rfl Try.underlying29 hcp14 rfl <| lx_make (E := encI) (n := hs.length) (B := h3.size) (0 : Int) rfl rfl Try.underlying58 (eZ58) rfl rfl (by omega) (by omega) (Nat.le_refl _) (fun _ _ => trivial) fun v2 h4 ho6 hx2 hvb2 => ?_
    have hch3 := hx2
    have hsz_hch3 := hch3.1
    have hx0_3 := hx2.mono hle2
    have ho7 := ho5.extS hx2
    have hb7 := hcp11.extS hx2
    have hb8 := hcp12.extS hx2
    have hb9 := hcp13.extS hx2
    have hxr1 := (Ext.refl h3.size h3).trans2 hx2 (Ext.refl h3.size h3).size
    have hnw_v2 : ∀ g9, Value.ownBlock v2 = some g9 → (h3).size ≤ g9 := fun g9 e9 => Nat.le_trans (Nat.le_refl _) (ho6.lt e9).1
    have ho8 := ho6.base hle2
    refine lx_assign (v2) rfl rfl <| lx_nil <| wi_seq <| wi_seq <| wi_reg rfl <| lx_move (v) rfl rfl <| lx_len rfl Try.underlying58 ho7.rd rfl <| lx_move (.int .i64 0) rfl rfl <| lx_nil <| wi_block <| ?_
    refine wi_loop (σ := Nat × (List Int)) (rngB 32 55 [7, 8, 9]) (fun (ss : Nat × (List Int)) => [(32, .int .i64 ((ss.1 : Nat) : Int))]) (fun (ss : Nat × (List Int)) (hh : Heap) => Ext (h3).size h3 hh ∧ OwE encI hh h.size 2 v es ∧ OwE encI hh h.size 2 v2 ss.2 ∧ Dj v v2 ∧ (ss.1 ≤ p.length) ∧ (ss.2 = mapR p.length (chP p.length (pb p) x k ss.1 0))) (fun (ss : Nat × (List Int)) => p.length - ss.1) (0, List.replicate hs.length 0) ⟨rfl, trivial⟩ ⟨hch3, ?_, ?_, (dj_new ho5 ho6), ?_, ?_⟩ ?_
    · first | exact ho7 | (simpa using ho7)
    · first | exact ho8 | (simpa using ho8)
    · try dsimp only
      omega
    · try dsimp only
      rw [hp5]; exact (rep_mapR _ _).trans (mapR_congr fun q _ => chP_zero.symm)
    rintro g2 ⟨z, es2⟩ hh2 ⟨hch4, ho9, ho10, hdj1, hz, hes2⟩ IH2
    dsimp only at *
    have hx0_4 := hch4.mono hle2
    obtain ⟨hcp16, hcp17, hcp18, hcp19, hcp20⟩ := hCap _ _ _ (hJS _ _ _ _ hJ2 hch4)
    refine wi_seq <| wi_reg rfl <| lx_lssS rfl rfl rfl (fun c2 => ?_) (fun c2 => ?_)
    · refine lx_nil <| wi_seq <| wi_true rfl <| wi_skip <| wi_seq <| wi_block <| wi_seq <| wi_reg rfl <| lx_move (.int .i64 ((z : Nat) : Int)) rfl rfl <| lx_ix (i := z) rfl eT58 ho9.rd rfl rfl (by omega) <| lx_ld (i := z) (j := 0) (.int .i64 (gt es z)) rfl rfl fl2 ho9.rd (by omega) rfl rfl <| lx_assign (.int .i64 ((z : Nat) : Int)) rfl rfl <| lx_assign (.int .i64 (gt es z)) rfl rfl <| lx_nil <| wi_seq <| wi_reg rfl <| lx_ldB (vp) rfl rfl fl29 hcp16 rfl rfl <| lx_len rfl Try.underlying29 hcp19 rfl <| lx_move (.int .i64 0) rfl rfl <| lx_nil <| wi_block <| ?_
      refine wi_loop (σ := Nat × (List Int)) (rngB 39 54 [9]) (fun (ss : Nat × (List Int)) => [(39, .int .i64 ((ss.1 : Nat) : Int))]) (fun (ss : Nat × (List Int)) (hh : Heap) => Ext (h3).size h3 hh ∧ OwE encI hh h.size 2 v es ∧ OwE encI hh h.size 2 v2 ss.2 ∧ Dj v v2 ∧ (ss.1 ≤ p.length) ∧ (ss.2 = mapR p.length (chP p.length (pb p) x k z ss.1))) (fun (ss : Nat × (List Int)) => p.length - ss.1) (0, es2) ⟨rfl, trivial⟩ ⟨hch4, ?_, ?_, hdj1, ?_, ?_⟩ ?_
      · first | exact ho9 | (simpa using ho9)
      · first | exact ho10 | (simpa using ho10)
      · try dsimp only
        omega
      · try dsimp only
        exact hes2
      rintro g3 ⟨w, es3⟩ hh3 ⟨hch5, ho11, ho12, hdj2, hw, hes3⟩ IH3
      dsimp only at *
      have hel3 : es3.length = p.length := by rw [hes3]; exact mapR_len _ _
      have hx0_5 := hch5.mono hle2
      obtain ⟨hcp21, hcp22, hcp23, hcp24, hcp25⟩ := hCap _ _ _ (hJS _ _ _ _ hJ2 hch5)
      refine wi_seq <| wi_reg rfl <| lx_lssS rfl rfl rfl (fun c3 => ?_) (fun c3 => ?_)
      · refine lx_nil <| wi_seq <| wi_true rfl <| wi_skip <| wi_seq <| wi_block <| wi_seq <| wi_reg rfl <| lx_move (.int .i64 ((w : Nat) : Int)) rfl rfl <| lx_assign (.int .i64 ((w : Nat) : Int)) rfl rfl <| lx_nil <| wi_seq <| wi_reg rfl <| lx_ldB (vp) rfl rfl fl29 hcp21 rfl rfl <| lx_move (.int .i64 ((z : Nat) : Int)) rfl rfl <| lx_move (.int .i64 ((w : Nat) : Int)) rfl rfl <| lx_call [vp, .int .i64 ((z : Nat) : Int), .int .i64 ((w : Nat) : Int)] rfl rfl Try.call106 rfl (below_spec hh3 vp hs p z w hcp24 hcp25 (by omega) (by first | with_reducible assumption | omega) (by omega) (by omega)) (fun _ _ _ => trivial) ?_
        rintro _ h5 ⟨rfl, rfl⟩
        refine lx_nil <| wi_condS (t := decide (z ≠ w) && pb p z w) rfl (fun c4 => ?_) (fun c4 => ?_)
        · refine wi_reg rfl <| ?_
          have hbl : blw (pb p) z w = true := by assumption
          have hg1 : gt es3 w = chP p.length (pb p) x k z w w := by rw [hes3, gt_mapR (by omega)]
          have hg2 : gt es z = chN p.length (pb p) x k z := by rw [hes, gt_mapR (by omega)]
          have hb1 := chP_bound (f := pb p) (x := x) (k := k) (z := z) (w := w) (q := w) hp1 (by omega) (by omega)
          rw [← hg1] at hb1
          have hb2 := chN_bound (f := pb p) (x := x) hp1 k z
          have hb3 : 12 ^ k ≤ 12 ^ 12 := Nat.pow_le_pow_right (by omega) (by omega)
          rw [← hg2] at hb2
          refine lx_move (v2) rfl rfl <| lx_move (.int .i64 ((w : Nat) : Int)) rfl rfl <| lx_ix (i := w) rfl eT58 ho12.rd rfl rfl (by omega) <| lx_ld (i := w) (j := 0) (.int .i64 (gt es3 w)) rfl rfl fl2 ho12.rd (by omega) rfl rfl <| lx_move (.int .i64 (gt es z)) rfl rfl <| lx_add ((gt es3 w) + (gt es z)) rfl rfl rfl (by omega) (by omega) (by omega) <| lx_ix (i := w) rfl eT58 ho12.rd rfl rfl (by omega) <| lx_st (i := w) ((gt es3 w) + (gt es z)) rfl rfl Try.sizeOf2 ho12 (by omega) rfl rfl (fun _ _ _ _ _ => trivial) fun h6 ho13 hc2 hsz2 => ?_
          have hch6 := hch5.trans ((Ext.of_chgN hc2 (by assumption) hch5.size : Ext (h3).size _ _))
          have hsz_hch6 := hch6.1
          have hx0_6 := hx0_5.trans (ho12.ext hc2 (Nat.le_trans hle2 hx0_5.size))
          have ho14 := ho11.chg hc2 hdj2
          have hb10 := hcp21.chg hc2 (nb_new hcp11 ho6)
          have hb11 := hcp22.chg hc2 (nb_new hcp12 ho6)
          have hb12 := hcp23.chg hc2 (nb_new hcp13 ho6)
          refine lx_nil <| wi_inBlock <| wi_reg rfl <| lx_add (((w + 1 : Nat) : Int)) rfl rfl rfl (by omega) (by omega) (by omega) <| lx_move (.int .i64 ((w + 1 : Nat) : Int)) rfl rfl <| lx_nil <| ?_
          -- L4.1
          refine IH3 _ _ (w + 1, es3.set w ((gt es3 w) + (gt es z))) (agree_ups rfl agree_self) ⟨rfl, trivial⟩ ⟨hch6, ?_, ?_, hdj2, ?_, ?_⟩ ?_
          · first | exact ho14 | (simpa using ho14)
          · first | exact ho13 | (simpa using ho13)
          · try dsimp only
            omega
          · try dsimp only
            rw [hg1, hg2, hes3]; exact chP_set (by omega) hbl
          · first | omega | (dsimp only; omega)
        · refine wi_skip <| wi_inBlock <| wi_reg rfl <| lx_add (((w + 1 : Nat) : Int)) rfl rfl rfl (by omega) (by omega) (by omega) <| lx_move (.int .i64 ((w + 1 : Nat) : Int)) rfl rfl <| lx_nil <| ?_
          -- L4.2
          refine IH3 _ _ (w + 1, es3) (agree_ups rfl agree_self) ⟨rfl, trivial⟩ ⟨hch5, ?_, ?_, hdj2, ?_, ?_⟩ ?_
          · first | exact ho11 | (simpa using ho11)
          · first | exact ho12 | (simpa using ho12)
          · try dsimp only
            omega
          · try dsimp only
            rw [hes3]; exact chP_skip (by assumption)
          · first | omega | (dsimp only; omega)
      · refine lx_nil <| wi_seq <| wi_false rfl <| wi_exit rfl <| wi_inBlock <| wi_reg rfl <| lx_add (((z + 1 : Nat) : Int)) rfl rfl rfl (by omega) (by omega) (by omega) <| lx_move (.int .i64 ((z + 1 : Nat) : Int)) rfl rfl <| lx_nil <| ?_
        -- L2.1
        refine IH2 _ _ (z + 1, es3) (agree_ups rfl (agree_mix (rngB_sub (by decide) (by decide) rfl) (agree_ups rfl agree_self))) ⟨rfl, trivial⟩ ⟨hch5, ?_, ?_, hdj2, ?_, ?_⟩ ?_
        · first | exact ho11 | (simpa using ho11)
        · first | exact ho12 | (simpa using ho12)
        · try dsimp only
          omega
        · try dsimp only
          rw [hes3, show w = p.length from by omega]; exact mapR_congr fun q hq => chP_next hq
        · first | omega | (dsimp only; omega)
    · refine lx_nil <| wi_seq <| wi_false rfl <| wi_exit rfl <| wi_reg rfl <| lx_move (v2) rfl rfl <| lx_assign (v2) rfl rfl <| lx_nil <| wi_inBlock <| wi_reg rfl <| lx_add (((k + 1 : Nat) : Int)) rfl rfl rfl (by omega) (by omega) (by omega) <| lx_move (.int .i64 ((k + 1 : Nat) : Int)) rfl rfl <| lx_nil <| ?_
      -- L0.1
      refine IH1 _ _ (k + 1, o1, v2, es2) (agree_ups rfl (agree_mix (rngB_sub (by decide) (by decide) rfl) (agree_ups rfl agree_self))) ⟨rfl, rfl, trivial⟩ ⟨(Nat.le_trans hle2 hx0_4.size), (hJS _ _ _ _ hJ2 hch4), ?_, ?_, ?_, ?_⟩ ?_
      · first | exact ho10 | (simpa using ho10)
      · try dsimp only
        omega
      · try dsimp only
        intro g9 e9 e8; have h1 := hnw_v2 g9 e9; have h2 := hlt_o1 g9 e8; omega
      · try dsimp only
        rw [hes2, show z = p.length from by omega]; exact mapR_congr fun q _ => chP_all
      · first | omega | (dsimp only; omega)
  · refine lx_nil <| wi_seq <| wi_false rfl <| wi_exit rfl <| ?_
    -- R1
    refine wi_end ⟨.tuple #[], (res_none rfl), hle1, ?_⟩
    have hJk := hJ1
    rw [show p.length = k from by omega]; exact ⟨_, hJk⟩

end Go.Proofs.Ytdokijbdnajhgaa
namespace Go.Proofs.Ytdokijbdnajhgaa
open Go Go.X

set_option maxRecDepth 10000 in
theorem appendSeqL_spec (h : Heap) (x : Nat) (y : Nat) (vp : Value) (hs : List Hdr) (p : List (List Bool)) (b1 : Nat) (b2 : Nat) (b3 : Nat) (hb_b1 : Blk h b1 (#[vp]) 29) (hb_b2 : Blk h b2 (#[.int .i64 ((x : Nat) : Int)]) 3) (hb_b3 : Blk h b3 (#[.int .i64 ((y : Nat) : Int)]) 3) (hr_vp : RdE encHd h vp hs) (ht_vp : RT encB h hs p) (hp1 : p.length ≤ 12) (hp2 : Sq p p.length) (hp3 : x < p.length) (hp4 : y < p.length) : Fx Try.prog 144 [.slice none 0 0, .func (.func 145) #[] #[.pointer (some ⟨b1, 0, none⟩), .pointer (some ⟨b2, 0, none⟩), .pointer (some ⟨b3, 0, none⟩)]] h (fun v h' => ∃ (s : Value), v = s ∧ OwE encI h' h.size 2 s ((mapR p.length fun k9 => chN p.length (pb p) x k9 y)) ∧ Ext h.size h h') := by
  have hl_vp := ht_vp.1
  refine fx_intro (n := 13) [(0, .slice none 0 0), (1, .func (.func 145) #[] #[.pointer (some ⟨b1, 0, none⟩), .pointer (some ⟨b2, 0, none⟩), .pointer (some ⟨b3, 0, none⟩)])] Try.func144 rfl rfl (by simp) ⟨rfl, rfl, trivial⟩ fun g0 => ?_
  refine wi_seq <| wi_reg rfl <| lx_box #[.slice none 0 0] rfl rfl rfl (fun _ _ _ => trivial) fun bn1 h1 hbn1 hbk1 hx1 hsz1 => ?_
  have hbb1 : h.size ≤ bn1 := by have := (Nat.le_refl h.size); omega
  have hne1 : bn1 ≠ b1 := by have := hb_b1.lt; omega
  have hne2 : bn1 ≠ b2 := by have := hb_b2.lt; omega
  have hne3 : bn1 ≠ b3 := by have := hb_b3.lt; omega
  have hb1 := hb_b1.extS hx1
  have hb2 := hb_b2.extS hx1
  have hb3 := hb_b3.extS hx1
  refine lx_assign (.slice none 0 0) rfl rfl <| lx_nil <| wi_seq <| wi_seq <| wi_reg rfl <| lx_move (.func (.func 145) #[] #[.pointer (some ⟨b1, 0, none⟩), .pointer (some ⟨b2, 0, none⟩), .pointer (some ⟨b3, 0, none⟩)]) rfl rfl <| lx_nil <| wi_block <| ?_
  refine wi_range (Ds := []) (gf := 145) (lb := [.pointer (some ⟨b1, 0, none⟩), .pointer (some ⟨b2, 0, none⟩), .pointer (some ⟨b3, 0, none⟩)]) Try.call145 rfl (fun l1 D1 h2 rc1 hlD1 hll1 hDl1 hx2 hlr1 hDr1 hLo1 => ?_)
  have hbl1 : h.size ≤ l1 := Nat.le_trans hx1.size hll1
  have hbD1 : h.size ≤ D1 := Nat.le_trans hx1.size hlD1
  have hx0_1 := hx1.trans2 hx2 hx1.size
  have hb4 := hb1.extS hx2
  have hb5 := hb2.extS hx2
  have hb6 := hb3.extS hx2
  have hb7 := hbk1.extS hx2
  refine Fx.mono (lengths1_seq b1 b2 b3 vp hs p x y hp1 hp2 hp3 hp4 hl_vp l1 h2 (fun k o hh => hh[l1]? = some (.loop rc1) ∧ DsOk (D1 :: []) hh ∧ ∃ (v : Value), Blk hh bn1 #[v] 58 ∧ OwE encI hh h.size 2 v ((mapR p.length fun k9 => chN p.length (pb p) x k9 y).take k) ∧ Ext h.size h hh ∧ o = Value.ownBlock v) ?_ ?_ ?_ ?_ ?_) ?_
  · rintro k o ha hb9 ⟨hr9, hd9, v, hbk2, ho1, hx0_2, hov9⟩ hq1
    exact ⟨(hq1.block _ (Array.getElem?_eq_some_iff.1 hr9).1).trans hr9, fun D9 hD9 => (hq1.block D9 (Array.getElem?_eq_some_iff.1 (hd9 D9 hD9)).1).trans (hd9 D9 hD9), v, hbk2.extS hq1, ho1.extS hq1, hx0_2.trans2 hq1 hx0_2.size, hov9⟩
  · rintro k o ha ⟨hr9, hd9, v, hbk3, ho2, hx0_3, hov9⟩
    exact ⟨hb_b1.extS hx0_3, hb_b2.extS hx0_3, hb_b3.extS hx0_3, hr_vp.extS hx0_3, ht_vp.extS hx0_3⟩
  · rintro k o ha ⟨hr9, hd9, v, hbk4, ho3, hx0_4, hov9⟩ b9 e9
    exact (ho3.lt (hov9.symm.trans e9)).2
  · rintro k o ha1 hk1 ⟨hr1, hd1, v, hbk5, ho4, hx0_5, hov9⟩
    refine yield_ok hLo1 hr1 rfl (by decide) ?_
    refine wi_forget [(2, .pointer (some ⟨bn1, 0, none⟩)), (7, .int .i64 (chN p.length (pb p) x k y))] ⟨rfl, rfl, trivial⟩ fun g1 => ?_
    refine wi_reg rfl <| lx_assign (.int .i64 (chN p.length (pb p) x k y)) rfl rfl <| lx_nil <| ?_
    refine wi_begin hr1 hLo1.st (fun h3 hc1 hbu1 => ?_)
    have hcel1 := cel_loop hc1 hr1
    have hx0_6 := hx0_5.trans (hc1.ext hbl1)
    have ho5 := hcel1.owE ho4
    have hb8 := hcel1.blk hbk5
    have hch1 := (TkO.of_tk (Tk.of_loop hc1 hr1) : TkO 2 o _ _)
    have hsz_hch1 := hch1.1
    have hd2 := hd1.chgL hr1 hc1
    refine wi_block <| wi_reg rfl <| ?_
    have htk : ((mapR p.length fun k9 => chN p.length (pb p) x k9 y).take k).length = k := by rw [List.length_take, mapR_len]; omega
    refine lx_ldB (v) rfl rfl fl58 hb8 rfl rfl <| lx_move (.int .i64 (chN p.length (pb p) x k y)) rfl rfl <| lx_appendL (E := encI) (B := h.size) [chN p.length (pb p) x k y] [.int .i64 (chN p.length (pb p) x k y)] rfl rfl (fun _ => rfl) rfl eT58 rfl rfl rfl rfl ho5 (fun _ => rfl) (by show ((mapR p.length fun k9 => chN p.length (pb p) x k9 y).take k).length + 1 ≤ _; omega) (by show (((mapR p.length fun k9 => chN p.length (pb p) x k9 y).take k).length + 1) * 8 ≤ _; omega) hx0_6.size (fun _ _ => trivial) fun u1 v1 h4 ho6 hc2 hg1 => ?_
    have hch2 := hch1.trans (((by rw [hov9]; exact TkO.of_chg hc2) : TkO 2 o _ _))
    have hsz_hch2 := hch2.1
    have hch3 := Nc.of_chg hc2 ho5
    have hsz_hch3 := hch3.1
    have hx0_7 := hx0_6.trans (ho5.ext hc2 hx0_6.size)
    have hb9 := hb8.chg hc2 (nb_ty ho5 hb8 (by decide))
    refine lx_stB (v1) rfl rfl Try.sizeOf58 hb9 (by simp) rfl rfl (sl_cells ho6.rd) (sl_one ho6.rd) (fun _ _ _ _ => trivial) fun h5 hbk6 hc3 => ?_
    have hch4 := hch2.trans ((TkO.of_tk (Tk.of_chgB hc3 hb9 (by decide)) : TkO 2 o _ _))
    have hsz_hch4 := hch4.1
    have hch5 := hch3.trans (Nc.of_chgB hc3 hb9)
    have hsz_hch5 := hch5.1
    have hx0_8 := hx0_7.trans (hc3.ext hbb1)
    have ho7 := hc3.owE ho6 (nb_ty ho6 hb9 (by decide))
    have hbk6 : Blk h5 bn1 #[v1] 58 := hbk6
    refine lx_nil <| wi_inBlock <| ?_
    have hbu2 := (nc_loop hch5 hbu1)
    have hd3 := (hd2.nc hch5)
    -- Q0.1
    refine wi_end ⟨rfl, hbu2, fun h6 hc4 hlr2 => ?_⟩
    have hcel2 := cel_loop hc4 hbu2
    have hx0_9 := hx0_8.trans (hc4.ext hbl1)
    have ho8 := hcel2.owE ho7
    have hb10 := hcel2.blk hbk6
    refine ⟨Value.ownBlock v1, hch4.trans (TkO.of_tk (Tk.of_loop hc4 hbu2)), (fun b9 e9 => (hg1 b9 e9).elim (fun h9 => .inl (by rw [hov9]; exact h9)) fun h9 => .inr (by omega)), hlr2, hd3.chgL hbu2 hc4, (v1), ?_, ?_, hx0_9, rfl⟩
    · exact hb10
    · rw [List.take_add_one, gt_some (show k < (mapR p.length fun k9 => chN p.length (pb p) x k9 y).length by rw [mapR_len]; omega), gt_mapR (by omega)]; exact ho8
  · refine ⟨hlr1, DsOk.cons hDr1 (DsOk.nil _), (.slice none 0 0), ?_, ?_, hx0_1, rfl⟩
    · exact hb7
    · rw [List.take_zero]; exact (owE_nil encI _ h.size 2)
  rintro _ h7 ⟨_, _, hr2, hd4, v, hbk7, ho9, hx0_10, _⟩
  refine ⟨hr2, fun h8 hc5 => ?_⟩
  have hcel3 := cel_loop hc5 hr2
  have hx0_11 := hx0_10.trans (hc5.ext hbl1)
  have ho10 := hcel3.owE ho9
  have hb11 := hcel3.blk hbk7
  have hd5 := hd4.chgL hr2 hc5
  have hbDs1 : ∀ d ∈ D1 :: [], h.size ≤ d := fun d hd9 => by
    rw [List.mem_cons] at hd9
    rcases hd9 with rfl | hd9
    · exact hbD1
    · exact (fun d hd9 => by cases hd9) d hd9
  have hnd1 : (D1 :: []).Nodup := List.nodup_cons.2 ⟨fun hd9 => (by cases hd9), List.nodup_nil⟩
  have hlt1 : ∀ d ∈ D1 :: [], d < h8.size := fun d hd9 => (Array.getElem?_eq_some_iff.1 (hd5 d hd9)).1
  refine wi_inBlock <| wi_seq <| wi_reg rfl <| lx_ldB (v) rfl rfl fl58 hb11 rfl rfl <| lx_assign (v) rfl rfl <| lx_nil <| ?_
  -- R1
  have hd6 := hd5
  refine wi_retD (Ds := D1 :: []) hnd1 hd6 (fun h9 hcel4 hsz2 hbb2 => ?_)
  have hx0_12 := ext_marks2 hx0_11 hd6 hbDs1 hsz2 hbb2
  have ho11 := hcel4.owE ho10
  have hb12 := hcel4.blk hb11
  refine ⟨v, (res_one rfl rfl), ⟨v, rfl, ?_, hx0_12⟩⟩
  · have h99 := ho11
    rw [List.take_of_length_le (by rw [mapR_len]; exact Nat.le_refl _)] at h99; exact h99

end Go.Proofs.Ytdokijbdnajhgaa
namespace Go.Proofs.Ytdokijbdnajhgaa
open Go Go.X

set_option maxRecDepth 10000 in
theorem collectL_spec (h : Heap) (x : Nat) (y : Nat) (vp : Value) (hs : List Hdr) (p : List (List Bool)) (b1 : Nat) (b2 : Nat) (b3 : Nat) (hb_b1 : Blk h b1 (#[vp]) 29) (hb_b2 : Blk h b2 (#[.int .i64 ((x : Nat) : Int)]) 3) (hb_b3 : Blk h b3 (#[.int .i64 ((y : Nat) : Int)]) 3) (hr_vp : RdE encHd h vp hs) (ht_vp : RT encB h hs p) (hp1 : p.length ≤ 12) (hp2 : Sq p p.length) (hp3 : x < p.length) (hp4 : y < p.length) : Fx Try.prog 109 [.func (.func 145) #[] #[.pointer (some ⟨b1, 0, none⟩), .pointer (some ⟨b2, 0, none⟩), .pointer (some ⟨b3, 0, none⟩)]] h (fun v h' => ∃ (s : Value), v = s ∧ OwE encI h' h.size 2 s ((mapR p.length fun k9 => chN p.length (pb p) x k9 y)) ∧ Ext h.size h h') := by
  have hl_vp := ht_vp.1
  refine fx_intro (n := 5) [(0, .func (.func 145) #[] #[.pointer (some ⟨b1, 0, none⟩), .pointer (some ⟨b2, 0, none⟩), .pointer (some ⟨b3, 0, none⟩)])] Try.func109 rfl rfl (by simp) ⟨rfl, trivial⟩ fun g0 => ?_
  refine wi_seq <| wi_reg rfl <| lx_assign (.slice none 0 0) rfl rfl <| lx_nil <| wi_seq <| wi_reg rfl <| lx_move (.func (.func 145) #[] #[.pointer (some ⟨b1, 0, none⟩), .pointer (some ⟨b2, 0, none⟩), .pointer (some ⟨b3, 0, none⟩)]) rfl rfl <| lx_call [.slice none 0 0, .func (.func 145) #[] #[.pointer (some ⟨b1, 0, none⟩), .pointer (some ⟨b2, 0, none⟩), .pointer (some ⟨b3, 0, none⟩)]] rfl rfl Try.call144 rfl (appendSeqL_spec h x y vp hs p b1 b2 b3 hb_b1 hb_b2 hb_b3 hr_vp ht_vp (by omega) (by first | with_reducible assumption | omega) (by omega) (by omega)) (fun _ _ _ => trivial) ?_
  rintro v1 h1 ⟨_, rfl, ho1, hx1⟩
  have hb1 := hb_b1.extS hx1
  have hb2 := hb_b2.extS hx1
  have hb3 := hb_b3.extS hx1
  have ho2 := ho1.base (Nat.le_refl h.size)
  refine lx_assign (v1) rfl rfl <| lx_nil <| ?_
  -- R1
  refine wi_ret ⟨v1, (res_one rfl rfl), ⟨v1, rfl, ho2, hx1⟩⟩

set_option maxRecDepth 10000 in
theorem lengths_spec (h : Heap) (vp : Value) (hs : List Hdr) (p : List (List Bool)) (x : Nat) (y : Nat) (hr_vp : RdE encHd h vp hs) (ht_vp : RT encB h hs p) : Fx Try.prog 110 [vp, .int .i64 ((x : Nat) : Int), .int .i64 ((y : Nat) : Int)] h (fun v h' => ∃ (b1 : Nat) (b2 : Nat) (b3 : Nat), v = .func (.func 145) #[] #[.pointer (some ⟨b1, 0, none⟩), .pointer (some ⟨b2, 0, none⟩), .pointer (some ⟨b3, 0, none⟩)] ∧ h.size ≤ b1 ∧ Blk h' b1 (#[vp]) 29 ∧ h.size ≤ b2 ∧ Blk h' b2 (#[.int .i64 ((x : Nat) : Int)]) 3 ∧ h.size ≤ b3 ∧ Blk h' b3 (#[.int .i64 ((y : Nat) : Int)]) 3 ∧ Ext h.size h h') := by
  have hl_vp := ht_vp.1
  refine fx_intro (n := 8) [(0, vp), (1, .int .i64 ((x : Nat) : Int)), (2, .int .i64 ((y : Nat) : Int))] Try.func110 rfl rfl (by simp) ⟨rfl, rfl, rfl, trivial⟩ fun g0 => ?_
  refine wi_seq <| wi_reg rfl <| lx_box #[vp] rfl rfl (sl_cells hr_vp) (fun _ _ _ => trivial) fun bn1 h1 hbn1 hbk1 hx1 hsz1 => ?_
  have hbb1 : h.size ≤ bn1 := by have := (Nat.le_refl h.size); omega
  refine lx_box #[.int .i64 ((x : Nat) : Int)] rfl rfl rfl (fun _ _ _ => trivial) fun bn2 h2 hbn2 hbk2 hx2 hsz2 => ?_
  have hbb2 : h.size ≤ bn2 := by have := hx1.size; omega
  have hne1 : bn2 ≠ bn1 := by have := hbk1.lt; omega
  have hx0_1 := hx1.trans2 hx2 hx1.size
  have hb1 := hbk1.extS hx2
  refine lx_box #[.int .i64 ((y : Nat) : Int)] rfl rfl rfl (fun _ _ _ => trivial) fun bn3 h3 hbn3 hbk3 hx3 hsz3 => ?_
  have hbb3 : h.size ≤ bn3 := by have := hx0_1.size; omega
  have hne2 : bn3 ≠ bn1 := by have := hb1.lt; omega
  have hne3 : bn3 ≠ bn2 := by have := hbk2.lt; omega
  have hx0_2 := hx0_1.trans2 hx3 hx0_1.size
  have hb2 := hb1.extS hx3
  have hb3 := hbk2.extS hx3
  refine lx_assign (.nilFunc) rfl rfl <| lx_nil <| wi_seq <| wi_reg rfl <| lx_makeFunc [] [.pointer (some ⟨bn1, 0, none⟩), .pointer (some ⟨bn2, 0, none⟩), .pointer (some ⟨bn3, 0, none⟩)] rfl rfl rfl <| lx_assign (.func (.func 145) #[] #[.pointer (some ⟨bn1, 0, none⟩), .pointer (some ⟨bn2, 0, none⟩), .pointer (some ⟨bn3, 0, none⟩)]) rfl rfl <| lx_nil <| ?_
  -- R1
  refine wi_ret ⟨.func (.func 145) #[] #[.pointer (some ⟨bn1, 0, none⟩), .pointer (some ⟨bn2, 0, none⟩), .pointer (some ⟨bn3, 0, none⟩)], (res_one rfl rfl), ⟨bn1, bn2, bn3, rfl, ?_, hb2, ?_, hb3, ?_, hbk3, hx0_2⟩⟩
  · omega
  · omega
  · omega

/-- What Chains answers. -/
def chaC (p : List (List Bool)) (x y : Int) : Int := if chkT p = 0 then (if 0 ≤ x ∧ 0 ≤ y ∧ x < p.length ∧ y < p.length then 0 else 1) else chkT p
/-- The numbers of chains, without the noughts at the end. -/
def chaR (n : Nat) (f : Nat → Nat → Bool) (x y : Nat) (ys : List Int) : Prop := ∃ L, L ≤ n ∧ ys = mapR L (fun k => chN n f x k y) ∧ (∀ k, L ≤ k → k < n → chN n f x k y = 0) ∧ (L = 0 ∨ chN n f x (L - 1) y ≠ 0)
theorem mapR_take {n L : Nat} {g : Nat → Int} (h : L ≤ n) : (mapR n g).take L = mapR L g := by
  unfold mapR
  rw [← List.map_take, List.take_range, Nat.min_eq_left h]

set_option maxRecDepth 10000 in
theorem ochains_spec (h : Heap) (vp : Value) (hs : List Hdr) (p : List (List Bool)) (x : Int) (y : Int) (hr_vp : RdE encHd h vp hs) (ht_vp : RT encB h hs p) (hp1 : p.length ≤ 1000000) (hp2 : ∀ i, i < p.length → (gt p i).length ≤ 1000000) : Fx Try.prog 50 [vp, .int .i64 x, .int .i64 y] h (fun v h' => ∃ (s : Value) (ys : List Int), v = .tuple #[s, .int .i64 (chaC p x y)] ∧ OwE encI h' h.size 2 s ys ∧ ((chaC p x y ≠ 0 ∧ ys = []) ∨ (chaC p x y = 0 ∧ chaR p.length (pb p) x.toNat y.toNat ys)) ∧ Ext h.size h h') := by
  have hl_vp := ht_vp.1
  refine fx_intro (n := 50) [(0, vp), (1, .int .i64 x), (2, .int .i64 y)] Try.func50 rfl rfl (by simp) ⟨rfl, rfl, rfl, trivial⟩ fun g0 => ?_
  refine wi_seq <| wi_reg rfl <| lx_assign (.slice none 0 0) rfl rfl <| lx_assign (.int .i64 0) rfl rfl <| lx_nil <| wi_seq <| wi_seq <| wi_reg rfl <| lx_move (vp) rfl rfl <| lx_call [vp] rfl rfl Try.call62 rfl (ocheck_spec h vp hs p hr_vp ht_vp (by omega) (by first | with_reducible assumption | omega)) (fun _ _ _ => trivial) ?_
  rintro _ h1 ⟨rfl, hx1⟩
  refine lx_assign (.int .i64 (chkT p)) rfl rfl <| lx_nil <| wi_seq <| wi_reg rfl <| lx_move (.int .i64 (chkT p)) rfl rfl <| lx_neqS rfl rfl rfl (fun c1 => ?_) (fun c1 => ?_)
  · refine lx_nil <| wi_true rfl <| wi_seq <| wi_reg rfl <| lx_move (.int .i64 (chkT p)) rfl rfl <| lx_assign (.slice none 0 0) rfl rfl <| lx_assign (.int .i64 (chkT p)) rfl rfl <| lx_nil <| ?_
    have h99 : chaC p x y = chkT p := if_neg (by omega)
    -- R1
    refine wi_ret ⟨.tuple #[.slice none 0 0, .int .i64 (chkT p)], (res_two rfl rfl rfl), ⟨.slice none 0 0, [], ?_, (owE_nil encI _ h.size 2), ?_, hx1⟩⟩
    · rw [h99]
    · exact .inl ⟨by omega, rfl⟩
  · refine lx_nil <| wi_false rfl <| wi_skip <| wi_seq <| wi_seq <| wi_reg rfl <| ?_
    have hok := chkT_ok (p := p) (by omega)
    have hp12 : p.length ≤ 12 := hok.2.1
    have hpq : Sq p p.length := isT_sq hok.2.2
    have hl_vp9 : hs.length = p.length := by first | assumption | omega
    refine lx_move (.int .i64 x) rfl rfl <| lx_move (.int .i64 y) rfl rfl <| lx_min (min x y) rfl rfl rfl (by omega) <| lx_lssS rfl rfl rfl (fun c2 => ?_) (fun c2 => ?_)
    · refine lx_move (.bool true) rfl rfl <| lx_skip rfl <| lx_skip rfl <| lx_skip rfl <| lx_skip rfl <| lx_skip rfl <| lx_skip rfl <| lx_pick true (.bool true) rfl rfl rfl <| lx_nil <| wi_true rfl <| wi_seq <| wi_reg rfl <| lx_assign (.slice none 0 0) rfl rfl <| lx_assign (.int .i64 1) rfl rfl <| lx_nil <| ?_
      have h99 : chaC p x y = 1 := by unfold chaC; rw [if_pos (by omega), if_neg (by omega)]
      -- R2
      refine wi_ret ⟨.tuple #[.slice none 0 0, .int .i64 1], (res_two rfl rfl rfl), ⟨.slice none 0 0, [], ?_, (owE_nil encI _ h.size 2), ?_, hx1⟩⟩
      · rw [h99]
      · exact .inl ⟨by omega, rfl⟩
    · refine lx_move (.bool false) rfl rfl <| lx_move (.int .i64 x) rfl rfl <| lx_move (.int .i64 y) rfl rfl <| lx_max (max x y) rfl rfl rfl (by omega) <| lx_move (vp) rfl rfl <| lx_len rfl Try.underlying29 hr_vp rfl <| lx_geqS rfl rfl rfl (fun c3 => ?_) (fun c3 => ?_)
      · refine lx_pick false (.bool true) rfl rfl rfl <| lx_nil <| wi_true rfl <| wi_seq <| wi_reg rfl <| lx_assign (.slice none 0 0) rfl rfl <| lx_assign (.int .i64 1) rfl rfl <| lx_nil <| ?_
        have h99 : chaC p x y = 1 := by unfold chaC; rw [if_pos (by omega), if_neg (by omega)]
        -- R3
        refine wi_ret ⟨.tuple #[.slice none 0 0, .int .i64 1], (res_two rfl rfl rfl), ⟨.slice none 0 0, [], ?_, (owE_nil encI _ h.size 2), ?_, hx1⟩⟩
        · rw [h99]
        · exact .inl ⟨by omega, rfl⟩
      · refine lx_pick false (.bool false) rfl rfl rfl <| lx_nil <| wi_false rfl <| wi_skip <| wi_seq <| wi_reg rfl <| ?_
        have hx0 : 0 ≤ x ∧ 0 ≤ y := by omega
        have hxn : x < p.length ∧ y < p.length := by omega
        have hcc : chaC p x y = 0 := by unfold chaC; rw [if_pos (by omega), if_pos ⟨hx0.1, hx0.2, hxn.1, hxn.2⟩]
        obtain ⟨x9, rfl⟩ : ∃ x9 : Nat, x = ((x9 : Nat) : Int) := ⟨x.toNat, by omega⟩
        obtain ⟨y9, rfl⟩ : ∃ y9 : Nat, y = ((y9 : Nat) : Int) := ⟨y.toNat, by omega⟩
        refine lx_move (vp) rfl rfl <| lx_move (.int .i64 ((x9 : Nat) : Int)) rfl rfl <| lx_move (.int .i64 ((y9 : Nat) : Int)) rfl rfl <| lx_call [vp, .int .i64 ((x9 : Nat) : Int), .int .i64 ((y9 : Nat) : Int)] rfl rfl Try.call110 rfl (lengths_spec h1 vp hs p x9 y9 (hr_vp.extS hx1) (ht_vp.extS hx1)) (fun _ _ _ => trivial) ?_
        rintro _ h2 ⟨b1_1, b2_1, b3_1, rfl, ho1, hot1, ho2, hot2, ho3, hot3, hx2⟩
        have hx0_1 := hx1.trans2 hx2 hx1.size
        have hbx1 : h.size ≤ b1_1 := Nat.le_trans hx1.size ho1
        have hbx2 : h.size ≤ b2_1 := Nat.le_trans hx1.size ho2
        have hbx3 : h.size ≤ b3_1 := Nat.le_trans hx1.size ho3
        refine lx_call [.func (.func 145) #[] #[.pointer (some ⟨b1_1, 0, none⟩), .pointer (some ⟨b2_1, 0, none⟩), .pointer (some ⟨b3_1, 0, none⟩)]] rfl rfl Try.call109 rfl (collectL_spec h2 x9 y9 vp hs p b1_1 b2_1 b3_1 hot1 hot2 hot3 (hr_vp.extS hx0_1) (ht_vp.extS hx0_1) (by omega) hpq (by omega) (by omega)) (fun _ _ _ => trivial) ?_
        rintro v1 h3 ⟨_, rfl, ho4, hx3⟩
        have hx0_2 := hx0_1.trans2 hx3 hx0_1.size
        have hb1 := hot1.extS hx3
        have hb2 := hot2.extS hx3
        have hb3 := hot3.extS hx3
        have ho5 := ho4.base hx0_1.size
        refine lx_assign (v1) rfl rfl <| lx_nil <| wi_seq <| wi_block <| ?_
        refine wi_loop (σ := Nat × Value × (List Int)) (rngB 32 49 [9]) (fun (ss : Nat × Value × (List Int)) => [(9, ss.2.1)]) (fun (ss : Nat × Value × (List Int)) (hh : Heap) => OwE encI hh h.size 2 ss.2.1 ss.2.2 ∧ Ext h.size h hh ∧ (ss.1 ≤ p.length) ∧ (ss.2.2 = mapR ss.1 fun k9 => chN p.length (pb p) x9 k9 y9) ∧ (∀ k9, ss.1 ≤ k9 → k9 < p.length → chN p.length (pb p) x9 k9 y9 = 0)) (fun (ss : Nat × Value × (List Int)) => ss.1) (p.length, v1, (mapR p.length fun k9 => chN p.length (pb p) x9 k9 y9)) ⟨rfl, trivial⟩ ⟨?_, hx0_2, ?_, ?_, ?_⟩ ?_
        · first | exact ho5 | (simpa using ho5)
        · try dsimp only
          omega
        · try dsimp only
          first | done | rfl
        · try dsimp only
          intro k9 h1 h2; omega
        rintro g1 ⟨L, v, ys⟩ hh1 ⟨ho6, hx0_3, hL, hys, hz⟩ IH1
        dsimp only at *
        have hyl : ys.length = L := by rw [hys]; exact mapR_len _ _
        refine wi_seq <| wi_seq <| wi_reg rfl <| lx_move (v) rfl rfl <| lx_len rfl Try.underlying58 ho6.rd rfl <| lx_gtrS rfl rfl rfl (fun c4 => ?_) (fun c4 => ?_)
        · refine lx_move (.bool true) rfl rfl <| lx_move (v) rfl rfl <| lx_move (v) rfl rfl <| lx_len rfl Try.underlying58 ho6.rd rfl <| lx_sub (((L - 1 : Nat) : Int)) rfl rfl rfl (by omega) (by omega) (by omega) <| lx_ix (i := L - 1) rfl eT58 ho6.rd rfl rfl (by omega) <| lx_ld (i := L - 1) (j := 0) (.int .i64 (gt ys (L - 1))) rfl rfl fl2 ho6.rd (by omega) rfl rfl <| lx_eqlS rfl rfl rfl (fun c5 => ?_) (fun c5 => ?_)
          · refine lx_pick true (.bool true) rfl rfl rfl <| lx_nil <| wi_true rfl <| wi_skip <| wi_block <| wi_reg rfl <| lx_move (v) rfl rfl <| lx_move (v) rfl rfl <| lx_len rfl Try.underlying58 ho6.rd rfl <| lx_sub (((L - 1 : Nat) : Int)) rfl rfl rfl (by omega) (by omega) (by omega) <| lx_slice (E := encI) 0 (L - 1) rfl eT58 rfl rfl ⟨_, rfl⟩ ho6.rd (by omega) (by omega) fun v2 hs1 hso1 => ?_
            have ho7 := sl_own ho6 (hso1 rfl).2 (by omega)
            refine lx_assign (v2) rfl rfl <| lx_nil <| wi_inBlock <| ?_
            -- L0.1
            refine IH1 _ _ (L - 1, v2, ys.take (L - 1)) (agree_ups rfl agree_self) ⟨rfl, trivial⟩ ⟨?_, hx0_3, ?_, ?_, ?_⟩ ?_
            · first | exact ho7 | (simpa using ho7)
            · try dsimp only
              omega
            · try dsimp only
              rw [hys]; exact mapR_take (by omega)
            · try dsimp only
              intro k9 h1 h2
              by_cases e : k9 = L - 1
              · have h3 : gt ys (L - 1) = 0 := by omega
                rw [hys, gt_mapR (by omega)] at h3; rw [e]; exact h3
              · exact hz k9 (by omega) h2
            · first | omega | (dsimp only; omega)
          · refine lx_pick true (.bool false) rfl rfl rfl <| lx_nil <| wi_false rfl <| wi_exit rfl <| wi_seq <| wi_reg rfl <| lx_move (v) rfl rfl <| lx_assign (v) rfl rfl <| lx_assign (.int .i64 0) rfl rfl <| lx_nil <| ?_
            -- R4
            refine wi_ret ⟨.tuple #[v, .int .i64 0], (res_two rfl rfl rfl), ⟨v, ys, ?_, ho6, ?_, hx0_3⟩⟩
            · rw [hcc]
            · refine .inr ⟨hcc, L, hL, by rw [Int.toNat_natCast, Int.toNat_natCast]; exact hys, fun k h1 h2 => by rw [Int.toNat_natCast, Int.toNat_natCast]; exact hz k h1 h2, ?_⟩
              rw [Int.toNat_natCast, Int.toNat_natCast]
              by_cases e0 : L = 0
              · exact .inl e0
              · refine .inr fun h9 => ?_
                have h3 : gt ys (L - 1) = 0 := by rw [hys, gt_mapR (by omega)]; exact h9
                omega
        · refine lx_move (.bool false) rfl rfl <| lx_skip rfl <| lx_skip rfl <| lx_skip rfl <| lx_skip rfl <| lx_skip rfl <| lx_skip rfl <| lx_skip rfl <| lx_pick false (.bool false) rfl rfl rfl <| lx_nil <| wi_false rfl <| wi_exit rfl <| wi_seq <| wi_reg rfl <| lx_move (v) rfl rfl <| lx_assign (v) rfl rfl <| lx_assign (.int .i64 0) rfl rfl <| lx_nil <| ?_
          -- R5
          refine wi_ret ⟨.tuple #[v, .int .i64 0], (res_two rfl rfl rfl), ⟨v, ys, ?_, ho6, ?_, hx0_3⟩⟩
          · rw [hcc]
          · refine .inr ⟨hcc, L, hL, by rw [Int.toNat_natCast, Int.toNat_natCast]; exact hys, fun k h1 h2 => by rw [Int.toNat_natCast, Int.toNat_natCast]; exact hz k h1 h2, ?_⟩
            rw [Int.toNat_natCast, Int.toNat_natCast]
            by_cases e0 : L = 0
            · exact .inl e0
            · refine .inr fun h9 => ?_
              have h3 : gt ys (L - 1) = 0 := by rw [hys, gt_mapR (by omega)]; exact h9
              omega

end Go.Proofs.Ytdokijbdnajhgaa
namespace Go.Proofs.Ytdokijbdnajhgaa
open Go Go.X

section
variable {n : Nat} {f : Nat → Nat → Bool}
variable (ho : IsO n f) (hg : noGap n f)
include ho hg
end
section
variable {n : Nat} {f : Nat → Nat → Bool} (ho : IsO n f) (hg : noGap n f) (hn : 1 ≤ n)
include ho in
include ho hg in
include ho in
include ho hg hn in
include ho hg hn in
include ho hg hn in
include ho hg hn in
include ho hg in
include ho hg hn in
include ho hg hn in
end
end Go.Proofs.Ytdokijbdnajhgaa
namespace Go.Proofs.Ytdokijbdnajhgaa
open Go Go.X

end Go.Proofs.Ytdokijbdnajhgaa
namespace Go.Proofs.Ytdokijbdnajhgaa
open Go Go.X

end Go.Proofs.Ytdokijbdnajhgaa
namespace Go.Proofs.Ytdokijbdnajhgaa
open Go Go.X

theorem chaR_uniq {n x y : Nat} {f : Nat → Nat → Bool} {ys zs : List Int} (h1 : chaR n f x y ys) (h2 : chaR n f x y zs) : ys = zs := by
  obtain ⟨L, a1, rfl, a3, a4⟩ := h1
  obtain ⟨M, b1, rfl, b3, b4⟩ := h2
  have e : L = M := by
    rcases Nat.lt_trichotomy L M with h | h | h
    · rcases b4 with h9 | h9
      · omega
      · exact absurd (a3 (M - 1) (by omega) (by omega)) h9
    · exact h
    · rcases a4 with h9 | h9
      · omega
      · exact absurd (b3 (L - 1) (by omega) (by omega)) h9
  rw [e]
theorem chaR_len {n x y : Nat} {f : Nat → Nat → Bool} {ys : List Int} (h : chaR n f x y ys) : ys.length ≤ n := by
  obtain ⟨L, a1, rfl, _⟩ := h
  rw [mapR_len]; exact a1

set_option maxRecDepth 10000 in
theorem rlist_spec (h : Heap) (vp : Value) (hs : List Hdr) (p : List (List Bool)) (vl : Value) (xs : List Int) (hr_vp : RdE encHd h vp hs) (ht_vp : RT encB h hs p) (hr_vl : RdE encI h vl xs) (hp1 : xs.length ≤ 1000000) : Fx Try.prog 57 [vp, vl] h (fun v h' => v = .int .i64 (lstE p.length xs) ∧ h = h') := by
  have hl_vp := ht_vp.1
  refine fx_intro (n := 29) [(0, vp), (1, vl)] Try.func57 rfl rfl (by simp) ⟨rfl, rfl, trivial⟩ fun g0 => ?_
  refine wi_seq <| wi_reg rfl <| lx_assign (.int .i64 0) rfl rfl <| lx_nil <| wi_seq <| wi_seq <| wi_reg rfl <| lx_move (vl) rfl rfl <| lx_len rfl Try.underlying58 hr_vl rfl <| lx_move (vp) rfl rfl <| lx_len rfl Try.underlying23 hr_vp rfl <| lx_neqS rfl rfl rfl (fun c1 => ?_) (fun c1 => ?_)
  · refine lx_nil <| wi_true rfl <| wi_seq <| wi_reg rfl <| lx_assign (.int .i64 7) rfl rfl <| lx_nil <| ?_
    -- R1
    refine wi_ret ⟨.int .i64 7, (res_one rfl rfl), ⟨?_, rfl⟩⟩
    · congr 1; unfold lstE; rw [if_neg (by omega)]
  · refine lx_nil <| wi_false rfl <| wi_skip <| wi_seq <| wi_seq <| wi_reg rfl <| lx_assign (.int .i64 0) rfl rfl <| lx_nil <| wi_block <| ?_
    refine wi_loop (σ := Nat) (rngB 11 29 [4, 5]) (fun (i : Nat) => [(5, .int .i64 ((i : Nat) : Int))]) (fun (i : Nat) (hh : Heap) => h = hh ∧ (i ≤ xs.length) ∧ (∀ j, j < i → -1000000000 ≤ gt xs j ∧ gt xs j ≤ 1000000000)) (fun (i : Nat) => xs.length - i) 0 ⟨rfl, trivial⟩ ⟨rfl, ?_, ?_⟩ ?_
    · try dsimp only
      omega
    · try dsimp only
      intro j hj; omega
    rintro g1 i hh1 ⟨rfl, hi, he⟩ IH1
    refine wi_seq <| wi_seq <| wi_reg rfl <| lx_move (.int .i64 ((i : Nat) : Int)) rfl rfl <| lx_move (vl) rfl rfl <| lx_len rfl Try.underlying58 hr_vl rfl <| lx_lssS rfl rfl rfl (fun c2 => ?_) (fun c2 => ?_)
    · refine lx_nil <| wi_true rfl <| wi_skip <| wi_seq <| wi_block <| wi_seq <| wi_reg rfl <| lx_move (vl) rfl rfl <| lx_move (.int .i64 ((i : Nat) : Int)) rfl rfl <| lx_ix (i := i) rfl eT58 hr_vl rfl rfl (by omega) <| lx_ld (i := i) (j := 0) (.int .i64 (gt xs i)) rfl rfl fl2 hr_vl (by omega) rfl rfl <| lx_lssS rfl rfl rfl (fun c3 => ?_) (fun c3 => ?_)
      · refine lx_move (.bool true) rfl rfl <| lx_skip rfl <| lx_skip rfl <| lx_skip rfl <| lx_skip rfl <| lx_skip rfl <| lx_pick true (.bool true) rfl rfl rfl <| lx_nil <| wi_true rfl <| wi_seq <| wi_reg rfl <| lx_assign (.int .i64 1) rfl rfl <| lx_nil <| ?_
        -- R2
        refine wi_ret ⟨.int .i64 1, (res_one rfl rfl), ⟨?_, rfl⟩⟩
        · congr 1; unfold lstE; rw [if_pos (by omega), if_neg (fun h9 => by have := numB_iff.1 h9 i (by omega); omega)]
      · refine lx_move (.bool false) rfl rfl <| lx_move (vl) rfl rfl <| lx_move (.int .i64 ((i : Nat) : Int)) rfl rfl <| lx_ix (i := i) rfl eT58 hr_vl rfl rfl (by omega) <| lx_ld (i := i) (j := 0) (.int .i64 (gt xs i)) rfl rfl fl2 hr_vl (by omega) rfl rfl <| lx_gtrS rfl rfl rfl (fun c4 => ?_) (fun c4 => ?_)
        · refine lx_pick false (.bool true) rfl rfl rfl <| lx_nil <| wi_true rfl <| wi_seq <| wi_reg rfl <| lx_assign (.int .i64 1) rfl rfl <| lx_nil <| ?_
          -- R3
          refine wi_ret ⟨.int .i64 1, (res_one rfl rfl), ⟨?_, rfl⟩⟩
          · congr 1; unfold lstE; rw [if_pos (by omega), if_neg (fun h9 => by have := numB_iff.1 h9 i (by omega); omega)]
        · refine lx_pick false (.bool false) rfl rfl rfl <| lx_nil <| wi_false rfl <| wi_skip <| wi_inBlock <| wi_reg rfl <| lx_move (.int .i64 ((i : Nat) : Int)) rfl rfl <| lx_add (((i + 1 : Nat) : Int)) rfl rfl rfl (by omega) (by omega) (by omega) <| lx_assign (.int .i64 ((i + 1 : Nat) : Int)) rfl rfl <| lx_nil <| ?_
          -- L0.1
          refine IH1 _ _ (i + 1) (agree_ups rfl agree_self) ⟨rfl, trivial⟩ ⟨rfl, ?_, ?_⟩ ?_
          · try dsimp only
            omega
          · try dsimp only
            intro j hj
            by_cases e : j = i
            · subst e; omega
            · exact he j (by omega)
          · first | omega | (dsimp only; omega)
    · refine lx_nil <| wi_false rfl <| wi_exit rfl <| wi_seq <| wi_reg rfl <| lx_assign (.int .i64 0) rfl rfl <| lx_nil <| ?_
      -- R4
      refine wi_ret ⟨.int .i64 0, (res_one rfl rfl), ⟨?_, rfl⟩⟩
      · congr 1; unfold lstE; rw [if_pos (by omega), if_pos (numB_iff.2 fun j hj => he j (by omega))]

set_option maxRecDepth 10000 in
theorem rsums_spec (h : Heap) (vp : Value) (hs : List Hdr) (p : List (List Bool)) (vl : Value) (xs : List Int) (hr_vp : RdE encHd h vp hs) (ht_vp : RT encB h hs p) (hr_vl : RdE encI h vl xs) (hp1 : p.length ≤ 12) (hp2 : Sq p p.length) (hp3 : xs.length = p.length) (hp4 : ∀ i, i < xs.length → -1000000000 ≤ gt xs i ∧ gt xs i ≤ 1000000000) : Fx Try.prog 58 [vp, vl] h (fun v h' => ∃ (s : Value), v = s ∧ OwE encI h' h.size 2 s (sumT p.length (pb p) xs) ∧ Ext h.size h h') := by
  have hl_vp := ht_vp.1
  refine fx_intro (n := 43) [(0, vp), (1, vl)] Try.func58 rfl rfl (by simp) ⟨rfl, rfl, trivial⟩ fun g0 => ?_
  refine wi_seq <| wi_reg rfl <| lx_assign (.slice none 0 0) rfl rfl <| lx_nil <| wi_seq <| wi_reg rfl <| lx_move (vp) rfl rfl <| lx_len rfl Try.underlying23 hr_vp rfl <| lx_make (E := encI) (n := hs.length) (B := h.size) (0 : Int) rfl rfl Try.underlying58 (eZ58) rfl rfl (by omega) (by omega) (Nat.le_refl _) (fun _ _ => trivial) fun v1 h1 ho1 hx1 hvb1 => ?_
  have ho2 := ho1.base (Nat.le_refl h.size)
  refine lx_assign (v1) rfl rfl <| lx_nil <| wi_seq <| wi_seq <| wi_reg rfl <| lx_assign (.int .i64 0) rfl rfl <| lx_nil <| wi_block <| ?_
  refine wi_loop (σ := Nat × (List Int)) (rngB 11 42 [6, 7]) (fun (ss : Nat × (List Int)) => [(6, .int .i64 ((ss.1 : Nat) : Int))]) (fun (ss : Nat × (List Int)) (hh : Heap) => OwE encI hh h.size 2 v1 ss.2 ∧ Ext h.size h hh ∧ (ss.1 ≤ p.length) ∧ (ss.2 = mapR p.length (relP (pb p) (gt xs) ss.1 0))) (fun (ss : Nat × (List Int)) => p.length - ss.1) (0, List.replicate hs.length 0) ⟨rfl, trivial⟩ ⟨?_, hx1, ?_, ?_⟩ ?_
  · first | exact ho2 | (simpa using ho2)
  · try dsimp only
    omega
  · try dsimp only
    rw [hl_vp]; exact relP_start _ _ _
  rintro g1 ⟨x, es⟩ hh1 ⟨ho3, hx0_1, hx, hes⟩ IH1
  dsimp only at *
  refine wi_seq <| wi_seq <| wi_reg rfl <| lx_move (.int .i64 ((x : Nat) : Int)) rfl rfl <| lx_move (vp) rfl rfl <| lx_len rfl Try.underlying23 hr_vp rfl <| lx_lssS rfl rfl rfl (fun c1 => ?_) (fun c1 => ?_)
  · refine lx_nil <| wi_true rfl <| wi_skip <| wi_seq <| wi_block <| wi_seq <| wi_reg rfl <| lx_assign (.int .i64 0) rfl rfl <| lx_nil <| wi_block <| ?_
    refine wi_loop (σ := Nat × (List Int)) (rngB 17 42 [7]) (fun (ss : Nat × (List Int)) => [(7, .int .i64 ((ss.1 : Nat) : Int))]) (fun (ss : Nat × (List Int)) (hh : Heap) => OwE encI hh h.size 2 v1 ss.2 ∧ Ext h.size h hh ∧ (ss.1 ≤ p.length) ∧ (ss.2 = mapR p.length (relP (pb p) (gt xs) x ss.1))) (fun (ss : Nat × (List Int)) => p.length - ss.1) (0, es) ⟨rfl, trivial⟩ ⟨?_, hx0_1, ?_, ?_⟩ ?_
    · first | exact ho3 | (simpa using ho3)
    · try dsimp only
      omega
    · try dsimp only
      exact hes
    rintro g2 ⟨y, es2⟩ hh2 ⟨ho4, hx0_2, hy, hes2⟩ IH2
    dsimp only at *
    have hel2 : es2.length = p.length := by rw [hes2]; exact mapR_len _ _
    refine wi_seq <| wi_seq <| wi_reg rfl <| lx_move (.int .i64 ((y : Nat) : Int)) rfl rfl <| lx_move (vp) rfl rfl <| lx_len rfl Try.underlying23 hr_vp rfl <| lx_lssS rfl rfl rfl (fun c2 => ?_) (fun c2 => ?_)
    · refine lx_nil <| wi_true rfl <| wi_skip <| wi_seq <| wi_block <| wi_seq <| wi_reg rfl <| lx_move (vp) rfl rfl <| lx_move (.int .i64 ((x : Nat) : Int)) rfl rfl <| lx_ix (i := x) rfl eT23 hr_vp rfl rfl (by omega) <| lx_ld (i := x) (j := 0) ((gt hs x).v) rfl rfl fl70 (hr_vp.extS hx0_2) (by omega) rfl rfl <| lx_move (.int .i64 ((y : Nat) : Int)) rfl rfl <| lx_ix (i := y) rfl eT70 (ht_vp.2 x (by omega)) rfl rfl (by rw [hp2.2 x (by omega)]; omega) <| lx_ld (i := y) (j := 0) (.bool (gt (gt p x) y)) rfl rfl fl4 ((ht_vp.extS hx0_2).2 x (by omega)) (by rw [hp2.2 x (by omega)]; omega) rfl rfl <| lx_nil <| wi_condS (t := gt (gt p x) y) rfl (fun c3 => ?_) (fun c3 => ?_)
      · refine wi_draw mo rfl (by decide +kernel) <| ?_
        have hbx : pb p x y = true := by assumption
        have hg1 : gt es2 y = relP (pb p) (gt xs) x y y := by rw [hes2, gt_mapR (by omega)]
        have hb1 := relP_bound (r := pb p) (w := gt xs) (z := x) (b := y) (q := y) (B := 1000000000) (by decide) (by omega) fun a ha => hp4 a (by omega)
        rw [← hg1] at hb1
        have hb2 := hp4 x (by omega)
        refine lx_move (v1) rfl rfl <| lx_move (.int .i64 ((y : Nat) : Int)) rfl rfl <| lx_move (v1) rfl rfl <| lx_move (.int .i64 ((y : Nat) : Int)) rfl rfl <| lx_ix (i := y) rfl eT58 ho4.rd rfl rfl (by omega) <| lx_ld (i := y) (j := 0) (.int .i64 (gt es2 y)) rfl rfl fl2 ho4.rd (by omega) rfl rfl <| lx_move (vl) rfl rfl <| lx_move (.int .i64 ((x : Nat) : Int)) rfl rfl <| lx_ix (i := x) rfl eT58 hr_vl rfl rfl (by omega) <| lx_ld (i := x) (j := 0) (.int .i64 (gt xs x)) rfl rfl fl2 (hr_vl.extS hx0_2) (by omega) rfl rfl <| lx_add ((gt es2 y) + (gt xs x)) rfl rfl rfl (by omega) (by omega) (by omega) <| lx_ix (i := y) rfl eT58 ho4.rd rfl rfl (by omega) <| lx_st (i := y) ((gt es2 y) + (gt xs x)) rfl rfl Try.sizeOf2 ho4 (by omega) rfl rfl (fun _ _ _ _ _ => trivial) fun h2 ho5 hc1 hsz1 => ?_
        have hx0_3 := hx0_2.trans (ho4.ext hc1 hx0_2.size)
        refine lx_nil <| wi_inBlock <| wi_reg rfl <| lx_move (.int .i64 ((y : Nat) : Int)) rfl rfl <| lx_add (((y + 1 : Nat) : Int)) rfl rfl rfl (by omega) (by omega) (by omega) <| lx_assign (.int .i64 ((y + 1 : Nat) : Int)) rfl rfl <| lx_nil <| ?_
        -- L2.1
        refine IH2 _ _ (y + 1, es2.set y ((gt es2 y) + (gt xs x))) (agree_ups rfl agree_self) ⟨rfl, trivial⟩ ⟨?_, hx0_3, ?_, ?_⟩ ?_
        · first | exact ho5 | (simpa using ho5)
        · try dsimp only
          omega
        · try dsimp only
          rw [hg1, hes2]; exact relP_set (by omega) hbx
        · first | omega | (dsimp only; omega)
      · refine wi_skip <| wi_inBlock <| wi_reg rfl <| lx_move (.int .i64 ((y : Nat) : Int)) rfl rfl <| lx_add (((y + 1 : Nat) : Int)) rfl rfl rfl (by omega) (by omega) (by omega) <| lx_assign (.int .i64 ((y + 1 : Nat) : Int)) rfl rfl <| lx_nil <| ?_
        -- L2.2
        refine IH2 _ _ (y + 1, es2) (agree_ups rfl agree_self) ⟨rfl, trivial⟩ ⟨?_, hx0_2, ?_, ?_⟩ ?_
        · first | exact ho4 | (simpa using ho4)
        · try dsimp only
          omega
        · try dsimp only
          rw [hes2]; exact relP_skip (by assumption)
        · first | omega | (dsimp only; omega)
    · refine lx_nil <| wi_false rfl <| wi_exit rfl <| wi_inBlock <| wi_reg rfl <| lx_move (.int .i64 ((x : Nat) : Int)) rfl rfl <| lx_add (((x + 1 : Nat) : Int)) rfl rfl rfl (by omega) (by omega) (by omega) <| lx_assign (.int .i64 ((x + 1 : Nat) : Int)) rfl rfl <| lx_nil <| ?_
      -- L0.1
      refine IH1 _ _ (x + 1, es2) (agree_ups rfl (agree_mix (rngB_sub (by decide) (by decide) rfl) (agree_ups rfl agree_self))) ⟨rfl, trivial⟩ ⟨?_, hx0_2, ?_, ?_⟩ ?_
      · first | exact ho4 | (simpa using ho4)
      · try dsimp only
        omega
      · try dsimp only
        rw [hes2, show y = p.length from by omega]; exact mapR_congr fun q hq => relP_next hq
      · first | omega | (dsimp only; omega)
  · refine lx_nil <| wi_false rfl <| wi_exit rfl <| wi_seq <| wi_reg rfl <| lx_move (v1) rfl rfl <| lx_assign (v1) rfl rfl <| lx_nil <| ?_
    -- R1
    refine wi_ret ⟨v1, (res_one rfl rfl), ⟨v1, rfl, ?_, hx0_1⟩⟩
    · rw [show sumT p.length (pb p) xs = es from by rw [hes, show x = p.length from by omega, relP_sums]]; exact ho3

set_option maxRecDepth 10000 in
theorem rcovers_spec (h : Heap) (vp : Value) (hs : List Hdr) (p : List (List Bool)) (hr_vp : RdE encHd h vp hs) (ht_vp : RT encB h hs p) (hp1 : p.length ≤ 12) (hp2 : Sq p p.length) : Fx Try.prog 53 [vp] h (fun v h' => ∃ (s : Value), v = s ∧ OwE encP h' h.size 85 s (covF p.length (pb p) p.length) ∧ Ext h.size h h') := by
  have hl_vp := ht_vp.1
  refine fx_intro (n := 29) [(0, vp)] Try.func53 rfl rfl (by simp) ⟨rfl, trivial⟩ fun g0 => ?_
  refine wi_seq <| wi_reg rfl <| lx_assign (.slice none 0 0) rfl rfl <| lx_nil <| wi_seq <| wi_reg rfl <| lx_assign (.slice none 0 0) rfl rfl <| lx_nil <| wi_seq <| wi_seq <| wi_reg rfl <| lx_assign (.int .i64 0) rfl rfl <| lx_nil <| wi_block <| ?_
  refine wi_loop (σ := Nat × Value × (List (Int × Int))) (rngB 3 28 []) (fun (ss : Nat × Value × (List (Int × Int))) => [(4, .int .i64 ((ss.1 : Nat) : Int)), (3, ss.2.1)]) (fun (ss : Nat × Value × (List (Int × Int))) (hh : Heap) => OwE encP hh h.size 85 ss.2.1 ss.2.2 ∧ Ext h.size h hh ∧ (ss.1 ≤ p.length) ∧ (ss.2.2 = covF p.length (pb p) ss.1)) (fun (ss : Nat × Value × (List (Int × Int))) => p.length - ss.1) (0, .slice none 0 0, []) ⟨rfl, rfl, trivial⟩ ⟨?_, (Ext.refl _ _), ?_, ?_⟩ ?_
  · first | exact (owE_nil encP _ h.size 85) | (simpa using (owE_nil encP _ h.size 85))
  · try dsimp only
    omega
  · try dsimp only
    first | done | rfl
  rintro g1 ⟨x, v, cs⟩ hh1 ⟨ho1, hx0_1, hx, hcs⟩ IH1
  dsimp only at *
  have hcl : cs.length ≤ x * p.length := by rw [hcs]; exact covF_len _ _
  have hcm : x * p.length ≤ 12 * 12 := Nat.mul_le_mul (by omega) hp1
  refine wi_seq <| wi_seq <| wi_reg rfl <| lx_move (.int .i64 ((x : Nat) : Int)) rfl rfl <| lx_move (vp) rfl rfl <| lx_len rfl Try.underlying23 hr_vp rfl <| lx_lssS rfl rfl rfl (fun c1 => ?_) (fun c1 => ?_)
  · refine lx_nil <| wi_true rfl <| wi_skip <| wi_seq <| wi_block <| wi_seq <| wi_reg rfl <| lx_assign (.int .i64 0) rfl rfl <| lx_nil <| wi_block <| ?_
    refine wi_loop (σ := Nat × Value × (List (Int × Int))) (rngB 12 28 [3, 5]) (fun (ss : Nat × Value × (List (Int × Int))) => [(5, .int .i64 ((ss.1 : Nat) : Int)), (3, ss.2.1)]) (fun (ss : Nat × Value × (List (Int × Int))) (hh : Heap) => OwE encP hh h.size 85 ss.2.1 ss.2.2 ∧ Ext h.size h hh ∧ (ss.1 ≤ p.length) ∧ (ss.2.2 = covF p.length (pb p) x ++ covK p.length (pb p) x ss.1)) (fun (ss : Nat × Value × (List (Int × Int))) => p.length - ss.1) (0, v, cs) ⟨rfl, rfl, trivial⟩ ⟨?_, hx0_1, ?_, ?_⟩ ?_
    · first | exact ho1 | (simpa using ho1)
    · try dsimp only
      omega
    · try dsimp only
      rw [hcs]; simp [covK]
    rintro g2 ⟨y, v, cs⟩ hh2 ⟨ho2, hx0_2, hy, hcs2⟩ IH2
    dsimp only at *
    have hcl2 : cs.length ≤ x * p.length + y := by
      rw [hcs2, List.length_append]
      have h1 := covF_len (n := p.length) (pb p) x
      have h2 := covK_len p.length (pb p) x y
      omega
    refine wi_seq <| wi_seq <| wi_reg rfl <| lx_move (.int .i64 ((y : Nat) : Int)) rfl rfl <| lx_move (vp) rfl rfl <| lx_len rfl Try.underlying23 hr_vp rfl <| lx_lssS rfl rfl rfl (fun c2 => ?_) (fun c2 => ?_)
    · refine lx_nil <| wi_true rfl <| wi_skip <| wi_seq <| wi_block <| wi_seq <| wi_reg rfl <| lx_move (vp) rfl rfl <| lx_move (.int .i64 ((x : Nat) : Int)) rfl rfl <| lx_move (.int .i64 ((y : Nat) : Int)) rfl rfl <| lx_call [vp, .int .i64 ((x : Nat) : Int), .int .i64 ((y : Nat) : Int)] rfl rfl Try.call103 rfl (rright_spec hh2 vp hs p x y (hr_vp.extS hx0_2) (ht_vp.extS hx0_2) (by omega) (by first | with_reducible assumption | omega) (by omega) (by omega)) (fun _ _ _ => trivial) ?_
      rintro _ h1 ⟨rfl, rfl⟩
      refine lx_nil <| wi_condS (t := rbF p.length (pb p) x y) rfl (fun c3 => ?_) (fun c3 => ?_)
      · refine wi_reg rfl <| lx_move (v) rfl rfl <| lx_move (.int .i64 ((x : Nat) : Int)) rfl rfl <| lx_move (.int .i64 ((y : Nat) : Int)) rfl rfl <| lx_build (.agg #[.int .i64 ((x : Nat) : Int), .int .i64 ((y : Nat) : Int)]) [(0, .int .i64 ((x : Nat) : Int)), (1, .int .i64 ((y : Nat) : Int))] rfl rfl (fun w => bld85_2 _ _ w) <| lx_appendL (E := encP) (B := h.size) [(((x : Nat) : Int), ((y : Nat) : Int))] [.agg #[.int .i64 ((x : Nat) : Int), .int .i64 ((y : Nat) : Int)]] rfl rfl (fun _ => rfl) rfl eT22 rfl rfl rfl rfl ho2 (fun _ => rfl) (by show cs.length + 1 ≤ _; omega) (by show (cs.length + 1) * 16 ≤ _; omega) hx0_2.size (fun _ _ => trivial) fun u1 v1 h2 ho3 hc1 hg1 => ?_
        have hx0_3 := hx0_2.trans (ho2.ext hc1 hx0_2.size)
        refine lx_assign (v1) rfl rfl <| lx_nil <| wi_inBlock <| wi_reg rfl <| lx_move (.int .i64 ((y : Nat) : Int)) rfl rfl <| lx_add (((y + 1 : Nat) : Int)) rfl rfl rfl (by omega) (by omega) (by omega) <| lx_assign (.int .i64 ((y + 1 : Nat) : Int)) rfl rfl <| lx_nil <| ?_
        -- L2.1
        refine IH2 _ _ (y + 1, v1, cs ++ [(((x : Nat) : Int), ((y : Nat) : Int))]) (agree_ups rfl agree_self) ⟨rfl, rfl, trivial⟩ ⟨?_, hx0_3, ?_, ?_⟩ ?_
        · first | exact ho3 | (simpa using ho3)
        · try dsimp only
          omega
        · try dsimp only
          rw [hcs2, List.append_assoc, covK_yes (by assumption)]
        · first | omega | (dsimp only; omega)
      · refine wi_skip <| wi_inBlock <| wi_reg rfl <| lx_move (.int .i64 ((y : Nat) : Int)) rfl rfl <| lx_add (((y + 1 : Nat) : Int)) rfl rfl rfl (by omega) (by omega) (by omega) <| lx_assign (.int .i64 ((y + 1 : Nat) : Int)) rfl rfl <| lx_nil <| ?_
        -- L2.2
        refine IH2 _ _ (y + 1, v, cs) (agree_ups rfl agree_self) ⟨rfl, rfl, trivial⟩ ⟨?_, hx0_2, ?_, ?_⟩ ?_
        · first | exact ho2 | (simpa using ho2)
        · try dsimp only
          omega
        · try dsimp only
          rw [hcs2, covK_no (by assumption)]
        · first | omega | (dsimp only; omega)
    · refine lx_nil <| wi_false rfl <| wi_exit rfl <| wi_inBlock <| wi_reg rfl <| lx_move (.int .i64 ((x : Nat) : Int)) rfl rfl <| lx_add (((x + 1 : Nat) : Int)) rfl rfl rfl (by omega) (by omega) (by omega) <| lx_assign (.int .i64 ((x + 1 : Nat) : Int)) rfl rfl <| lx_nil <| ?_
      -- L0.1
      refine IH1 _ _ (x + 1, v, cs) (agree_ups rfl (agree_mix (rngB_sub (by decide) (by decide) rfl) (agree_ups rfl agree_self))) ⟨rfl, rfl, trivial⟩ ⟨?_, hx0_2, ?_, ?_⟩ ?_
      · first | exact ho2 | (simpa using ho2)
      · try dsimp only
        omega
      · try dsimp only
        rw [covF_succ, hcs2, show y = p.length from by omega]
      · first | omega | (dsimp only; omega)
  · refine lx_nil <| wi_false rfl <| wi_exit rfl <| wi_seq <| wi_reg rfl <| lx_move (v) rfl rfl <| lx_assign (v) rfl rfl <| lx_nil <| ?_
    -- R1
    refine wi_ret ⟨v, (res_one rfl rfl), ⟨v, rfl, ?_, hx0_1⟩⟩
    · rw [show covF p.length (pb p) p.length = cs from by rw [hcs, show x = p.length from by omega]]; exact ho1

set_option maxRecDepth 10000 in
theorem rchains_spec (h : Heap) (vp : Value) (hs : List Hdr) (p : List (List Bool)) (x : Nat) (y : Nat) (hr_vp : RdE encHd h vp hs) (ht_vp : RT encB h hs p) (hp1 : p.length ≤ 12) (hp2 : Sq p p.length) (hp3 : IsO p.length (pb p)) (hp4 : x < p.length) (hp5 : y < p.length) : Fx Try.prog 60 [vp, .int .i64 ((x : Nat) : Int), .int .i64 ((y : Nat) : Int)] h (fun v h' => ∃ (s : Value) (ys : List Int), v = s ∧ OwE encI h' h.size 2 s ys ∧ (chaR p.length (pb p) x y ys) ∧ Ext h.size h h') := by
  have hl_vp := ht_vp.1
  refine fx_intro (n := 91) [(0, vp), (1, .int .i64 ((x : Nat) : Int)), (2, .int .i64 ((y : Nat) : Int))] Try.func60 rfl rfl (by simp) ⟨rfl, rfl, rfl, trivial⟩ fun g0 => ?_
  refine wi_seq <| wi_reg rfl <| lx_assign (.slice none 0 0) rfl rfl <| lx_nil <| wi_seq <| wi_reg rfl <| lx_assign (.slice none 0 0) rfl rfl <| lx_nil <| wi_seq <| wi_reg rfl <| lx_move (vp) rfl rfl <| lx_len rfl Try.underlying23 hr_vp rfl <| lx_make (E := encI) (n := hs.length) (B := h.size) (0 : Int) rfl rfl Try.underlying58 (eZ58) rfl rfl (by omega) (by omega) (Nat.le_refl _) (fun _ _ => trivial) fun v1 h1 ho1 hx1 hvb1 => ?_
  have ho2 := ho1.base (Nat.le_refl h.size)
  refine lx_assign (v1) rfl rfl <| lx_nil <| wi_seq <| wi_reg rfl <| lx_move (v1) rfl rfl <| lx_move (.int .i64 ((x : Nat) : Int)) rfl rfl <| lx_ix (i := x) rfl eT58 ho2.rd rfl rfl (by first | omega | (simp only [List.length_set, List.length_append, List.length_cons, List.length_nil, List.length_replicate, List.length_take, swp_length, exch_length]; omega)) <| lx_st (i := x) ((1 : Int)) rfl rfl Try.sizeOf2 ho2 (by first | omega | (simp only [List.length_set, List.length_append, List.length_cons, List.length_nil, List.length_replicate, List.length_take, swp_length, exch_length]; omega)) rfl rfl (fun _ _ _ _ _ => trivial) fun h2 ho3 hc1 hsz1 => ?_
  have hx0_1 := hx1.trans (ho2.ext hc1 hx1.size)
  refine lx_nil <| wi_seq <| wi_seq <| wi_reg rfl <| lx_assign (.int .i64 0) rfl rfl <| lx_nil <| wi_block <| ?_
  refine wi_loop (σ := Nat × Value × (List Int) × Value × (List Int)) (rngB 19 73 [7, 8, 9, 10, 11, 12]) (fun (ss : Nat × Value × (List Int) × Value × (List Int)) => [(9, .int .i64 ((ss.1 : Nat) : Int)), (7, ss.2.1), (8, ss.2.2.2.1)]) (fun (ss : Nat × Value × (List Int) × Value × (List Int)) (hh : Heap) => OwE encI hh h.size 2 ss.2.1 ss.2.2.1 ∧ OwE encI hh h.size 2 ss.2.2.2.1 ss.2.2.2.2 ∧ Dj ss.2.1 ss.2.2.2.1 ∧ Ext h.size h hh ∧ (ss.1 ≤ p.length) ∧ (ss.2.2.1 = mapR ss.1 (fun k9 => chN p.length (pb p) x k9 y)) ∧ (ss.2.2.2.2 = mapR p.length (chW p.length (pb p) x y ss.1))) (fun (ss : Nat × Value × (List Int) × Value × (List Int)) => p.length - ss.1) (0, .slice none 0 0, [], v1, (List.replicate hs.length (0 : Int)).set x ((1 : Int))) ⟨rfl, rfl, rfl, trivial⟩ ⟨?_, ?_, (dj_nil_l _), hx0_1, ?_, ?_, ?_⟩ ?_
  · first | exact (owE_nil encI _ h.size 2) | (simpa using (owE_nil encI _ h.size 2))
  · first | exact ho3 | (simpa using ho3)
  · try dsimp only
    omega
  · try dsimp only
    first | done | rfl
  · try dsimp only
    rw [hl_vp]; exact chW_start hp4
  rintro g1 ⟨k, v, os, w, es⟩ hh1 ⟨ho4, ho5, hdj1, hx0_2, hk, hos, hes⟩ IH1
  dsimp only at *
  have hel : es.length = p.length := by rw [hes]; exact mapR_len _ _
  have hol : os.length = k := by rw [hos]; exact mapR_len _ _
  refine wi_seq <| wi_seq <| wi_reg rfl <| lx_move (.int .i64 ((k : Nat) : Int)) rfl rfl <| lx_move (vp) rfl rfl <| lx_len rfl Try.underlying23 hr_vp rfl <| lx_lssS rfl rfl rfl (fun c1 => ?_) (fun c1 => ?_)
  · refine lx_nil <| wi_true rfl <| wi_skip <| wi_seq <| wi_block <| wi_seq <| wi_reg rfl <| lx_move (v) rfl rfl <| lx_move (w) rfl rfl <| lx_move (.int .i64 ((y : Nat) : Int)) rfl rfl <| lx_ix (i := y) rfl eT58 ho5.rd rfl rfl (by omega) <| lx_ld (i := y) (j := 0) (.int .i64 (gt es y)) rfl rfl fl2 ho5.rd (by omega) rfl rfl <| lx_appendL (E := encI) (B := h.size) [gt es y] [.int .i64 (gt es y)] rfl rfl (fun _ => rfl) rfl eT58 rfl rfl rfl rfl ho4 (fun _ => rfl) (by show os.length + 1 ≤ _; omega) (by show (os.length + 1) * 8 ≤ _; omega) hx0_2.size (fun _ _ => trivial) fun u1 v2 h3 ho6 hc2 hg1 => ?_
    have hx0_3 := hx0_2.trans (ho4.ext hc2 hx0_2.size)
    have ho7 := ho5.chg hc2 (Dj.symm hdj1)
    refine lx_assign (v2) rfl rfl <| lx_nil <| wi_seq <| wi_reg rfl <| ?_
    obtain ⟨os2, hos2⟩ : ∃ x, x = os ++ [gt es y] := ⟨_, rfl⟩
    rw [← hos2] at ho6
    have hgy : gt es y = chN p.length (pb p) x k y := by rw [hes, gt_mapR hp5, chW_end (hp3.refl hp5)]
    have hos2l : os2.length = k + 1 := by rw [hos2, List.length_append, hos, mapR_len]; rfl
    refine lx_move (vp) rfl rfl <| lx_len rfl Try.underlying23 hr_vp rfl <| lx_make (E := encI) (n := hs.length) (B := h3.size) (0 : Int) rfl rfl Try.underlying58 (eZ58) rfl rfl (by omega) (by omega) (Nat.le_refl _) (fun _ _ => trivial) fun v3 h4 ho8 hx2 hvb2 => ?_
    have hx0_4 := hx0_3.trans2 hx2 hx0_3.size
    have ho9 := ho7.extS hx2
    have ho10 := ho6.extS hx2
    have ho11 := ho8.base hx0_3.size
    refine lx_assign (v3) rfl rfl <| lx_nil <| wi_seq <| wi_seq <| wi_reg rfl <| lx_assign (.int .i64 0) rfl rfl <| lx_nil <| wi_block <| ?_
    refine wi_loop (σ := Nat × (List Int)) (rngB 35 72 [11, 12]) (fun (ss : Nat × (List Int)) => [(11, .int .i64 ((ss.1 : Nat) : Int))]) (fun (ss : Nat × (List Int)) (hh : Heap) => OwE encI hh h.size 2 v2 os2 ∧ OwE encI hh h.size 2 w es ∧ Dj v2 w ∧ Dj v2 v3 ∧ Dj w v3 ∧ OwE encI hh h.size 2 v3 ss.2 ∧ Ext h.size h hh ∧ (ss.1 ≤ p.length) ∧ (ss.2 = mapR p.length (relP (chR (pb p) y) (chW p.length (pb p) x y k) ss.1 0))) (fun (ss : Nat × (List Int)) => p.length - ss.1) (0, List.replicate hs.length 0) ⟨rfl, trivial⟩ ⟨?_, ?_, (Dj.symm (dj_app (Dj.symm hdj1) ho5 hg1)), (dj_new ho6 ho8), (dj_new ho7 ho8), ?_, hx0_4, ?_, ?_⟩ ?_
    · first | exact ho10 | (simpa using ho10)
    · first | exact ho9 | (simpa using ho9)
    · first | exact ho11 | (simpa using ho11)
    · try dsimp only
      omega
    · try dsimp only
      rw [hl_vp]; exact relP_start _ _ _
    rintro g2 ⟨a, es2⟩ hh2 ⟨ho12, ho13, hdj2, hdj3, hdj4, ho14, hx0_5, ha, hes2⟩ IH2
    dsimp only at *
    refine wi_seq <| wi_seq <| wi_reg rfl <| lx_move (.int .i64 ((a : Nat) : Int)) rfl rfl <| lx_move (vp) rfl rfl <| lx_len rfl Try.underlying23 hr_vp rfl <| lx_lssS rfl rfl rfl (fun c2 => ?_) (fun c2 => ?_)
    · refine lx_nil <| wi_true rfl <| wi_skip <| wi_seq <| wi_block <| wi_seq <| wi_reg rfl <| lx_assign (.int .i64 0) rfl rfl <| lx_nil <| wi_block <| ?_
      refine wi_loop (σ := Nat × (List Int)) (rngB 41 72 [12]) (fun (ss : Nat × (List Int)) => [(12, .int .i64 ((ss.1 : Nat) : Int))]) (fun (ss : Nat × (List Int)) (hh : Heap) => OwE encI hh h.size 2 v2 os2 ∧ OwE encI hh h.size 2 w es ∧ Dj v2 w ∧ Dj v2 v3 ∧ Dj w v3 ∧ OwE encI hh h.size 2 v3 ss.2 ∧ Ext h.size h hh ∧ (ss.1 ≤ p.length) ∧ (ss.2 = mapR p.length (relP (chR (pb p) y) (chW p.length (pb p) x y k) a ss.1))) (fun (ss : Nat × (List Int)) => p.length - ss.1) (0, es2) ⟨rfl, trivial⟩ ⟨?_, ?_, hdj2, hdj3, hdj4, ?_, hx0_5, ?_, ?_⟩ ?_
      · first | exact ho12 | (simpa using ho12)
      · first | exact ho13 | (simpa using ho13)
      · first | exact ho14 | (simpa using ho14)
      · try dsimp only
        omega
      · try dsimp only
        exact hes2
      rintro g3 ⟨b, es3⟩ hh3 ⟨ho15, ho16, hdj5, hdj6, hdj7, ho17, hx0_6, hb, hes3⟩ IH3
      dsimp only at *
      have hel3 : es3.length = p.length := by rw [hes3]; exact mapR_len _ _
      refine wi_seq <| wi_seq <| wi_reg rfl <| lx_move (.int .i64 ((b : Nat) : Int)) rfl rfl <| lx_move (vp) rfl rfl <| lx_len rfl Try.underlying23 hr_vp rfl <| lx_lssS rfl rfl rfl (fun c3 => ?_) (fun c3 => ?_)
      · refine lx_nil <| wi_true rfl <| wi_skip <| wi_seq <| wi_block <| wi_seq <| wi_reg rfl <| lx_move (vp) rfl rfl <| lx_move (.int .i64 ((a : Nat) : Int)) rfl rfl <| lx_move (.int .i64 ((b : Nat) : Int)) rfl rfl <| lx_call [vp, .int .i64 ((a : Nat) : Int), .int .i64 ((b : Nat) : Int)] rfl rfl Try.call102 rfl (rbelow_spec hh3 vp hs p a b (hr_vp.extS hx0_6) (ht_vp.extS hx0_6) (by omega) (by first | with_reducible assumption | omega) (by omega) (by omega)) (fun _ _ _ => trivial) ?_
        rintro _ h5 ⟨rfl, rfl⟩
        refine lx_move (.bool (decide (a ≠ b) && pb p a b)) rfl rfl <| ?_
        cases c4 : (decide (a ≠ b) && pb p a b)
        · refine lx_skip rfl <| lx_skip rfl <| lx_skip rfl <| lx_skip rfl <| lx_skip rfl <| lx_skip rfl <| lx_skip rfl <| lx_pick false (.bool false) rfl rfl rfl <| lx_nil <| wi_false rfl <| wi_skip <| wi_inBlock <| wi_reg rfl <| lx_move (.int .i64 ((b : Nat) : Int)) rfl rfl <| lx_add (((b + 1 : Nat) : Int)) rfl rfl rfl (by omega) (by omega) (by omega) <| lx_assign (.int .i64 ((b + 1 : Nat) : Int)) rfl rfl <| lx_nil <| ?_
          -- L4.1
          refine IH3 _ _ (b + 1, es3) (agree_ups rfl agree_self) ⟨rfl, trivial⟩ ⟨?_, ?_, hdj5, hdj6, hdj7, ?_, hx0_6, ?_, ?_⟩ ?_
          · first | exact ho15 | (simpa using ho15)
          · first | exact ho16 | (simpa using ho16)
          · first | exact ho17 | (simpa using ho17)
          · try dsimp only
            omega
          · try dsimp only
            first
            | (rw [hg1, hg2, hes3]; exact relP_set (by omega) hbl)
            | (rw [hes3]; refine relP_skip ?_; unfold chR; first | (rw [show blw (pb p) a b = false from by assumption]; rfl) | (rw [show pb p b y = false from by assumption, Bool.and_false]))
          · first | omega | (dsimp only; omega)
        · refine lx_move (vp) rfl rfl <| lx_move (.int .i64 ((b : Nat) : Int)) rfl rfl <| lx_ix (i := b) rfl eT23 hr_vp rfl rfl (by omega) <| lx_ld (i := b) (j := 0) ((gt hs b).v) rfl rfl fl70 (hr_vp.extS hx0_6) (by omega) rfl rfl <| lx_move (.int .i64 ((y : Nat) : Int)) rfl rfl <| lx_ix (i := y) rfl eT70 (ht_vp.2 b (by omega)) rfl rfl (by rw [hp2.2 b (by omega)]; omega) <| lx_ld (i := y) (j := 0) (.bool (gt (gt p b) y)) rfl rfl fl4 ((ht_vp.extS hx0_6).2 b (by omega)) (by rw [hp2.2 b (by omega)]; omega) rfl rfl <| lx_pick true (.bool (gt (gt p b) y)) rfl rfl rfl <| lx_nil <| wi_condS (t := gt (gt p b) y) rfl (fun c5 => ?_) (fun c5 => ?_)
          · refine wi_draw mo rfl (by decide +kernel) <| ?_
            have hbl : chR (pb p) y a b = true := by
              unfold chR
              rw [show blw (pb p) a b = true from by assumption, show pb p b y = true from by assumption]; rfl
            have hg1 : gt es3 b = relP (chR (pb p) y) (chW p.length (pb p) x y k) a b b := by rw [hes3, gt_mapR (by omega)]
            have hg2 : gt es a = chW p.length (pb p) x y k a := by rw [hes, gt_mapR (by omega)]
            have hb1 := relP_bound (r := chR (pb p) y) (w := chW p.length (pb p) x y k) (z := a) (b := b) (q := b) (B := 8916100448256) (by decide) (by omega) fun _ _ => chW_bound hp1 (by omega)
            rw [← hg1] at hb1
            have hb2 := chW_bound (f := pb p) (x := x) (y := y) (k := k) (b := a) hp1 (by omega)
            rw [← hg2] at hb2
            refine lx_move (v3) rfl rfl <| lx_move (.int .i64 ((b : Nat) : Int)) rfl rfl <| lx_move (v3) rfl rfl <| lx_move (.int .i64 ((b : Nat) : Int)) rfl rfl <| lx_ix (i := b) rfl eT58 ho17.rd rfl rfl (by omega) <| lx_ld (i := b) (j := 0) (.int .i64 (gt es3 b)) rfl rfl fl2 ho17.rd (by omega) rfl rfl <| lx_move (w) rfl rfl <| lx_move (.int .i64 ((a : Nat) : Int)) rfl rfl <| lx_ix (i := a) rfl eT58 ho16.rd rfl rfl (by omega) <| lx_ld (i := a) (j := 0) (.int .i64 (gt es a)) rfl rfl fl2 ho16.rd (by omega) rfl rfl <| lx_add ((gt es3 b) + (gt es a)) rfl rfl rfl (by omega) (by omega) (by omega) <| lx_ix (i := b) rfl eT58 ho17.rd rfl rfl (by omega) <| lx_st (i := b) ((gt es3 b) + (gt es a)) rfl rfl Try.sizeOf2 ho17 (by omega) rfl rfl (fun _ _ _ _ _ => trivial) fun h6 ho18 hc3 hsz2 => ?_
            have hx0_7 := hx0_6.trans (ho17.ext hc3 hx0_6.size)
            have ho19 := ho16.chg hc3 hdj7
            have ho20 := ho15.chg hc3 hdj6
            refine lx_nil <| wi_inBlock <| wi_reg rfl <| lx_move (.int .i64 ((b : Nat) : Int)) rfl rfl <| lx_add (((b + 1 : Nat) : Int)) rfl rfl rfl (by omega) (by omega) (by omega) <| lx_assign (.int .i64 ((b + 1 : Nat) : Int)) rfl rfl <| lx_nil <| ?_
            -- L4.2
            refine IH3 _ _ (b + 1, es3.set b ((gt es3 b) + (gt es a))) (agree_ups rfl agree_self) ⟨rfl, trivial⟩ ⟨?_, ?_, hdj5, hdj6, hdj7, ?_, hx0_7, ?_, ?_⟩ ?_
            · first | exact ho20 | (simpa using ho20)
            · first | exact ho19 | (simpa using ho19)
            · first | exact ho18 | (simpa using ho18)
            · try dsimp only
              omega
            · try dsimp only
              first
              | (rw [hg1, hg2, hes3]; exact relP_set (by omega) hbl)
              | (rw [hes3]; refine relP_skip ?_; unfold chR; first | (rw [show blw (pb p) a b = false from by assumption]; rfl) | (rw [show pb p b y = false from by assumption, Bool.and_false]))
            · first | omega | (dsimp only; omega)
          · refine wi_skip <| wi_inBlock <| wi_reg rfl <| lx_move (.int .i64 ((b : Nat) : Int)) rfl rfl <| lx_add (((b + 1 : Nat) : Int)) rfl rfl rfl (by omega) (by omega) (by omega) <| lx_assign (.int .i64 ((b + 1 : Nat) : Int)) rfl rfl <| lx_nil <| ?_
            -- L4.3
            refine IH3 _ _ (b + 1, es3) (agree_ups rfl agree_self) ⟨rfl, trivial⟩ ⟨?_, ?_, hdj5, hdj6, hdj7, ?_, hx0_6, ?_, ?_⟩ ?_
            · first | exact ho15 | (simpa using ho15)
            · first | exact ho16 | (simpa using ho16)
            · first | exact ho17 | (simpa using ho17)
            · try dsimp only
              omega
            · try dsimp only
              first
              | (rw [hg1, hg2, hes3]; exact relP_set (by omega) hbl)
              | (rw [hes3]; refine relP_skip ?_; unfold chR; first | (rw [show blw (pb p) a b = false from by assumption]; rfl) | (rw [show pb p b y = false from by assumption, Bool.and_false]))
            · first | omega | (dsimp only; omega)
      · refine lx_nil <| wi_false rfl <| wi_exit rfl <| wi_inBlock <| wi_reg rfl <| lx_move (.int .i64 ((a : Nat) : Int)) rfl rfl <| lx_add (((a + 1 : Nat) : Int)) rfl rfl rfl (by omega) (by omega) (by omega) <| lx_assign (.int .i64 ((a + 1 : Nat) : Int)) rfl rfl <| lx_nil <| ?_
        -- L2.1
        refine IH2 _ _ (a + 1, es3) (agree_ups rfl (agree_mix (rngB_sub (by decide) (by decide) rfl) (agree_ups rfl agree_self))) ⟨rfl, trivial⟩ ⟨?_, ?_, hdj5, hdj6, hdj7, ?_, hx0_6, ?_, ?_⟩ ?_
        · first | exact ho15 | (simpa using ho15)
        · first | exact ho16 | (simpa using ho16)
        · first | exact ho17 | (simpa using ho17)
        · try dsimp only
          omega
        · try dsimp only
          rw [hes3, show b = p.length from by omega]; exact mapR_congr fun q hq => relP_next hq
        · first | omega | (dsimp only; omega)
    · refine lx_nil <| wi_false rfl <| wi_exit rfl <| wi_reg rfl <| lx_move (v3) rfl rfl <| lx_assign (v3) rfl rfl <| lx_nil <| wi_inBlock <| wi_reg rfl <| lx_move (.int .i64 ((k : Nat) : Int)) rfl rfl <| lx_add (((k + 1 : Nat) : Int)) rfl rfl rfl (by omega) (by omega) (by omega) <| lx_assign (.int .i64 ((k + 1 : Nat) : Int)) rfl rfl <| lx_nil <| ?_
      -- L0.1
      refine IH1 _ _ (k + 1, v2, os2, v3, es2) (agree_ups rfl (agree_mix (rngB_sub (by decide) (by decide) rfl) (agree_ups rfl agree_self))) ⟨rfl, rfl, rfl, trivial⟩ ⟨?_, ?_, hdj3, hx0_5, ?_, ?_, ?_⟩ ?_
      · first | exact ho12 | (simpa using ho12)
      · first | exact ho14 | (simpa using ho14)
      · try dsimp only
        omega
      · try dsimp only
        rw [hos2, hos, hgy]; exact mapR_snoc _ _
      · try dsimp only
        rw [hes2, show a = p.length from by omega]; exact mapR_congr fun q hq => chW_next hp3 hq hp5
      · first | omega | (dsimp only; omega)
  · refine lx_nil <| wi_false rfl <| wi_exit rfl <| wi_seq <| wi_block <| ?_
    refine wi_loop (σ := Nat × Value × (List Int)) (rngB 73 90 [7]) (fun (ss : Nat × Value × (List Int)) => [(7, ss.2.1)]) (fun (ss : Nat × Value × (List Int)) (hh : Heap) => OwE encI hh h.size 2 ss.2.1 ss.2.2 ∧ Ext h.size h hh ∧ (ss.1 ≤ p.length) ∧ (ss.2.2 = mapR ss.1 (fun k9 => chN p.length (pb p) x k9 y)) ∧ (∀ k9, ss.1 ≤ k9 → k9 < p.length → chN p.length (pb p) x k9 y = 0)) (fun (ss : Nat × Value × (List Int)) => ss.1) (p.length, v, os) ⟨rfl, trivial⟩ ⟨?_, hx0_2, ?_, ?_, ?_⟩ ?_
    · first | exact ho4 | (simpa using ho4)
    · try dsimp only
      omega
    · try dsimp only
      rw [hos, show k = p.length from by omega]
    · try dsimp only
      intro k9 h1 h2; omega
    rintro g4 ⟨L, u, ys⟩ hh4 ⟨ho21, hx0_8, hL, hys, hz⟩ IH4
    dsimp only at *
    have hyl : ys.length = L := by rw [hys]; exact mapR_len _ _
    refine wi_seq <| wi_seq <| wi_reg rfl <| lx_move (u) rfl rfl <| lx_len rfl Try.underlying58 ho21.rd rfl <| lx_gtrS rfl rfl rfl (fun c6 => ?_) (fun c6 => ?_)
    · refine lx_move (.bool true) rfl rfl <| lx_move (u) rfl rfl <| lx_move (u) rfl rfl <| lx_len rfl Try.underlying58 ho21.rd rfl <| lx_sub (((L - 1 : Nat) : Int)) rfl rfl rfl (by omega) (by omega) (by omega) <| lx_ix (i := L - 1) rfl eT58 ho21.rd rfl rfl (by omega) <| lx_ld (i := L - 1) (j := 0) (.int .i64 (gt ys (L - 1))) rfl rfl fl2 ho21.rd (by omega) rfl rfl <| lx_eqlS rfl rfl rfl (fun c7 => ?_) (fun c7 => ?_)
      · refine lx_pick true (.bool true) rfl rfl rfl <| lx_nil <| wi_true rfl <| wi_skip <| wi_block <| wi_reg rfl <| lx_move (u) rfl rfl <| lx_move (u) rfl rfl <| lx_len rfl Try.underlying58 ho21.rd rfl <| lx_sub (((L - 1 : Nat) : Int)) rfl rfl rfl (by omega) (by omega) (by omega) <| lx_slice (E := encI) 0 (L - 1) rfl eT58 rfl rfl ⟨_, rfl⟩ ho21.rd (by omega) (by omega) fun v4 hs1 hso1 => ?_
        have ho22 := sl_own ho21 (hso1 rfl).2 (by omega)
        refine lx_assign (v4) rfl rfl <| lx_nil <| wi_inBlock <| ?_
        -- L6.1
        refine IH4 _ _ (L - 1, v4, ys.take (L - 1)) (agree_ups rfl agree_self) ⟨rfl, trivial⟩ ⟨?_, hx0_8, ?_, ?_, ?_⟩ ?_
        · first | exact ho22 | (simpa using ho22)
        · try dsimp only
          omega
        · try dsimp only
          rw [hys]; exact mapR_take (by omega)
        · try dsimp only
          intro k9 h1 h2
          by_cases e : k9 = L - 1
          · have h3 : gt ys (L - 1) = 0 := by omega
            rw [hys, gt_mapR (by omega)] at h3; rw [e]; exact h3
          · exact hz k9 (by omega) h2
        · first | omega | (dsimp only; omega)
      · refine lx_pick true (.bool false) rfl rfl rfl <| lx_nil <| wi_false rfl <| wi_exit rfl <| wi_seq <| wi_reg rfl <| lx_move (u) rfl rfl <| lx_assign (u) rfl rfl <| lx_nil <| ?_
        -- R1
        refine wi_ret ⟨u, (res_one rfl rfl), ⟨u, ys, rfl, ho21, ?_, hx0_8⟩⟩
        · refine ⟨L, hL, hys, hz, ?_⟩
          by_cases e0 : L = 0
          · exact .inl e0
          · refine .inr fun h9 => ?_
            have h3 : gt ys (L - 1) = 0 := by rw [hys, gt_mapR (by omega)]; exact h9
            omega
    · refine lx_move (.bool false) rfl rfl <| lx_skip rfl <| lx_skip rfl <| lx_skip rfl <| lx_skip rfl <| lx_skip rfl <| lx_skip rfl <| lx_skip rfl <| lx_pick false (.bool false) rfl rfl rfl <| lx_nil <| wi_false rfl <| wi_exit rfl <| wi_seq <| wi_reg rfl <| lx_move (u) rfl rfl <| lx_assign (u) rfl rfl <| lx_nil <| ?_
      -- R2
      refine wi_ret ⟨u, (res_one rfl rfl), ⟨u, ys, rfl, ho21, ?_, hx0_8⟩⟩
      · refine ⟨L, hL, hys, hz, ?_⟩
        by_cases e0 : L = 0
        · exact .inl e0
        · refine .inr fun h9 => ?_
          have h3 : gt ys (L - 1) = 0 := by rw [hys, gt_mapR (by omega)]; exact h9
          omega

set_option maxRecDepth 10000 in
theorem rlisted_spec (h : Heap) (vp : Value) (hs : List Hdr) (p : List (List Bool)) (hr_vp : RdE encHd h vp hs) (ht_vp : RT encB h hs p) (hp1 : p.length ≤ 12) (hp2 : Sq p p.length) (hp3 : IsO p.length (pb p)) : Fx Try.prog 111 [vp] h (fun v h' => ∃ (s : Value) (xs : List Int), v = s ∧ OwE encI h' h.size 3 s xs ∧ (LinL p.length (pb p) xs) ∧ Ext h.size h h') := by
  have hl_vp := ht_vp.1
  refine fx_intro (n := 56) [(0, vp)] Try.func111 rfl rfl (by simp) ⟨rfl, trivial⟩ fun g0 => ?_
  refine wi_seq <| wi_reg rfl <| lx_assign (.slice none 0 0) rfl rfl <| lx_nil <| wi_seq <| wi_reg rfl <| lx_assign (.slice none 0 0) rfl rfl <| lx_nil <| wi_seq <| wi_reg rfl <| lx_move (vp) rfl rfl <| lx_len rfl Try.underlying23 hr_vp rfl <| lx_make (E := encB) (n := hs.length) (B := h.size) false rfl rfl Try.underlying70 (eZ70) rfl rfl (by omega) (by omega) (Nat.le_refl _) (fun _ _ => trivial) fun v1 h1 ho1 hx1 hvb1 => ?_
  have ho2 := ho1.base (Nat.le_refl h.size)
  refine lx_assign (v1) rfl rfl <| lx_nil <| wi_seq <| wi_block <| ?_
  refine wi_loop (σ := Value × (List Int) × (List Bool)) (rngB 11 55 [3, 5, 6, 7]) (fun (ss : Value × (List Int) × (List Bool)) => [(3, ss.1)]) (fun (ss : Value × (List Int) × (List Bool)) (hh : Heap) => OwE encI hh h.size 3 ss.1 ss.2.1 ∧ OwE encB hh h.size 4 v1 ss.2.2 ∧ Ext h.size h hh ∧ (LstP p.length (pb p) ss.2.2 ss.2.1)) (fun (ss : Value × (List Int) × (List Bool)) => p.length - ss.2.1.length) (.slice none 0 0, [], List.replicate hs.length false) ⟨rfl, trivial⟩ ⟨?_, ?_, hx1, ?_⟩ ?_
  · first | exact (owE_nil encI _ h.size 3) | (simpa using (owE_nil encI _ h.size 3))
  · first | exact ho2 | (simpa using ho2)
  · try dsimp only
    rw [hl_vp]; exact LstP.start _ _
  rintro g1 ⟨v, xs, dn⟩ hh1 ⟨ho3, ho4, hx0_1, hL⟩ IH1
  dsimp only at *
  have hxl := hL.le
  have hdl := hL.dl
  refine wi_seq <| wi_seq <| wi_reg rfl <| lx_move (v) rfl rfl <| lx_len rfl Try.underlying25 ho3.rd rfl <| lx_move (vp) rfl rfl <| lx_len rfl Try.underlying23 hr_vp rfl <| lx_lssS rfl rfl rfl (fun c1 => ?_) (fun c1 => ?_)
  · refine lx_nil <| wi_true rfl <| wi_skip <| wi_block <| wi_seq <| wi_reg rfl <| lx_assign (.int .i64 0) rfl rfl <| lx_nil <| wi_block <| ?_
    refine wi_loop (σ := Nat × Value × (List Int) × (List Bool)) (rngB 16 55 [3, 5, 6, 7]) (fun (ss : Nat × Value × (List Int) × (List Bool)) => [(5, .int .i64 ((ss.1 : Nat) : Int)), (3, ss.2.1)]) (fun (ss : Nat × Value × (List Int) × (List Bool)) (hh : Heap) => OwE encI hh h.size 3 ss.2.1 ss.2.2.1 ∧ OwE encB hh h.size 4 v1 ss.2.2.2 ∧ Ext h.size h hh ∧ (ss.1 ≤ p.length) ∧ (LstP p.length (pb p) ss.2.2.2 ss.2.2.1) ∧ (xs.length < ss.2.2.1.length ∨ (ss.2.2.1 = xs ∧ ss.2.2.2 = dn ∧ ∀ z, z < ss.1 → freeF (pb p) dn z p.length = false))) (fun (ss : Nat × Value × (List Int) × (List Bool)) => p.length - ss.1) (0, v, xs, dn) ⟨rfl, rfl, trivial⟩ ⟨?_, ?_, hx0_1, ?_, ?_, ?_⟩ ?_
    · first | exact ho3 | (simpa using ho3)
    · first | exact ho4 | (simpa using ho4)
    · try dsimp only
      omega
    · try dsimp only
      exact hL
    · try dsimp only
      exact .inr ⟨rfl, rfl, fun z hz => by omega⟩
    rintro g2 ⟨x, u, ys, dm⟩ hh2 ⟨ho5, ho6, hx0_2, hx, hM, hpr⟩ IH2
    dsimp only at *
    have hyl := hM.le
    have hdl2 := hM.dl
    refine wi_seq <| wi_seq <| wi_reg rfl <| lx_move (.int .i64 ((x : Nat) : Int)) rfl rfl <| lx_move (vp) rfl rfl <| lx_len rfl Try.underlying23 hr_vp rfl <| lx_lssS rfl rfl rfl (fun c2 => ?_) (fun c2 => ?_)
    · refine lx_nil <| wi_true rfl <| wi_skip <| wi_seq <| wi_block <| wi_seq <| wi_reg rfl <| lx_move (v1) rfl rfl <| lx_move (.int .i64 ((x : Nat) : Int)) rfl rfl <| lx_ix (i := x) rfl eT70 ho6.rd rfl rfl (by omega) <| lx_ld (i := x) (j := 0) (.bool (gt dm x)) rfl rfl fl4 ho6.rd (by omega) rfl rfl <| lx_not rfl rfl <| lx_assign (.bool (!(gt dm x))) rfl rfl <| lx_nil <| wi_seq <| wi_seq <| wi_reg rfl <| lx_assign (.int .i64 0) rfl rfl <| lx_nil <| wi_block <| ?_
      refine wi_loop (σ := Nat × Bool) (rngB 27 47 [6, 7]) (fun (ss : Nat × Bool) => [(7, .int .i64 ((ss.1 : Nat) : Int)), (6, .bool ss.2)]) (fun (ss : Nat × Bool) (hh : Heap) => hh2 = hh ∧ (ss.1 ≤ p.length) ∧ (ss.2 = freeF (pb p) dm x ss.1)) (fun (ss : Nat × Bool) => p.length - ss.1) (0, !(gt dm x)) ⟨rfl, rfl, trivial⟩ ⟨rfl, ?_, ?_⟩ ?_
      · try dsimp only
        omega
      · try dsimp only
        exact (freeF_zero _ _ _).symm
      rintro g3 ⟨y, b⟩ hh3 ⟨rfl, hy, hb⟩ IH3
      dsimp only at *
      refine wi_seq <| wi_seq <| wi_reg rfl <| lx_move (.int .i64 ((y : Nat) : Int)) rfl rfl <| lx_move (vp) rfl rfl <| lx_len rfl Try.underlying23 hr_vp rfl <| lx_lssS rfl rfl rfl (fun c3 => ?_) (fun c3 => ?_)
      · refine lx_nil <| wi_true rfl <| wi_skip <| wi_seq <| wi_block <| wi_reg rfl <| lx_move (.bool b) rfl rfl <| lx_move (.bool b) rfl rfl <| ?_
        cases c4 : b
        · refine lx_skip rfl <| lx_skip rfl <| lx_skip rfl <| lx_skip rfl <| lx_skip rfl <| lx_skip rfl <| lx_skip rfl <| lx_skip rfl <| lx_skip rfl <| lx_skip rfl <| lx_skip rfl <| lx_pick false (.bool false) rfl rfl rfl <| lx_assign (.bool false) rfl rfl <| lx_nil <| wi_inBlock <| wi_reg rfl <| lx_move (.int .i64 ((y : Nat) : Int)) rfl rfl <| lx_add (((y + 1 : Nat) : Int)) rfl rfl rfl (by omega) (by omega) (by omega) <| lx_assign (.int .i64 ((y + 1 : Nat) : Int)) rfl rfl <| lx_nil <| ?_
          -- L4.1
          refine IH3 _ _ (y + 1, false) (agree_ups rfl agree_self) ⟨rfl, rfl, trivial⟩ ⟨rfl, ?_, ?_⟩ ?_
          · try dsimp only
            omega
          · try dsimp only
            rw [freeF_succ, ← hb]
            first
            | (rw [show b = false from by assumption]; rfl)
            | (rw [show b = true from by assumption, show blw (pb p) y x = false from by assumption]; rfl)
            | (rw [show b = true from by assumption, show blw (pb p) y x = true from by assumption]; simp; done)
          · first | omega | (dsimp only; omega)
        · refine lx_move (vp) rfl rfl <| lx_move (.int .i64 ((y : Nat) : Int)) rfl rfl <| lx_move (.int .i64 ((x : Nat) : Int)) rfl rfl <| lx_call [vp, .int .i64 ((y : Nat) : Int), .int .i64 ((x : Nat) : Int)] rfl rfl Try.call102 rfl (rbelow_spec hh2 vp hs p y x (hr_vp.extS hx0_2) (ht_vp.extS hx0_2) (by omega) (by first | with_reducible assumption | omega) (by omega) (by omega)) (fun _ _ _ => trivial) ?_
          rintro _ h2 ⟨rfl, rfl⟩
          refine lx_not rfl rfl <| lx_move (.bool (!(decide (y ≠ x) && pb p y x))) rfl rfl <| ?_
          cases c5 : (decide (y ≠ x) && pb p y x)
          · refine lx_skip rfl <| lx_skip rfl <| lx_skip rfl <| lx_skip rfl <| lx_pick true (.bool true) rfl rfl rfl <| lx_pick true (.bool true) rfl rfl rfl <| lx_assign (.bool true) rfl rfl <| lx_nil <| wi_inBlock <| wi_reg rfl <| lx_move (.int .i64 ((y : Nat) : Int)) rfl rfl <| lx_add (((y + 1 : Nat) : Int)) rfl rfl rfl (by omega) (by omega) (by omega) <| lx_assign (.int .i64 ((y + 1 : Nat) : Int)) rfl rfl <| lx_nil <| ?_
            -- L4.2
            refine IH3 _ _ (y + 1, true) (agree_ups rfl agree_self) ⟨rfl, rfl, trivial⟩ ⟨rfl, ?_, ?_⟩ ?_
            · try dsimp only
              omega
            · try dsimp only
              rw [freeF_succ, ← hb]
              first
              | (rw [show b = false from by assumption]; rfl)
              | (rw [show b = true from by assumption, show blw (pb p) y x = false from by assumption]; rfl)
              | (rw [show b = true from by assumption, show blw (pb p) y x = true from by assumption]; simp; done)
            · first | omega | (dsimp only; omega)
          · refine lx_move (v1) rfl rfl <| lx_move (.int .i64 ((y : Nat) : Int)) rfl rfl <| lx_ix (i := y) rfl eT70 ho6.rd rfl rfl (by omega) <| lx_ld (i := y) (j := 0) (.bool (gt dm y)) rfl rfl fl4 ho6.rd (by omega) rfl rfl <| lx_pick false (.bool (gt dm y)) rfl rfl rfl <| lx_pick true (.bool (gt dm y)) rfl rfl rfl <| lx_assign (.bool (gt dm y)) rfl rfl <| lx_nil <| wi_inBlock <| wi_reg rfl <| lx_move (.int .i64 ((y : Nat) : Int)) rfl rfl <| lx_add (((y + 1 : Nat) : Int)) rfl rfl rfl (by omega) (by omega) (by omega) <| lx_assign (.int .i64 ((y + 1 : Nat) : Int)) rfl rfl <| lx_nil <| ?_
            -- L4.3
            refine IH3 _ _ (y + 1, gt dm y) (agree_ups rfl agree_self) ⟨rfl, rfl, trivial⟩ ⟨rfl, ?_, ?_⟩ ?_
            · try dsimp only
              omega
            · try dsimp only
              rw [freeF_succ, ← hb]
              first
              | (rw [show b = false from by assumption]; rfl)
              | (rw [show b = true from by assumption, show blw (pb p) y x = false from by assumption]; rfl)
              | (rw [show b = true from by assumption, show blw (pb p) y x = true from by assumption]; simp; done)
            · first | omega | (dsimp only; omega)
      · refine lx_nil <| wi_false rfl <| wi_exit rfl <| wi_seq <| wi_reg rfl <| lx_move (.bool b) rfl rfl <| lx_nil <| wi_condS (t := b) rfl (fun c6 => ?_) (fun c6 => ?_)
        · refine wi_seq <| wi_reg rfl <| ?_
          have hfr : freeF (pb p) dm x p.length = true := by rw [show p.length = y from by omega, ← hb]; assumption
          refine lx_move (v1) rfl rfl <| lx_move (.int .i64 ((x : Nat) : Int)) rfl rfl <| lx_ix (i := x) rfl eT70 ho6.rd rfl rfl (by omega) <| lx_st (i := x) true rfl rfl Try.sizeOf4 ho6 (by omega) rfl rfl (fun _ _ _ _ _ => trivial) fun h3 ho7 hc1 hsz1 => ?_
          have hx0_3 := hx0_2.trans (ho6.ext hc1 hx0_2.size)
          have ho8 := ho5.chg hc1 (dj_ty ho5 ho6 (by decide))
          refine lx_nil <| wi_reg rfl <| lx_move (u) rfl rfl <| lx_move (.int .i64 ((x : Nat) : Int)) rfl rfl <| lx_appendL (E := encI) (B := h.size) [((x : Nat) : Int)] [.int .i64 ((x : Nat) : Int)] rfl rfl (fun _ => rfl) rfl eT25 rfl rfl rfl rfl ho8 (fun _ => rfl) (by show ys.length + 1 ≤ _; omega) (by show (ys.length + 1) * 8 ≤ _; omega) hx0_3.size (fun _ _ => trivial) fun u1 v2 h4 ho9 hc2 hg1 => ?_
          have hx0_4 := hx0_3.trans (ho8.ext hc2 hx0_3.size)
          have ho10 := ho7.chg hc2 (dj_ty ho7 ho8 (by decide))
          refine lx_assign (v2) rfl rfl <| lx_nil <| wi_inBlock <| wi_reg rfl <| lx_move (.int .i64 ((x : Nat) : Int)) rfl rfl <| lx_add (((x + 1 : Nat) : Int)) rfl rfl rfl (by omega) (by omega) (by omega) <| lx_assign (.int .i64 ((x + 1 : Nat) : Int)) rfl rfl <| lx_nil <| ?_
          -- L2.1
          refine IH2 _ _ (x + 1, v2, ys ++ [((x : Nat) : Int)], dm.set x true) (agree_ups rfl (agree_mix (rngB_sub (by decide) (by decide) rfl) (agree_ups rfl agree_self))) ⟨rfl, rfl, trivial⟩ ⟨?_, ?_, hx0_4, ?_, ?_, ?_⟩ ?_
          · first | exact ho9 | (simpa using ho9)
          · first | exact ho10 | (simpa using ho10)
          · try dsimp only
            omega
          · try dsimp only
            exact hM.step (by omega) hfr
          · try dsimp only
            refine .inl ?_
            rw [List.length_append]
            show xs.length < ys.length + 1
            rcases hpr with h9 | ⟨h9, _⟩
            · omega
            · rw [h9]; omega
          · first | omega | (dsimp only; omega)
        · refine wi_skip <| wi_inBlock <| wi_reg rfl <| lx_move (.int .i64 ((x : Nat) : Int)) rfl rfl <| lx_add (((x + 1 : Nat) : Int)) rfl rfl rfl (by omega) (by omega) (by omega) <| lx_assign (.int .i64 ((x + 1 : Nat) : Int)) rfl rfl <| lx_nil <| ?_
          -- L2.2
          refine IH2 _ _ (x + 1, u, ys, dm) (agree_ups rfl (agree_mix (rngB_sub (by decide) (by decide) rfl) (agree_ups rfl agree_self))) ⟨rfl, rfl, trivial⟩ ⟨?_, ?_, hx0_2, ?_, ?_, ?_⟩ ?_
          · first | exact ho5 | (simpa using ho5)
          · first | exact ho6 | (simpa using ho6)
          · try dsimp only
            omega
          · try dsimp only
            exact hM
          · try dsimp only
            rcases hpr with h9 | ⟨h9, h8, h7⟩
            · exact .inl h9
            · refine .inr ⟨h9, h8, fun z hz => ?_⟩
              by_cases e : z = x
              · rw [e, ← h8, show p.length = y from by omega, ← hb]; assumption
              · exact h7 z (by omega)
          · first | omega | (dsimp only; omega)
    · refine lx_nil <| wi_false rfl <| wi_exit rfl <| wi_inBlock <| ?_
      have hgr : xs.length < ys.length := by
        rcases hpr with h9 | ⟨h9, h8, h7⟩
        · exact h9
        · obtain ⟨z, hz, hzf⟩ := LstP.more hp3 hL (by omega)
          rw [h7 z (by omega)] at hzf; cases hzf
      -- L0.1
      refine IH1 _ _ (u, ys, dm) (agree_ups rfl (agree_mix (rngB_sub (by decide) (by decide) rfl) (agree_ups rfl agree_self))) ⟨rfl, trivial⟩ ⟨?_, ?_, hx0_2, ?_⟩ ?_
      · first | exact ho5 | (simpa using ho5)
      · first | exact ho6 | (simpa using ho6)
      · try dsimp only
        exact hM
      · first | omega | (dsimp only; omega)
  · refine lx_nil <| wi_false rfl <| wi_exit rfl <| wi_seq <| wi_reg rfl <| lx_move (v) rfl rfl <| lx_assign (v) rfl rfl <| lx_nil <| ?_
    -- R1
    refine wi_ret ⟨v, (res_one rfl rfl), ⟨v, xs, rfl, ho3, ?_, hx0_1⟩⟩
    · exact hL.done (by omega)

end Go.Proofs.Ytdokijbdnajhgaa
namespace Go.Proofs.Ytdokijbdnajhgaa
open Go Go.X

theorem gt_snoc {α : Type} [Inhabited α] {xs : List α} {a : α} {i : Nat} (h : xs.length = i) : gt (xs ++ [a]) i = a := by subst h; exact gt_append_right
theorem set_same {α : Type} [Inhabited α] {xs : List α} {i : Nat} {a : α} (h : gt xs i = a) : xs.set i a = xs := by
  by_cases hi : i < xs.length
  · refine gt_ext (by rw [List.length_set]) fun j hj => ?_
    rw [gt_set hi]
    split
    · rename_i e; rw [e, h]
    · rfl
  · exact List.set_eq_of_length_le (by omega)

set_option maxRecDepth 10000 in
theorem rmoebius_spec (h : Heap) (vp : Value) (hs : List Hdr) (p : List (List Bool)) (hr_vp : RdE encHd h vp hs) (ht_vp : RT encB h hs p) (hp1 : p.length ≤ 12) (hp2 : Sq p p.length) (hp3 : IsO p.length (pb p)) : Fx Try.prog 54 [vp] h (fun v h' => ∃ (s : Value) (hm : List Hdr), v = s ∧ OwE encHd h' h.size 25 s hm ∧ OT encI h' h.size 3 hm (muT p.length (pb p)) ∧ Ext h.size h h') := by
  have hl_vp := ht_vp.1
  refine fx_intro (n := 90) [(0, vp)] Try.func54 rfl rfl (by simp) ⟨rfl, trivial⟩ fun g0 => ?_
  refine wi_seq <| wi_reg rfl <| lx_assign (.slice none 0 0) rfl rfl <| lx_nil <| wi_seq <| wi_reg rfl <| lx_move (vp) rfl rfl <| lx_call [vp] rfl rfl Try.call111 rfl (rlisted_spec h vp hs p hr_vp ht_vp (by omega) (by first | with_reducible assumption | omega) (by first | with_reducible assumption | omega)) (fun _ _ _ => trivial) ?_
  rintro vl h1 ⟨_, xs, rfl, ho1, hli, hx1⟩
  have ho2 := ho1.base (Nat.le_refl h.size)
  refine lx_assign (vl) rfl rfl <| lx_nil <| wi_seq <| wi_reg rfl <| lx_assign (.slice none 0 0) rfl rfl <| lx_nil <| wi_seq <| wi_seq <| wi_reg rfl <| ?_
  have hll := hli.len
  refine lx_assign (.int .i64 0) rfl rfl <| lx_nil <| wi_block <| ?_
  refine wi_loop (σ := Nat × Value × (List Hdr) × (List (List Int))) (rngB 11 89 [4, 5, 6, 7, 8]) (fun (ss : Nat × Value × (List Hdr) × (List (List Int))) => [(5, .int .i64 ((ss.1 : Nat) : Int)), (4, ss.2.1)]) (fun (ss : Nat × Value × (List Hdr) × (List (List Int))) (hh : Heap) => OwE encHd hh h.size 25 ss.2.1 ss.2.2.1 ∧ OT encI hh h.size 3 ss.2.2.1 ss.2.2.2 ∧ OwE encI hh h.size 3 vl xs ∧ Djt ss.2.2.1 vl ∧ Ext h.size h hh ∧ (ss.1 ≤ p.length) ∧ (ss.2.2.2.length = ss.1) ∧ (∀ q, q < ss.1 → gt ss.2.2.2 q = mapR p.length (muF p.length (pb p) q))) (fun (ss : Nat × Value × (List Hdr) × (List (List Int))) => p.length - ss.1) (0, .slice none 0 0, [], []) ⟨rfl, rfl, trivial⟩ ⟨?_, ?_, ?_, (djt_nil_l _), hx1, ?_, ?_, ?_⟩ ?_
  · first | exact (owE_nil encHd _ h.size 25) | (simpa using (owE_nil encHd _ h.size 25))
  · first | exact (OT.nil encI _ h.size 3) | (simpa using (OT.nil encI _ h.size 3))
  · first | exact ho2 | (simpa using ho2)
  · try dsimp only
    omega
  · try dsimp only
    first | done | rfl
  · try dsimp only
    intro q hq; omega
  rintro g1 ⟨x, v, hv, rows⟩ hh1 ⟨ho3, hot1, ho4, hdt1, hx0_1, hx, hrl, hro⟩ IH1
  dsimp only at *
  have hl_hot1 := hot1.1
  refine wi_seq <| wi_seq <| wi_reg rfl <| lx_move (.int .i64 ((x : Nat) : Int)) rfl rfl <| lx_move (vp) rfl rfl <| lx_len rfl Try.underlying23 hr_vp rfl <| lx_lssS rfl rfl rfl (fun c1 => ?_) (fun c1 => ?_)
  · refine lx_nil <| wi_true rfl <| wi_skip <| wi_seq <| wi_block <| wi_seq <| wi_reg rfl <| lx_move (v) rfl rfl <| lx_move (vp) rfl rfl <| lx_len rfl Try.underlying23 hr_vp rfl <| lx_make (E := encI) (n := hs.length) (B := hh1.size) (0 : Int) rfl rfl Try.underlying25 (eZ25) rfl rfl (by omega) (by omega) (Nat.le_refl _) (fun _ _ => trivial) fun v1 h2 ho5 hx2 hvb1 => ?_
    have hx0_2 := hx0_1.trans2 hx2 hx0_1.size
    have ho6 := ho4.extS hx2
    have ho7 := ho3.extS hx2
    have hot2 := hot1.extS hx2
    have ho8 := ho5.base hx0_1.size
    have hot3 : OT encI h2 h.size 3 (hv ++ [hdrOf v1]) (rows ++ [List.replicate hs.length (0 : Int)]) := OT.snoc hot2 ho8 (djt_new hot1 ho5)
    have hdt2 : Djt (hv ++ [hdrOf v1]) vl := djt_snoc hdt1 (hdr_rd ho8.rd) (Dj.symm (dj_new ho4 ho5))
    refine lx_appendL (E := encHd) (B := h.size) [hdrOf v1] [v1] rfl rfl (fun _ => rfl) rfl eT49 rfl rfl (hdr_cells1 ho8.rd) rfl ho7 (fun _ => rfl) (by show hv.length + 1 ≤ _; omega) (by show (hv.length + 1) * 24 ≤ _; omega) hx0_2.size (fun _ _ => trivial) fun u1 v2 h3 ho9 hc1 hg1 => ?_
    have hx0_3 := hx0_2.trans (ho7.ext hc1 hx0_2.size)
    have ho10 := ho6.chg hc1 (dj_ty ho6 ho7 (by decide))
    have hot4 : OT encI h3 h.size 3 (hv ++ [hdrOf v1]) (rows ++ [List.replicate hs.length (0 : Int)]) := hot3.chg hc1 (djt_ty hot3 ho7 (by decide))
    have hl_hot4 := hot4.1
    refine lx_assign (v2) rfl rfl <| lx_nil <| wi_seq <| wi_reg rfl <| lx_assign (.int .i64 0) rfl rfl <| lx_nil <| wi_block <| ?_
    refine wi_loop (σ := Nat × (List Hdr) × (List (List Int))) (rngB 23 89 [6, 7, 8]) (fun (ss : Nat × (List Hdr) × (List (List Int))) => [(6, .int .i64 ((ss.1 : Nat) : Int))]) (fun (ss : Nat × (List Hdr) × (List (List Int))) (hh : Heap) => OwE encHd hh h.size 25 v2 ss.2.1 ∧ OT encI hh h.size 3 ss.2.1 ss.2.2 ∧ OwE encI hh h.size 3 vl xs ∧ Djt ss.2.1 vl ∧ Ext h.size h hh ∧ (ss.1 ≤ xs.length) ∧ (ss.2.2.length = x + 1) ∧ (gt ss.2.2 x = drow p.length (muF p.length (pb p) x) xs ss.1) ∧ (∀ q, q < x → gt ss.2.2 q = mapR p.length (muF p.length (pb p) q))) (fun (ss : Nat × (List Hdr) × (List (List Int))) => xs.length - ss.1) (0, hv ++ [hdrOf v1], rows ++ [List.replicate hs.length (0 : Int)]) ⟨rfl, trivial⟩ ⟨?_, ?_, ?_, hdt2, hx0_3, ?_, ?_, ?_, ?_⟩ ?_
    · first | exact ho9 | (simpa using ho9)
    · first | exact hot4 | (simpa using hot4)
    · first | exact ho10 | (simpa using ho10)
    · try dsimp only
      omega
    · try dsimp only
      rw [List.length_append, hrl]; rfl
    · try dsimp only
      rw [gt_snoc hrl, hl_vp]; exact drow_zero _ _ _
    · try dsimp only
      intro q hq; rw [gt_append_left (by omega)]; exact hro q hq
    rintro g2 ⟨i, ht2, r2⟩ hh2 ⟨ho11, hot5, ho12, hdt3, hx0_4, hi, hr2l, hr2x, hr2o⟩ IH2
    dsimp only at *
    have hl_hot5 := hot5.1
    refine wi_seq <| wi_seq <| wi_reg rfl <| lx_move (.int .i64 ((i : Nat) : Int)) rfl rfl <| lx_move (vl) rfl rfl <| lx_len rfl Try.underlying25 ho12.rd rfl <| lx_lssS rfl rfl rfl (fun c2 => ?_) (fun c2 => ?_)
    · refine lx_nil <| wi_true rfl <| wi_skip <| wi_seq <| wi_block <| wi_seq <| wi_reg rfl <| ?_
      obtain ⟨b, hgb, hbn⟩ := hli.rng i (by omega)
      have hrl2 : (gt r2 x).length = p.length := by rw [hr2x]; exact drow_len _ _ _ _
      refine lx_move (vl) rfl rfl <| lx_move (.int .i64 ((i : Nat) : Int)) rfl rfl <| lx_ix (i := i) rfl eT25 ho12.rd rfl rfl (by omega) <| lx_ld (i := i) (j := 0) (.int .i64 ((b : Nat) : Int)) rfl rfl fl3 ho12.rd (by omega) (by show some (Value.int .i64 (gt xs i)) = _; rw [hgb]) rfl <| lx_assign (.int .i64 ((b : Nat) : Int)) rfl rfl <| lx_nil <| wi_seq <| wi_reg rfl <| lx_move (.int .i64 ((b : Nat) : Int)) rfl rfl <| lx_move (.int .i64 ((x : Nat) : Int)) rfl rfl <| lx_eqlS rfl rfl rfl (fun c3 => ?_) (fun c3 => ?_)
      · refine lx_nil <| wi_true rfl <| wi_reg rfl <| lx_move (v2) rfl rfl <| lx_move (.int .i64 ((x : Nat) : Int)) rfl rfl <| lx_ix (i := x) rfl eT49 ho11.rd rfl rfl (by omega) <| lx_ld (i := x) (j := 0) ((gt ht2 x).v) rfl rfl fl25 ho11.rd (by omega) rfl rfl <| lx_move (.int .i64 ((b : Nat) : Int)) rfl rfl <| lx_ix (i := b) rfl eT25 (hot5.2.1 x (by omega)).rd rfl rfl (by omega) <| lx_st (i := b) ((1 : Int)) rfl rfl Try.sizeOf3 (hot5.2.1 x (by omega)) (by omega) rfl rfl (fun _ _ _ _ _ => trivial) fun h4 ho13 hc2 hsz1 => ?_
        have hx0_5 := hx0_4.trans ((hot5.2.1 x (by omega)).ext hc2 hx0_4.size)
        have ho14 := ho12.chg hc2 (Dj.symm (hdt3 x (by rw [hot5.1]; exact (by omega))))
        have ho15 := ho11.chg hc2 (Dj.symm ((djt_ty hot5 ho11 (by decide)) x (by rw [hot5.1]; exact (by omega))))
        have hot6 := OT.cell hot5 (by omega) hc2 ho13
        have hl_hot6 := hot6.1
        refine lx_nil <| wi_inBlock <| wi_reg rfl <| lx_move (.int .i64 ((i : Nat) : Int)) rfl rfl <| lx_add (((i + 1 : Nat) : Int)) rfl rfl rfl (by omega) (by omega) (by omega) <| lx_assign (.int .i64 ((i + 1 : Nat) : Int)) rfl rfl <| lx_nil <| ?_
        -- L2.1
        refine IH2 _ _ (i + 1, ht2, r2.set x ((gt r2 x).set b ((1 : Int)))) (agree_ups rfl agree_self) ⟨rfl, trivial⟩ ⟨?_, ?_, ?_, hdt3, hx0_5, ?_, ?_, ?_, ?_⟩ ?_
        · first | exact ho15 | (simpa using ho15)
        · first | exact hot6 | (simpa using hot6)
        · first | exact ho14 | (simpa using ho14)
        · try dsimp only
          omega
        · try dsimp only
          rw [List.length_set]; exact hr2l
        · try dsimp only
          have h9 : (1 : Int) = muF p.length (pb p) x b := by rw [show b = x from by omega, muF_self]
          have h8 := drow_set (F := muF p.length (pb p) x) hgb hbn
          rw [← h9] at h8
          rw [gt_set (by omega), if_pos rfl, hr2x]; exact h8
        · try dsimp only
          intro q hq; rw [gt_set (by omega), if_neg (by omega)]; exact hr2o q hq
        · first | omega | (dsimp only; omega)
      · refine lx_nil <| wi_false rfl <| wi_seq <| wi_reg rfl <| lx_move (vp) rfl rfl <| lx_move (.int .i64 ((x : Nat) : Int)) rfl rfl <| lx_ix (i := x) rfl eT23 hr_vp rfl rfl (by omega) <| lx_ld (i := x) (j := 0) ((gt hs x).v) rfl rfl fl70 (hr_vp.extS hx0_4) (by omega) rfl rfl <| lx_move (.int .i64 ((b : Nat) : Int)) rfl rfl <| lx_ix (i := b) rfl eT70 (ht_vp.2 x (by omega)) rfl rfl (by rw [hp2.2 x (by omega)]; omega) <| lx_ld (i := b) (j := 0) (.bool (gt (gt p x) b)) rfl rfl fl4 ((ht_vp.extS hx0_4).2 x (by omega)) (by rw [hp2.2 x (by omega)]; omega) rfl rfl <| lx_nil <| wi_condS (t := gt (gt p x) b) rfl (fun c4 => ?_) (fun c4 => ?_)
        · refine wi_seq <| wi_reg rfl <| ?_
          have hne : x ≠ b := by omega
          have hf : pb p x b = true := by assumption
          have hg0 : gt (gt r2 x) b = 0 := by rw [hr2x]; exact drow_not hli (by omega) hgb hbn
          refine lx_assign (.int .i64 0) rfl rfl <| lx_nil <| wi_block <| ?_
          refine wi_loop (σ := Nat × (List Hdr) × (List (List Int))) (rngB 49 89 [8]) (fun (ss : Nat × (List Hdr) × (List (List Int))) => [(8, .int .i64 ((ss.1 : Nat) : Int))]) (fun (ss : Nat × (List Hdr) × (List (List Int))) (hh : Heap) => OwE encHd hh h.size 25 v2 ss.2.1 ∧ OT encI hh h.size 3 ss.2.1 ss.2.2 ∧ OwE encI hh h.size 3 vl xs ∧ Djt ss.2.1 vl ∧ Ext h.size h hh ∧ (ss.1 ≤ p.length) ∧ (ss.2.2 = r2.set x ((gt r2 x).set b (rpart (muR (pb p) x b) (gt r2 x) 0 ss.1)))) (fun (ss : Nat × (List Hdr) × (List (List Int))) => p.length - ss.1) (0, ht2, r2) ⟨rfl, trivial⟩ ⟨?_, ?_, ?_, hdt3, hx0_4, ?_, ?_⟩ ?_
          · first | exact ho11 | (simpa using ho11)
          · first | exact hot5 | (simpa using hot5)
          · first | exact ho12 | (simpa using ho12)
          · try dsimp only
            omega
          · try dsimp only
            rw [rpart_zero, set_same hg0, set_same rfl]
          rintro g3 ⟨z, ht4, r4⟩ hh3 ⟨ho16, hot7, ho17, hdt4, hx0_6, hz, hr4⟩ IH3
          dsimp only at *
          have hrl4 : r4.length = x + 1 := by rw [hr4, List.length_set]; exact hr2l
          have hrx4 : (gt r4 x).length = p.length := by rw [hr4, gt_set (by omega), if_pos rfl, List.length_set]; exact hrl2
          have hl_hot7 := hot7.1
          refine wi_seq <| wi_seq <| wi_reg rfl <| lx_move (.int .i64 ((z : Nat) : Int)) rfl rfl <| lx_move (vp) rfl rfl <| lx_len rfl Try.underlying23 hr_vp rfl <| lx_lssS rfl rfl rfl (fun c5 => ?_) (fun c5 => ?_)
          · refine lx_nil <| wi_true rfl <| wi_skip <| wi_seq <| wi_block <| wi_seq <| wi_reg rfl <| lx_move (vp) rfl rfl <| lx_move (.int .i64 ((x : Nat) : Int)) rfl rfl <| lx_ix (i := x) rfl eT23 hr_vp rfl rfl (by omega) <| lx_ld (i := x) (j := 0) ((gt hs x).v) rfl rfl fl70 (hr_vp.extS hx0_6) (by omega) rfl rfl <| lx_move (.int .i64 ((z : Nat) : Int)) rfl rfl <| lx_ix (i := z) rfl eT70 (ht_vp.2 x (by omega)) rfl rfl (by rw [hp2.2 x (by omega)]; omega) <| lx_ld (i := z) (j := 0) (.bool (gt (gt p x) z)) rfl rfl fl4 ((ht_vp.extS hx0_6).2 x (by omega)) (by rw [hp2.2 x (by omega)]; omega) rfl rfl <| lx_move (.bool (gt (gt p x) z)) rfl rfl <| ?_
            cases c6 : (gt (gt p x) z)
            · refine lx_skip rfl <| lx_skip rfl <| lx_skip rfl <| lx_skip rfl <| lx_pick false (.bool false) rfl rfl rfl <| lx_nil <| wi_false rfl <| wi_skip <| wi_inBlock <| wi_reg rfl <| lx_move (.int .i64 ((z : Nat) : Int)) rfl rfl <| lx_add (((z + 1 : Nat) : Int)) rfl rfl rfl (by omega) (by omega) (by omega) <| lx_assign (.int .i64 ((z + 1 : Nat) : Int)) rfl rfl <| lx_nil <| ?_
              -- L4.1
              refine IH3 _ _ (z + 1, ht4, r4) (agree_ups rfl agree_self) ⟨rfl, trivial⟩ ⟨?_, ?_, ?_, hdt4, hx0_6, ?_, ?_⟩ ?_
              · first | exact ho16 | (simpa using ho16)
              · first | exact hot7 | (simpa using hot7)
              · first | exact ho17 | (simpa using ho17)
              · try dsimp only
                omega
              · try dsimp only
                first
                | (rw [hg1, hg2, ← rpart_yes hbl, hr4, gt_set (by omega), if_pos rfl, List.set_set, List.set_set]; done)
                | (rw [hr4, rpart_no]; unfold muR; first | (rw [show pb p x z = false from by assumption]; rfl) | (rw [show blw (pb p) z b = false from by assumption, Bool.and_false]))
              · first | omega | (dsimp only; omega)
            · refine lx_move (vp) rfl rfl <| lx_move (.int .i64 ((z : Nat) : Int)) rfl rfl <| lx_move (.int .i64 ((b : Nat) : Int)) rfl rfl <| lx_call [vp, .int .i64 ((z : Nat) : Int), .int .i64 ((b : Nat) : Int)] rfl rfl Try.call102 rfl (rbelow_spec hh3 vp hs p z b (hr_vp.extS hx0_6) (ht_vp.extS hx0_6) (by omega) (by first | with_reducible assumption | omega) (by omega) (by omega)) (fun _ _ _ => trivial) ?_
              rintro _ h5 ⟨rfl, rfl⟩
              refine lx_pick true (.bool (decide (z ≠ b) && pb p z b)) rfl rfl rfl <| lx_nil <| wi_condS (t := decide (z ≠ b) && pb p z b) rfl (fun c7 => ?_) (fun c7 => ?_)
              · refine wi_draw mo rfl (by decide +kernel) <| ?_
                have hbl : muR (pb p) x b z = true := by
                  unfold muR
                  rw [show pb p x z = true from by assumption, show blw (pb p) z b = true from by assumption]; rfl
                have hzb : z ≠ b := (blw_iff.1 (show blw (pb p) z b = true from by assumption)).1
                have hg1 : gt (gt r4 x) b = rpart (muR (pb p) x b) (gt r2 x) 0 z := by rw [hr4, gt_set (by omega), if_pos rfl, gt_set (by omega), if_pos rfl]
                have hg2 : gt (gt r4 x) z = gt (gt r2 x) z := by rw [hr4, gt_set (by omega), if_pos rfl, gt_set (by omega), if_neg hzb]
                have hbd : ∀ q, q < p.length → -302875106592253 ≤ gt (gt r2 x) q ∧ gt (gt r2 x) q ≤ 302875106592253 := fun q hq => by rw [hr2x]; exact drow_bound (by decide) hq fun w _ => muF_bound hp1 x w
                have hb1 := rpart_bound (r := muR (pb p) x b) (row := gt r2 x) (a := 0) (j := z) (B := 302875106592253) (by decide) (by omega) fun q hq => hbd q (by omega)
                rw [← hg1] at hb1
                have hb2 := hbd z (by omega)
                rw [← hg2] at hb2
                refine lx_move (v2) rfl rfl <| lx_move (.int .i64 ((x : Nat) : Int)) rfl rfl <| lx_ix (i := x) rfl eT49 ho16.rd rfl rfl (by omega) <| lx_ld (i := x) (j := 0) ((gt ht4 x).v) rfl rfl fl25 ho16.rd (by omega) rfl rfl <| lx_move (.int .i64 ((b : Nat) : Int)) rfl rfl <| lx_move (v2) rfl rfl <| lx_move (.int .i64 ((x : Nat) : Int)) rfl rfl <| lx_ix (i := x) rfl eT49 ho16.rd rfl rfl (by omega) <| lx_ld (i := x) (j := 0) ((gt ht4 x).v) rfl rfl fl25 ho16.rd (by omega) rfl rfl <| lx_move (.int .i64 ((b : Nat) : Int)) rfl rfl <| lx_ix (i := b) rfl eT25 (hot7.2.1 x (by omega)).rd rfl rfl (by omega) <| lx_ld (i := b) (j := 0) (.int .i64 (gt (gt r4 x) b)) rfl rfl fl3 (hot7.2.1 x (by omega)).rd (by omega) rfl rfl <| lx_move (v2) rfl rfl <| lx_move (.int .i64 ((x : Nat) : Int)) rfl rfl <| lx_ix (i := x) rfl eT49 ho16.rd rfl rfl (by omega) <| lx_ld (i := x) (j := 0) ((gt ht4 x).v) rfl rfl fl25 ho16.rd (by omega) rfl rfl <| lx_move (.int .i64 ((z : Nat) : Int)) rfl rfl <| lx_ix (i := z) rfl eT25 (hot7.2.1 x (by omega)).rd rfl rfl (by omega) <| lx_ld (i := z) (j := 0) (.int .i64 (gt (gt r4 x) z)) rfl rfl fl3 (hot7.2.1 x (by omega)).rd (by omega) rfl rfl <| lx_sub ((gt (gt r4 x) b) - (gt (gt r4 x) z)) rfl rfl rfl (by omega) (by omega) (by omega) <| lx_ix (i := b) rfl eT25 (hot7.2.1 x (by omega)).rd rfl rfl (by omega) <| lx_st (i := b) ((gt (gt r4 x) b) - (gt (gt r4 x) z)) rfl rfl Try.sizeOf3 (hot7.2.1 x (by omega)) (by omega) rfl rfl (fun _ _ _ _ _ => trivial) fun h6 ho18 hc3 hsz2 => ?_
                have hx0_7 := hx0_6.trans ((hot7.2.1 x (by omega)).ext hc3 hx0_6.size)
                have ho19 := ho17.chg hc3 (Dj.symm (hdt4 x (by rw [hot7.1]; exact (by omega))))
                have ho20 := ho16.chg hc3 (Dj.symm ((djt_ty hot7 ho16 (by decide)) x (by rw [hot7.1]; exact (by omega))))
                have hot8 := OT.cell hot7 (by omega) hc3 ho18
                have hl_hot8 := hot8.1
                refine lx_nil <| wi_inBlock <| wi_reg rfl <| lx_move (.int .i64 ((z : Nat) : Int)) rfl rfl <| lx_add (((z + 1 : Nat) : Int)) rfl rfl rfl (by omega) (by omega) (by omega) <| lx_assign (.int .i64 ((z + 1 : Nat) : Int)) rfl rfl <| lx_nil <| ?_
                -- L4.2
                refine IH3 _ _ (z + 1, ht4, r4.set x ((gt r4 x).set b ((gt (gt r4 x) b) - (gt (gt r4 x) z)))) (agree_ups rfl agree_self) ⟨rfl, trivial⟩ ⟨?_, ?_, ?_, hdt4, hx0_7, ?_, ?_⟩ ?_
                · first | exact ho20 | (simpa using ho20)
                · first | exact hot8 | (simpa using hot8)
                · first | exact ho19 | (simpa using ho19)
                · try dsimp only
                  omega
                · try dsimp only
                  first
                  | (rw [hg1, hg2, ← rpart_yes hbl, hr4, gt_set (by omega), if_pos rfl, List.set_set, List.set_set]; done)
                  | (rw [hr4, rpart_no]; unfold muR; first | (rw [show pb p x z = false from by assumption]; rfl) | (rw [show blw (pb p) z b = false from by assumption, Bool.and_false]))
                · first | omega | (dsimp only; omega)
              · refine wi_skip <| wi_inBlock <| wi_reg rfl <| lx_move (.int .i64 ((z : Nat) : Int)) rfl rfl <| lx_add (((z + 1 : Nat) : Int)) rfl rfl rfl (by omega) (by omega) (by omega) <| lx_assign (.int .i64 ((z + 1 : Nat) : Int)) rfl rfl <| lx_nil <| ?_
                -- L4.3
                refine IH3 _ _ (z + 1, ht4, r4) (agree_ups rfl agree_self) ⟨rfl, trivial⟩ ⟨?_, ?_, ?_, hdt4, hx0_6, ?_, ?_⟩ ?_
                · first | exact ho16 | (simpa using ho16)
                · first | exact hot7 | (simpa using hot7)
                · first | exact ho17 | (simpa using ho17)
                · try dsimp only
                  omega
                · try dsimp only
                  first
                  | (rw [hg1, hg2, ← rpart_yes hbl, hr4, gt_set (by omega), if_pos rfl, List.set_set, List.set_set]; done)
                  | (rw [hr4, rpart_no]; unfold muR; first | (rw [show pb p x z = false from by assumption]; rfl) | (rw [show blw (pb p) z b = false from by assumption, Bool.and_false]))
                · first | omega | (dsimp only; omega)
          · refine lx_nil <| wi_false rfl <| wi_exit rfl <| wi_inBlock <| wi_reg rfl <| lx_move (.int .i64 ((i : Nat) : Int)) rfl rfl <| lx_add (((i + 1 : Nat) : Int)) rfl rfl rfl (by omega) (by omega) (by omega) <| lx_assign (.int .i64 ((i + 1 : Nat) : Int)) rfl rfl <| lx_nil <| ?_
            -- L2.2
            refine IH2 _ _ (i + 1, ht4, r4) (agree_ups rfl (agree_mix (rngB_sub (by decide) (by decide) rfl) (agree_ups rfl agree_self))) ⟨rfl, trivial⟩ ⟨?_, ?_, ?_, hdt4, hx0_6, ?_, ?_, ?_, ?_⟩ ?_
            · first | exact ho16 | (simpa using ho16)
            · first | exact hot7 | (simpa using hot7)
            · first | exact ho17 | (simpa using ho17)
            · try dsimp only
              omega
            · try dsimp only
              rw [hr4, List.length_set]; exact hr2l
            · try dsimp only
              rw [hr4, gt_set (by omega), if_pos rfl, show z = p.length from by omega, hr2x, rpart_mu hp3 hli (by omega) (by omega) hgb hbn hne hf]; exact drow_set hgb hbn
            · try dsimp only
              intro q hq; rw [hr4, gt_set (by omega), if_neg (by omega)]; exact hr2o q hq
            · first | omega | (dsimp only; omega)
        · refine wi_skip <| wi_inBlock <| wi_reg rfl <| lx_move (.int .i64 ((i : Nat) : Int)) rfl rfl <| lx_add (((i + 1 : Nat) : Int)) rfl rfl rfl (by omega) (by omega) (by omega) <| lx_assign (.int .i64 ((i + 1 : Nat) : Int)) rfl rfl <| lx_nil <| ?_
          -- L2.3
          refine IH2 _ _ (i + 1, ht2, r2) (agree_ups rfl agree_self) ⟨rfl, trivial⟩ ⟨?_, ?_, ?_, hdt3, hx0_4, ?_, ?_, ?_, ?_⟩ ?_
          · first | exact ho11 | (simpa using ho11)
          · first | exact hot5 | (simpa using hot5)
          · first | exact ho12 | (simpa using ho12)
          · try dsimp only
            omega
          · try dsimp only
            exact hr2l
          · try dsimp only
            rw [hr2x]; exact drow_skip hgb (muF_out (by omega) (by assumption))
          · try dsimp only
            exact hr2o
          · first | omega | (dsimp only; omega)
    · refine lx_nil <| wi_false rfl <| wi_exit rfl <| wi_inBlock <| wi_reg rfl <| lx_move (.int .i64 ((x : Nat) : Int)) rfl rfl <| lx_add (((x + 1 : Nat) : Int)) rfl rfl rfl (by omega) (by omega) (by omega) <| lx_assign (.int .i64 ((x + 1 : Nat) : Int)) rfl rfl <| lx_nil <| ?_
      -- L0.1
      refine IH1 _ _ (x + 1, v2, ht2, r2) (agree_ups rfl (agree_mix (rngB_sub (by decide) (by decide) rfl) (agree_ups rfl agree_self))) ⟨rfl, rfl, trivial⟩ ⟨?_, ?_, ?_, hdt3, hx0_4, ?_, ?_, ?_⟩ ?_
      · first | exact ho11 | (simpa using ho11)
      · first | exact hot5 | (simpa using hot5)
      · first | exact ho12 | (simpa using ho12)
      · try dsimp only
        omega
      · try dsimp only
        exact hr2l
      · try dsimp only
        intro q hq
        by_cases e : q = x
        · rw [e, hr2x, show i = p.length from by omega]; exact drow_end hli
        · exact hr2o q (by omega)
      · first | omega | (dsimp only; omega)
  · refine lx_nil <| wi_false rfl <| wi_exit rfl <| wi_seq <| wi_reg rfl <| lx_move (v) rfl rfl <| lx_assign (v) rfl rfl <| lx_nil <| ?_
    -- R1
    refine wi_ret ⟨v, (res_one rfl rfl), ⟨v, hv, rfl, ?_, ?_, hx0_1⟩⟩
    · exact ho3
    · rw [← muT_ext (by omega) (fun i hi => hro i (by omega))]; exact hot1

set_option maxRecDepth 10000 in
theorem rdiff_spec (h : Heap) (vp : Value) (hs : List Hdr) (p : List (List Bool)) (vf : Value) (xs : List Int) (hr_vp : RdE encHd h vp hs) (ht_vp : RT encB h hs p) (hr_vf : RdE encI h vf xs) (hp1 : p.length ≤ 12) (hp2 : Sq p p.length) (hp3 : IsO p.length (pb p)) (hp4 : p.length ≤ 9) (hp5 : xs.length = p.length) (hp6 : ∀ i, i < xs.length → -1000000000 ≤ gt xs i ∧ gt xs i ≤ 1000000000) : Fx Try.prog 59 [vp, vf] h (fun v h' => ∃ (s : Value), v = s ∧ OwE encI h' h.size 2 s (dfT p.length (pb p) xs) ∧ Ext h.size h h') := by
  have hl_vp := ht_vp.1
  refine fx_intro (n := 55) [(0, vp), (1, vf)] Try.func59 rfl rfl (by simp) ⟨rfl, rfl, trivial⟩ fun g0 => ?_
  refine wi_seq <| wi_reg rfl <| lx_assign (.slice none 0 0) rfl rfl <| lx_nil <| wi_seq <| wi_reg rfl <| lx_move (vp) rfl rfl <| lx_len rfl Try.underlying23 hr_vp rfl <| lx_make (E := encI) (n := hs.length) (B := h.size) (0 : Int) rfl rfl Try.underlying58 (eZ58) rfl rfl (by omega) (by omega) (Nat.le_refl _) (fun _ _ => trivial) fun v1 h1 ho1 hx1 hvb1 => ?_
  have ho2 := ho1.base (Nat.le_refl h.size)
  refine lx_assign (v1) rfl rfl <| lx_nil <| wi_seq <| wi_reg rfl <| lx_move (vp) rfl rfl <| lx_call [vp] rfl rfl Try.call111 rfl (rlisted_spec h1 vp hs p (hr_vp.extS hx1) (ht_vp.extS hx1) (by omega) (by first | with_reducible assumption | omega) (by first | with_reducible assumption | omega)) (fun _ _ _ => trivial) ?_
  rintro vq h2 ⟨_, ls, rfl, ho3, hli, hx2⟩
  have hx0_1 := hx1.trans2 hx2 hx1.size
  have ho4 := ho2.extS hx2
  have ho5 := ho3.base hx1.size
  refine lx_assign (vq) rfl rfl <| lx_nil <| wi_seq <| wi_seq <| wi_reg rfl <| ?_
  have hll := hli.len
  have hdb : ∀ q, q < p.length → -1000000000000000000 ≤ dfP p.length (pb p) (gt xs) q p.length ∧ dfP p.length (pb p) (gt xs) q p.length ≤ 1000000000000000000 := fun q hq => dfP_nine hp3 hp4 (fun w hw => hp6 w (by omega)) hq
  refine lx_assign (.int .i64 0) rfl rfl <| lx_nil <| wi_block <| ?_
  refine wi_loop (σ := Nat × (List Int)) (rngB 15 54 [7, 8, 9]) (fun (ss : Nat × (List Int)) => [(7, .int .i64 ((ss.1 : Nat) : Int))]) (fun (ss : Nat × (List Int)) (hh : Heap) => OwE encI hh h.size 2 v1 ss.2 ∧ OwE encI hh h.size 3 vq ls ∧ Ext h.size h hh ∧ (ss.1 ≤ ls.length) ∧ (ss.2 = drow p.length (fun y9 => dfP p.length (pb p) (gt xs) y9 p.length) ls ss.1)) (fun (ss : Nat × (List Int)) => ls.length - ss.1) (0, List.replicate hs.length 0) ⟨rfl, trivial⟩ ⟨?_, ?_, hx0_1, ?_, ?_⟩ ?_
  · first | exact ho4 | (simpa using ho4)
  · first | exact ho5 | (simpa using ho5)
  · try dsimp only
    omega
  · try dsimp only
    rw [hl_vp]; exact drow_zero _ _ _
  rintro g1 ⟨i, es⟩ hh1 ⟨ho6, ho7, hx0_2, hi, hes⟩ IH1
  dsimp only at *
  refine wi_seq <| wi_seq <| wi_reg rfl <| lx_move (.int .i64 ((i : Nat) : Int)) rfl rfl <| lx_move (vq) rfl rfl <| lx_len rfl Try.underlying25 ho7.rd rfl <| lx_lssS rfl rfl rfl (fun c1 => ?_) (fun c1 => ?_)
  · refine lx_nil <| wi_true rfl <| wi_skip <| wi_seq <| wi_block <| wi_seq <| wi_reg rfl <| ?_
    obtain ⟨b, hgb, hbn⟩ := hli.rng i (by omega)
    have hel : es.length = p.length := by rw [hes]; exact drow_len _ _ _ _
    refine lx_move (vq) rfl rfl <| lx_move (.int .i64 ((i : Nat) : Int)) rfl rfl <| lx_ix (i := i) rfl eT25 ho7.rd rfl rfl (by omega) <| lx_ld (i := i) (j := 0) (.int .i64 ((b : Nat) : Int)) rfl rfl fl3 ho7.rd (by omega) (by show some (Value.int .i64 (gt ls i)) = _; rw [hgb]) rfl <| lx_assign (.int .i64 ((b : Nat) : Int)) rfl rfl <| lx_nil <| wi_seq <| wi_reg rfl <| lx_move (v1) rfl rfl <| lx_move (.int .i64 ((b : Nat) : Int)) rfl rfl <| lx_move (vf) rfl rfl <| lx_move (.int .i64 ((b : Nat) : Int)) rfl rfl <| lx_ix (i := b) rfl eT58 hr_vf rfl rfl (by omega) <| lx_ld (i := b) (j := 0) (.int .i64 (gt xs b)) rfl rfl fl2 (hr_vf.extS hx0_2) (by omega) rfl rfl <| lx_ix (i := b) rfl eT58 ho6.rd rfl rfl (by omega) <| lx_st (i := b) (gt xs b) rfl rfl Try.sizeOf2 ho6 (by omega) rfl rfl (fun _ _ _ _ _ => trivial) fun h3 ho8 hc1 hsz1 => ?_
    have hx0_3 := hx0_2.trans (ho6.ext hc1 hx0_2.size)
    have ho9 := ho7.chg hc1 (Dj.symm (dj_new ho2 ho3))
    refine lx_nil <| wi_seq <| wi_reg rfl <| lx_assign (.int .i64 0) rfl rfl <| lx_nil <| wi_block <| ?_
    refine wi_loop (σ := Nat × (List Int)) (rngB 32 54 [9]) (fun (ss : Nat × (List Int)) => [(9, .int .i64 ((ss.1 : Nat) : Int))]) (fun (ss : Nat × (List Int)) (hh : Heap) => OwE encI hh h.size 2 v1 ss.2 ∧ OwE encI hh h.size 3 vq ls ∧ Ext h.size h hh ∧ (ss.1 ≤ p.length) ∧ (ss.2 = es.set b (rpart (fun x9 => blw (pb p) x9 b) es (gt xs b) ss.1))) (fun (ss : Nat × (List Int)) => p.length - ss.1) (0, es.set b (gt xs b)) ⟨rfl, trivial⟩ ⟨?_, ?_, hx0_3, ?_, ?_⟩ ?_
    · first | exact ho8 | (simpa using ho8)
    · first | exact ho9 | (simpa using ho9)
    · try dsimp only
      omega
    · try dsimp only
      rw [rpart_zero]
    rintro g2 ⟨x, es2⟩ hh2 ⟨ho10, ho11, hx0_4, hx, hes2⟩ IH2
    dsimp only at *
    have hel2 : es2.length = p.length := by rw [hes2, List.length_set]; exact hel
    refine wi_seq <| wi_seq <| wi_reg rfl <| lx_move (.int .i64 ((x : Nat) : Int)) rfl rfl <| lx_move (vp) rfl rfl <| lx_len rfl Try.underlying23 hr_vp rfl <| lx_lssS rfl rfl rfl (fun c2 => ?_) (fun c2 => ?_)
    · refine lx_nil <| wi_true rfl <| wi_skip <| wi_seq <| wi_block <| wi_seq <| wi_reg rfl <| lx_move (vp) rfl rfl <| lx_move (.int .i64 ((x : Nat) : Int)) rfl rfl <| lx_move (.int .i64 ((b : Nat) : Int)) rfl rfl <| lx_call [vp, .int .i64 ((x : Nat) : Int), .int .i64 ((b : Nat) : Int)] rfl rfl Try.call102 rfl (rbelow_spec hh2 vp hs p x b (hr_vp.extS hx0_4) (ht_vp.extS hx0_4) (by omega) (by first | with_reducible assumption | omega) (by omega) (by omega)) (fun _ _ _ => trivial) ?_
      rintro _ h4 ⟨rfl, rfl⟩
      refine lx_nil <| wi_condS (t := decide (x ≠ b) && pb p x b) rfl (fun c3 => ?_) (fun c3 => ?_)
      · refine wi_draw mo rfl (by decide +kernel) <| ?_
        have hbl : blw (pb p) x b = true := by assumption
        have hxb : x ≠ b := (blw_iff.1 hbl).1
        have hg1 : gt es2 b = rpart (fun x9 => blw (pb p) x9 b) es (gt xs b) x := by rw [hes2, gt_set (by omega), if_pos rfl]
        have hg2 : gt es2 x = gt es x := by rw [hes2, gt_set (by omega), if_neg hxb]
        have hbd : ∀ q, q < p.length → -1000000000000000000 ≤ gt es q ∧ gt es q ≤ 1000000000000000000 := fun q hq => by rw [hes]; exact drow_bound (by decide) hq hdb
        have hb1 := rpart_bound9 (r := fun x9 => blw (pb p) x9 b) (row := es) (a := gt xs b) (j := x) (B := 1000000000000000000) (by decide) (by omega) fun q hq => hbd q (by omega)
        have hb3 := rpart_bound9 (r := fun x9 => blw (pb p) x9 b) (row := es) (a := gt xs b) (j := x + 1) (B := 1000000000000000000) (by decide) (by omega) fun q hq => hbd q (by omega)
        have hry := rpart_yes (r := fun x9 => blw (pb p) x9 b) (row := es) (a := gt xs b) (j := x) hbl
        rw [hry, ← hg1, ← hg2] at hb3
        rw [← hg1] at hb1
        have hb2 := hbd x (by omega)
        have hb4 := hp6 b (by omega)
        refine lx_move (v1) rfl rfl <| lx_move (.int .i64 ((b : Nat) : Int)) rfl rfl <| lx_move (v1) rfl rfl <| lx_move (.int .i64 ((b : Nat) : Int)) rfl rfl <| lx_ix (i := b) rfl eT58 ho10.rd rfl rfl (by omega) <| lx_ld (i := b) (j := 0) (.int .i64 (gt es2 b)) rfl rfl fl2 ho10.rd (by omega) rfl rfl <| lx_move (v1) rfl rfl <| lx_move (.int .i64 ((x : Nat) : Int)) rfl rfl <| lx_ix (i := x) rfl eT58 ho10.rd rfl rfl (by omega) <| lx_ld (i := x) (j := 0) (.int .i64 (gt es2 x)) rfl rfl fl2 ho10.rd (by omega) rfl rfl <| lx_sub ((gt es2 b) - (gt es2 x)) rfl rfl rfl (by omega) (by omega) (by omega) <| lx_ix (i := b) rfl eT58 ho10.rd rfl rfl (by omega) <| lx_st (i := b) ((gt es2 b) - (gt es2 x)) rfl rfl Try.sizeOf2 ho10 (by omega) rfl rfl (fun _ _ _ _ _ => trivial) fun h5 ho12 hc2 hsz2 => ?_
        have hx0_5 := hx0_4.trans (ho10.ext hc2 hx0_4.size)
        have ho13 := ho11.chg hc2 (Dj.symm (dj_new ho2 ho3))
        refine lx_nil <| wi_inBlock <| wi_reg rfl <| lx_move (.int .i64 ((x : Nat) : Int)) rfl rfl <| lx_add (((x + 1 : Nat) : Int)) rfl rfl rfl (by omega) (by omega) (by omega) <| lx_assign (.int .i64 ((x + 1 : Nat) : Int)) rfl rfl <| lx_nil <| ?_
        -- L2.1
        refine IH2 _ _ (x + 1, es2.set b ((gt es2 b) - (gt es2 x))) (agree_ups rfl agree_self) ⟨rfl, trivial⟩ ⟨?_, ?_, hx0_5, ?_, ?_⟩ ?_
        · first | exact ho12 | (simpa using ho12)
        · first | exact ho13 | (simpa using ho13)
        · try dsimp only
          omega
        · try dsimp only
          rw [hg1, hg2, ← hry, hes2, List.set_set]
        · first | omega | (dsimp only; omega)
      · refine wi_skip <| wi_inBlock <| wi_reg rfl <| lx_move (.int .i64 ((x : Nat) : Int)) rfl rfl <| lx_add (((x + 1 : Nat) : Int)) rfl rfl rfl (by omega) (by omega) (by omega) <| lx_assign (.int .i64 ((x + 1 : Nat) : Int)) rfl rfl <| lx_nil <| ?_
        -- L2.2
        refine IH2 _ _ (x + 1, es2) (agree_ups rfl agree_self) ⟨rfl, trivial⟩ ⟨?_, ?_, hx0_4, ?_, ?_⟩ ?_
        · first | exact ho10 | (simpa using ho10)
        · first | exact ho11 | (simpa using ho11)
        · try dsimp only
          omega
        · try dsimp only
          rw [hes2, rpart_no (by assumption)]
        · first | omega | (dsimp only; omega)
    · refine lx_nil <| wi_false rfl <| wi_exit rfl <| wi_inBlock <| wi_reg rfl <| lx_move (.int .i64 ((i : Nat) : Int)) rfl rfl <| lx_add (((i + 1 : Nat) : Int)) rfl rfl rfl (by omega) (by omega) (by omega) <| lx_assign (.int .i64 ((i + 1 : Nat) : Int)) rfl rfl <| lx_nil <| ?_
      -- L0.1
      refine IH1 _ _ (i + 1, es2) (agree_ups rfl (agree_mix (rngB_sub (by decide) (by decide) rfl) (agree_ups rfl agree_self))) ⟨rfl, trivial⟩ ⟨?_, ?_, hx0_4, ?_, ?_⟩ ?_
      · first | exact ho10 | (simpa using ho10)
      · first | exact ho11 | (simpa using ho11)
      · try dsimp only
        omega
      · try dsimp only
        rw [hes2, show x = p.length from by omega, hes, rpart_df hp3 hli (by omega) hgb hbn]; exact drow_set (F := (fun y9 => dfP p.length (pb p) (gt xs) y9 p.length)) hgb hbn
      · first | omega | (dsimp only; omega)
  · refine lx_nil <| wi_false rfl <| wi_exit rfl <| wi_seq <| wi_reg rfl <| lx_move (v1) rfl rfl <| lx_assign (v1) rfl rfl <| lx_nil <| ?_
    -- R1
    refine wi_ret ⟨v1, (res_one rfl rfl), ⟨v1, rfl, ?_, hx0_2⟩⟩
    · rw [show dfT p.length (pb p) xs = es from by rw [hes, show i = p.length from by omega]; exact (drow_end hli).symm]; exact ho6

end Go.Proofs.Ytdokijbdnajhgaa
