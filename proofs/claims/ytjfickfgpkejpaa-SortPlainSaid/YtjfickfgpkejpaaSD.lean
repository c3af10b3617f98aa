/-
  Walks: awake, and what the sums of two numbers are.
-/
import Derived.Test.YtjfickfgpkejpaaSC
import Derived.Test.YtjfickfgpkejpaaXGaps
set_option linter.unusedSimpArgs false
set_option linter.unusedVariables false
namespace Go.Proofs.Ytjfickfgpkejpaa
open Go Go.X

theorem awake_fails {p : Nat} {b : Bool} (h : (chkNet validC 3 [((0 : Int), (1 : Int)), (1, 2)] ≠ 0 ∧ p = 0 ∧ b = false) ∨ (chkNet validC 3 [((0 : Int), (1 : Int)), (1, 2)] = 0 ∧ failsR (3 : Int).toNat (colF [((0 : Int), (1 : Int)), (1, 2)] (3 : Int).toNat) p b)) : p = 3 ∧ b = true := by
  have e0 : chkNet validC 3 [((0 : Int), (1 : Int)), (1, 2)] = 0 := by decide
  have e3 : badC 3 (colF [((0 : Int), (1 : Int)), (1, 2)] 3 3) = true := by decide
  have e2 : badC 3 (colF [((0 : Int), (1 : Int)), (1, 2)] 3 0) = false := by decide
  have e4 : badC 3 (colF [((0 : Int), (1 : Int)), (1, 2)] 3 1) = false := by decide
  have e5 : badC 3 (colF [((0 : Int), (1 : Int)), (1, 2)] 3 2) = false := by decide
  rcases h with ⟨h, _⟩ | ⟨_, h⟩
  · exact absurd e0 h
  · rw [show (3 : Int).toNat = 3 from rfl] at h
    rcases h with ⟨h1, h2, h3, h4⟩ | ⟨h1, h2, h3⟩
    · refine ⟨?_, h1⟩
      by_cases c : 3 < p
      · rw [h4 3 c] at e3; cases e3
      · have : p = 0 ∨ p = 1 ∨ p = 2 ∨ p = 3 := by omega
        rcases this with rfl | rfl | rfl | rfl
        · rw [e2] at h3; cases h3
        · rw [e4] at h3; cases h3
        · rw [e5] at h3; cases h3
        · rfl
    · rw [h3 3 (by decide)] at e3; cases e3
theorem awake_sort {ys : List Int} {n : Nat} (h : (chkRow [4, 3, 2, 1] [2] ≠ 0 ∧ ys = [] ∧ n = 0) ∨ (chkRow [4, 3, 2, 1] [2] = 0 ∧ GS (2 : Int).toNat n [4, 3, 2, 1] ys ∧ SortedBy (2 : Int).toNat ys)) : ys = [2, 1, 4, 3] ∧ n = 2 := by
  rcases h with ⟨h, _⟩ | ⟨_, h1, h2⟩
  · exact absurd (by decide) h
  · rw [show (2 : Int).toNat = 2 from rfl] at h1 h2
    have g : GS 2 2 [4, 3, 2, 1] [2, 1, 4, 3] := ⟨0, by decide, by decide, 1, by decide, by decide, by rfl⟩
    have s : SortedBy 2 [2, 1, 4, 3] := by
      intro i hi
      have : i = 0 ∨ i = 1 := by simp at hi; omega
      rcases this with rfl | rfl <;> decide
    refine ⟨GS_uniq h1 g h2 s, ?_⟩
    have := GS_count (by omega) h1 h2
    rw [GS_count (by omega) g s] at this
    omega
theorem awake_merge : (if ((4 : Int)) < 1 ∨ 10 < ((4 : Int)) then [] else mergeF (4 : Int).toNat) = [((0 : Int), (2 : Int)), (1, 3), (0, 1), (2, 3), (1, 2)] := by decide
theorem awake_reach : reachOk 3 5 = true := by decide

set_option maxRecDepth 10000 in
theorem awake_spec (h : Heap) : Fx Try.prog 15 [] h (fun v h' => v = .bool true ∧ Ext h.size h h') := by
  refine fx_intro (n := 86) [] Try.func15 rfl rfl (by simp) trivial fun g0 => ?_
  refine wi_seq <| wi_reg rfl <| lx_assign (.bool false) rfl rfl <| lx_nil <| wi_seq <| wi_reg rfl <| lx_build (.agg #[.int .i64 0, .int .i64 1]) [(0, .int .i64 0), (1, .int .i64 1)] rfl rfl (fun w => bld60_2 _ _ w) <| lx_build (.agg #[.int .i64 1, .int .i64 2]) [(0, .int .i64 1), (1, .int .i64 2)] rfl rfl (fun w => bld60_2 _ _ w) <| lx_buildSlice (E := encP) h.size [((0 : Int), (1 : Int)), ((1 : Int), (2 : Int))] [.agg #[.int .i64 0, .int .i64 1], .agg #[.int .i64 1, .int .i64 2]] rfl rfl eT38 rfl rfl rfl rfl (Nat.le_refl _) (fun _ _ _ => trivial) fun v1 h1 ho1 hx1 hvb1 hsz1 => ?_
  have ho2 := ho1.base (Nat.le_refl h.size)
  refine lx_call [.int .i64 3, v1] rfl rfl Try.call35 rfl (fails_spec h1 ((3 : Int)) v1 ([((0 : Int), (1 : Int)), ((1 : Int), (2 : Int))]) ho2.rd (by decide)) (fun _ _ _ => trivial) ?_
  rintro _ h2 ⟨p_1, b_1, rfl, hf_1, hx2⟩
  have hx0_1 := hx1.trans2 hx2 hx1.size
  have ho3 := ho2.extS hx2
  refine lx_move (.tuple #[.int .i64 ((p_1 : Nat) : Int), .bool b_1, .int .i64 (chkNet validC ((3 : Int)) ([((0 : Int), (1 : Int)), ((1 : Int), (2 : Int))]))]) rfl rfl <| lx_extract (.int .i64 ((p_1 : Nat) : Int)) rfl rfl rfl <| lx_extract (.bool b_1) rfl rfl rfl <| lx_extract (.int .i64 (chkNet validC ((3 : Int)) ([((0 : Int), (1 : Int)), ((1 : Int), (2 : Int))]))) rfl rfl rfl <| lx_assign (.int .i64 ((p_1 : Nat) : Int)) rfl rfl <| lx_assign (.bool b_1) rfl rfl <| lx_assign (.int .i64 (chkNet validC ((3 : Int)) ([((0 : Int), (1 : Int)), ((1 : Int), (2 : Int))]))) rfl rfl <| lx_nil <| wi_seq <| wi_reg rfl <| lx_call [.int .i64 4] rfl rfl Try.call20 rfl (merge_spec h2 ((4 : Int)) ) (fun _ _ _ => trivial) ?_
  rintro _ h3 ⟨v2, ms_1, rfl, ho4, hm_1, hx3⟩
  have hx0_2 := hx0_1.trans2 hx3 hx0_1.size
  have ho5 := ho3.extS hx3
  have ho6 := ho4.base hx0_1.size
  refine lx_move (.tuple #[v2, .int .i64 (if ((4 : Int)) < 1 ∨ 10 < ((4 : Int)) then 1 else 0)]) rfl rfl <| lx_extract (v2) rfl rfl rfl <| lx_extract (.int .i64 (if ((4 : Int)) < 1 ∨ 10 < ((4 : Int)) then 1 else 0)) rfl rfl rfl <| lx_assign (v2) rfl rfl <| lx_assign (.int .i64 (if ((4 : Int)) < 1 ∨ 10 < ((4 : Int)) then 1 else 0)) rfl rfl <| lx_nil <| wi_seq <| wi_reg rfl <| lx_call [.int .i64 3, .int .i64 5] rfl rfl Try.call12 rfl (reach_spec h3 ((3 : Int)) ((5 : Int)) ) (fun _ _ _ => trivial) ?_
  rintro _ h4 ⟨rfl, rfl⟩
  refine lx_move (.tuple #[.int .i64 (if reachOk ((3 : Int)) ((5 : Int)) then ((3 : Int)) * ((5 : Int)) - ((3 : Int)) - ((5 : Int)) else 0), .int .i64 (if reachOk ((3 : Int)) ((5 : Int)) then 0 else 1)]) rfl rfl <| lx_extract (.int .i64 (if reachOk ((3 : Int)) ((5 : Int)) then ((3 : Int)) * ((5 : Int)) - ((3 : Int)) - ((5 : Int)) else 0)) rfl rfl rfl <| lx_extract (.int .i64 (if reachOk ((3 : Int)) ((5 : Int)) then 0 else 1)) rfl rfl rfl <| lx_assign (.int .i64 (if reachOk ((3 : Int)) ((5 : Int)) then ((3 : Int)) * ((5 : Int)) - ((3 : Int)) - ((5 : Int)) else 0)) rfl rfl <| lx_assign (.int .i64 (if reachOk ((3 : Int)) ((5 : Int)) then 0 else 1)) rfl rfl <| lx_nil <| wi_seq <| wi_reg rfl <| lx_buildSlice (E := encI) h3.size [(4 : Int), (3 : Int), (2 : Int), (1 : Int)] [.int .i64 4, .int .i64 3, .int .i64 2, .int .i64 1] rfl rfl eT29 rfl rfl rfl rfl (Nat.le_refl _) (fun _ _ _ => trivial) fun v3 h5 ho7 hx4 hvb2 hsz2 => ?_
  have hx0_3 := hx0_2.trans2 hx4 hx0_2.size
  have ho8 := ho5.extS hx4
  have ho9 := ho6.extS hx4
  have ho10 := ho7.base hx0_2.size
  refine lx_call [v3, .int .i64 2] rfl rfl Try.call16 rfl (sortBy_spec h5 v3 ([(4 : Int), (3 : Int), (2 : Int), (1 : Int)]) ((2 : Int)) ho10.rd (by decide) (by decide)) (fun _ _ _ => trivial) ?_
  rintro _ h6 ⟨v4, ys_1, n_1, rfl, ho11, hsh_1, hnb_1, hx5⟩
  have hx0_4 := hx0_3.trans2 hx5 hx0_3.size
  have ho12 := ho8.extS hx5
  have ho13 := ho9.extS hx5
  have ho14 := ho10.extS hx5
  have ho15 := ho11.base hx0_3.size
  refine lx_move (.tuple #[v4, .int .i64 ((n_1 : Nat) : Int), .int .i64 (chkRow ([(4 : Int), (3 : Int), (2 : Int), (1 : Int)]) [((2 : Int))])]) rfl rfl <| lx_extract (v4) rfl rfl rfl <| lx_extract (.int .i64 ((n_1 : Nat) : Int)) rfl rfl rfl <| lx_extract (.int .i64 (chkRow ([(4 : Int), (3 : Int), (2 : Int), (1 : Int)]) [((2 : Int))])) rfl rfl rfl <| lx_assign (v4) rfl rfl <| lx_assign (.int .i64 ((n_1 : Nat) : Int)) rfl rfl <| lx_assign (.int .i64 (chkRow ([(4 : Int), (3 : Int), (2 : Int), (1 : Int)]) [((2 : Int))])) rfl rfl <| lx_nil <| wi_seq <| wi_reg rfl <| ?_
  obtain ⟨rfl, rfl⟩ := awake_fails hf_1
  have hm9 := hm_1.trans awake_merge
  subst hm9
  obtain ⟨rfl, rfl⟩ := awake_sort hsh_1
  refine lx_move (.int .i64 (chkNet validC ((3 : Int)) ([((0 : Int), (1 : Int)), ((1 : Int), (2 : Int))]))) rfl rfl <| lx_eqlT rfl rfl rfl (by decide) <| lx_move (.bool true) rfl rfl <| lx_move (.int .i64 (if ((4 : Int)) < 1 ∨ 10 < ((4 : Int)) then 1 else 0)) rfl rfl <| lx_eqlT rfl rfl rfl (by decide) <| lx_pick true (.bool true) rfl rfl rfl <| lx_move (.bool true) rfl rfl <| lx_move (.int .i64 (if reachOk ((3 : Int)) ((5 : Int)) then 0 else 1)) rfl rfl <| lx_eqlT rfl rfl rfl (by decide) <| lx_pick true (.bool true) rfl rfl rfl <| lx_move (.bool true) rfl rfl <| lx_move (.int .i64 (chkRow ([(4 : Int), (3 : Int), (2 : Int), (1 : Int)]) [((2 : Int))])) rfl rfl <| lx_eqlT rfl rfl rfl (by decide) <| lx_pick true (.bool true) rfl rfl rfl <| lx_move (.bool true) rfl rfl <| lx_move (.bool true) rfl rfl <| lx_pick true (.bool true) rfl rfl rfl <| lx_move (.bool true) rfl rfl <| lx_move (.int .i64 3) rfl rfl <| lx_eqlT rfl rfl rfl (by decide) <| lx_pick true (.bool true) rfl rfl rfl <| lx_move (.bool true) rfl rfl <| lx_move (v2) rfl rfl <| lx_len rfl Try.underlying38 ho13.rd rfl <| lx_eqlT rfl rfl rfl (by decide) <| lx_pick true (.bool true) rfl rfl rfl <| lx_move (.bool true) rfl rfl <| lx_move (v2) rfl rfl <| lx_ix (i := 4) rfl eT38 ho13.rd rfl rfl (by first | omega | (simp only [List.length_set, List.length_append, List.length_cons, List.length_nil, List.length_replicate, List.length_take, swp_length, exch_length]; omega)) <| lx_ldA (i := 4) [.int .i64 ((gt ([((0 : Int), (2 : Int)), (1, 3), (0, 1), (2, 3), (1, 2)]) 4).1), .int .i64 ((gt ([((0 : Int), (2 : Int)), (1, 3), (0, 1), (2, 3), (1, 2)]) 4).2)] rfl rfl wd60 ho13.rd (by first | omega | (simp only [List.length_set, List.length_append, List.length_cons, List.length_nil, List.length_replicate, List.length_take, swp_length, exch_length]; omega)) rfl rfl <| lx_build (.agg #[.int .i64 1, .int .i64 2]) [(0, .int .i64 1), (1, .int .i64 2)] rfl rfl (fun w => bld60_2 _ _ w) <| lx_eqlA2T rfl ar60 rfl rfl (by decide) <| lx_pick true (.bool true) rfl rfl rfl <| lx_move (.bool true) rfl rfl <| lx_move (.int .i64 (if reachOk ((3 : Int)) ((5 : Int)) then ((3 : Int)) * ((5 : Int)) - ((3 : Int)) - ((5 : Int)) else 0)) rfl rfl <| lx_eqlT rfl rfl rfl (by decide) <| lx_pick true (.bool true) rfl rfl rfl <| lx_move (.bool true) rfl rfl <| lx_move (.int .i64 2) rfl rfl <| lx_eqlT rfl rfl rfl (by decide) <| lx_pick true (.bool true) rfl rfl rfl <| lx_move (.bool true) rfl rfl <| lx_move (v4) rfl rfl <| lx_ix (i := 0) rfl eT29 ho15.rd rfl rfl (by first | omega | (simp only [List.length_set, List.length_append, List.length_cons, List.length_nil, List.length_replicate, List.length_take, swp_length, exch_length]; omega)) <| lx_ld (i := 0) (j := 0) (.int .i64 (gt ([2, 1, 4, 3]) 0)) rfl rfl fl2 ho15.rd (by first | omega | (simp only [List.length_set, List.length_append, List.length_cons, List.length_nil, List.length_replicate, List.length_take, swp_length, exch_length]; omega)) rfl rfl <| lx_eqlT rfl rfl rfl (by decide) <| lx_pick true (.bool true) rfl rfl rfl <| lx_move (.bool true) rfl rfl <| lx_move (v4) rfl rfl <| lx_ix (i := 3) rfl eT29 ho15.rd rfl rfl (by first | omega | (simp only [List.length_set, List.length_append, List.length_cons, List.length_nil, List.length_replicate, List.length_take, swp_length, exch_length]; omega)) <| lx_ld (i := 3) (j := 0) (.int .i64 (gt ([2, 1, 4, 3]) 3)) rfl rfl fl2 ho15.rd (by first | omega | (simp only [List.length_set, List.length_append, List.length_cons, List.length_nil, List.length_replicate, List.length_take, swp_length, exch_length]; omega)) rfl rfl <| lx_eqlT rfl rfl rfl (by decide) <| lx_pick true (.bool true) rfl rfl rfl <| lx_assign (.bool true) rfl rfl <| lx_nil <| ?_
  -- R1
  refine wi_ret ⟨.bool true, (res_one rfl rfl), ⟨rfl, hx0_4⟩⟩

theorem lastNo_zero (a b : Nat) : lastNo a b 0 (-1) := .inl ⟨rfl, fun q hq => by omega⟩
theorem lastNo_yes {a b n : Nat} {o : Int} (h : lastNo a b n o) (hr : Rep a b n) : lastNo a b (n + 1) o := by
  rcases h with ⟨h, h1⟩ | ⟨m, h, h1, h2, h3⟩
  · exact .inl ⟨h, fun q hq => by by_cases e : q = n; · subst e; exact hr
                                  · exact h1 q (by omega)⟩
  · exact .inr ⟨m, h, by omega, h2, fun q hq hq' => by by_cases e : q = n; · subst e; exact hr
                                                       · exact h3 q hq (by omega)⟩
theorem lastNo_no {a b n : Nat} (hr : ¬ Rep a b n) : lastNo a b (n + 1) (n : Int) := .inr ⟨n, rfl, by omega, hr, fun q hq hq' => by omega⟩
theorem lastNo_b {a b n : Nat} {o : Int} (h : lastNo a b n o) : -1 ≤ o ∧ o < n + 1 := by
  rcases h with ⟨h, h1⟩ | ⟨m, h, h1, h2, h3⟩ <;> omega
/-- The table, by one further. -/
theorem rep_table {a b n : Nat} {us : List Bool} {c : Bool} (hu : ∀ q, q < n → (gt us q = true ↔ Rep a b q)) (hl : n < us.length) (hc : c = true ↔ Rep a b n) : ∀ q, q < n + 1 → (gt (us.set n c) q = true ↔ Rep a b q) := by
  intro q hq
  rw [gt_set hl]
  by_cases e : q = n
  · subst e; rw [if_pos rfl]; exact hc
  · rw [if_neg e]; exact hu q (by omega)

theorem not_rep {x : Bool} {R : Prop} (h : x = true ↔ R) (c : (!x) = true) : ¬ R := fun hr => by rw [h.2 hr] at c; cases c
theorem yes_rep {x : Bool} {R : Prop} (h : x = true ↔ R) (c : (!x) = false) : R := h.1 (by simpa using c)
theorem rep_iff {a b n : Nat} {us : List Bool} (ha : 1 ≤ a) (hb : 1 ≤ b) (hu : ∀ q, q < n → (gt us q = true ↔ Rep a b q)) : Rep a b n ↔ n = 0 ∨ (a ≤ n ∧ gt us (n - a) = true) ∨ (b ≤ n ∧ gt us (n - b) = true) := by
  constructor
  · intro h
    rcases Rep_inv h with h | ⟨h, h'⟩ | ⟨h, h'⟩
    · exact .inl h
    · by_cases e : n = 0
      · exact .inl e
      · exact .inr (.inl ⟨h, (hu _ (by omega)).2 h'⟩)
    · by_cases e : n = 0
      · exact .inl e
      · exact .inr (.inr ⟨h, (hu _ (by omega)).2 h'⟩)
  · rintro (h | ⟨h, h'⟩ | ⟨h, h'⟩)
    · rw [h]; exact Rep_zero a b
    · by_cases e : n = 0
      · rw [e]; exact Rep_zero a b
      · exact Rep_a h ((hu _ (by omega)).1 h')
    · by_cases e : n = 0
      · rw [e]; exact Rep_zero a b
      · exact Rep_b h ((hu _ (by omega)).1 h')

set_option maxRecDepth 10000 in
theorem rreach_spec (h : Heap) (a : Nat) (b : Nat) (hp1 : 1 ≤ a) (hp2 : a ≤ 1000) (hp3 : 1 ≤ b) (hp4 : b ≤ 1000) : Fx Try.prog 14 [.int .i64 ((a : Nat) : Int), .int .i64 ((b : Nat) : Int)] h (fun v h' => ∃ (o : Int), v = .int .i64 o ∧ (lastNo a b (a * b + 1) o) ∧ Ext h.size h h') := by
  have hab : a * b ≤ 1000 * 1000 := Nat.mul_le_mul hp2 hp4
  have hmi : ((a : Int)) * ((b : Int)) = ((a * b : Nat) : Int) := (Int.natCast_mul a b).symm
  refine fx_intro (n := 58) [(0, .int .i64 ((a : Nat) : Int)), (1, .int .i64 ((b : Nat) : Int))] Try.func14 rfl rfl (by simp) ⟨rfl, rfl, trivial⟩ fun g0 => ?_
  refine wi_seq <| wi_reg rfl <| lx_assign (.int .i64 0) rfl rfl <| lx_nil <| wi_seq <| wi_reg rfl <| lx_assign (.int .i64 (-1)) rfl rfl <| lx_nil <| wi_seq <| wi_reg rfl <| lx_move (.int .i64 ((a : Nat) : Int)) rfl rfl <| lx_move (.int .i64 ((b : Nat) : Int)) rfl rfl <| lx_mul (((a * b : Nat) : Int)) rfl rfl rfl (by omega) (by omega) (by omega) <| lx_add (((a * b + 1 : Nat) : Int)) rfl rfl rfl (by omega) (by omega) (by omega) <| lx_make (E := encB) (n := a * b + 1) (B := h.size) false rfl rfl Try.underlying74 (eZ74) rfl rfl (by omega) (by omega) (Nat.le_refl _) (fun _ _ => trivial) fun v1 h1 ho1 hx1 hvb1 => ?_
  have ho2 := ho1.base (Nat.le_refl h.size)
  refine lx_assign (v1) rfl rfl <| lx_nil <| wi_seq <| wi_seq <| wi_reg rfl <| lx_assign (.int .i64 0) rfl rfl <| lx_nil <| wi_block <| ?_
  refine wi_loop (σ := Nat × Int × (List Bool)) (rngB 13 57 [5, 7]) (fun (ss : Nat × Int × (List Bool)) => [(5, .int .i64 ss.2.1), (7, .int .i64 ((ss.1 : Nat) : Int))]) (fun (ss : Nat × Int × (List Bool)) (hh : Heap) => OwE encB hh h.size 4 v1 ss.2.2 ∧ Ext h.size h hh ∧ (ss.1 ≤ a * b + 1) ∧ (ss.2.2.length = a * b + 1) ∧ (∀ q, q < ss.1 → (gt ss.2.2 q = true ↔ Rep a b q)) ∧ (lastNo a b ss.1 ss.2.1)) (fun (ss : Nat × Int × (List Bool)) => a * b + 1 - ss.1) (0, -1, List.replicate (a * b + 1) false) ⟨rfl, rfl, trivial⟩ ⟨?_, hx1, ?_, ?_, ?_, ?_⟩ ?_
  · first | exact ho2 | (simpa using ho2)
  · try dsimp only
    omega
  · try dsimp only
    simp
  · try dsimp only
    intro q hq; omega
  · try dsimp only
    exact lastNo_zero a b
  rintro g1 ⟨n, o, us⟩ hh1 ⟨ho3, hx0_1, hn, hul, hu, hol⟩ IH1
  dsimp only at *
  have hob := lastNo_b hol
  refine wi_seq <| wi_seq <| wi_reg rfl <| lx_move (.int .i64 ((n : Nat) : Int)) rfl rfl <| lx_move (.int .i64 ((a : Nat) : Int)) rfl rfl <| lx_move (.int .i64 ((b : Nat) : Int)) rfl rfl <| lx_mul (((a * b : Nat) : Int)) rfl rfl rfl (by omega) (by omega) (by omega) <| lx_leqS rfl rfl rfl (fun c1 => ?_) (fun c1 => ?_)
  · refine lx_nil <| wi_true rfl <| wi_skip <| wi_seq <| wi_block <| wi_seq <| wi_reg rfl <| lx_move (v1) rfl rfl <| lx_move (.int .i64 ((n : Nat) : Int)) rfl rfl <| lx_move (.int .i64 ((n : Nat) : Int)) rfl rfl <| lx_eqlS rfl rfl rfl (fun c2 => ?_) (fun c2 => ?_)
    · refine lx_move (.bool true) rfl rfl <| lx_skip rfl <| lx_skip rfl <| lx_skip rfl <| lx_skip rfl <| lx_skip rfl <| lx_skip rfl <| lx_skip rfl <| lx_skip rfl <| lx_skip rfl <| lx_skip rfl <| ?_
      refine lx_skip rfl <| lx_pick true (.bool true) rfl rfl rfl <| lx_move (.bool true) rfl rfl <| lx_skip rfl <| lx_skip rfl <| lx_skip rfl <| lx_skip rfl <| lx_skip rfl <| lx_skip rfl <| lx_skip rfl <| lx_skip rfl <| lx_skip rfl <| lx_skip rfl <| ?_
      refine lx_skip rfl <| lx_pick true (.bool true) rfl rfl rfl <| lx_ix (i := n) rfl eT74 ho3.rd rfl rfl (by first | omega | (simp only [List.length_set, List.length_append, List.length_cons, List.length_nil, List.length_replicate, List.length_take, swp_length, exch_length]; omega)) <| lx_st (i := n) true rfl rfl Try.sizeOf4 ho3 (by first | omega | (simp only [List.length_set, List.length_append, List.length_cons, List.length_nil, List.length_replicate, List.length_take, swp_length, exch_length]; omega)) rfl rfl (fun _ _ _ _ _ => trivial) fun h2 ho4 hc1 hsz1 => ?_
      have hx0_2 := hx0_1.trans (ho3.ext hc1 hx0_1.size)
      refine lx_nil <| wi_seq <| wi_reg rfl <| ?_
      have hT := rep_table (c := true) hu (by omega) (by
        rw [rep_iff hp1 hp3 hu]
        first
        | exact ⟨fun _ => .inl (by omega), fun _ => rfl⟩
        | exact ⟨fun _ => .inr (.inl ⟨by omega, by assumption⟩), fun _ => rfl⟩
        | exact ⟨fun _ => .inr (.inr ⟨by omega, by assumption⟩), fun _ => rfl⟩
        | (refine ⟨fun hh => (by cases hh), fun hh => ?_⟩; rcases hh with h1 | ⟨h1, h2⟩ | ⟨h1, h2⟩ <;> first | omega | (simp [*] at h2)))
      refine lx_move (v1) rfl rfl <| lx_move (.int .i64 ((n : Nat) : Int)) rfl rfl <| lx_ix (i := n) rfl eT74 ho4.rd rfl rfl (by first | omega | (simp only [List.length_set, List.length_append, List.length_cons, List.length_nil, List.length_replicate, List.length_take, swp_length, exch_length]; omega)) <| lx_ld (i := n) (j := 0) (.bool (gt (us.set n true) n)) rfl rfl fl4 ho4.rd (by first | omega | (simp only [List.length_set, List.length_append, List.length_cons, List.length_nil, List.length_replicate, List.length_take, swp_length, exch_length]; omega)) rfl rfl <| lx_not rfl rfl <| lx_nil <| wi_condS (t := !(gt (us.set n true) n)) rfl (fun c3 => ?_) (fun c3 => ?_)
      · refine wi_reg rfl <| lx_move (.int .i64 ((n : Nat) : Int)) rfl rfl <| lx_assign (.int .i64 ((n : Nat) : Int)) rfl rfl <| lx_nil <| wi_inBlock <| wi_reg rfl <| lx_move (.int .i64 ((n : Nat) : Int)) rfl rfl <| lx_add (((n + 1 : Nat) : Int)) rfl rfl rfl (by omega) (by omega) (by omega) <| lx_assign (.int .i64 ((n + 1 : Nat) : Int)) rfl rfl <| lx_nil <| ?_
        -- L0.1
        refine IH1 _ _ (n + 1, ((n : Nat) : Int), us.set n true) (agree_ups rfl agree_self) ⟨rfl, rfl, trivial⟩ ⟨?_, hx0_2, ?_, ?_, ?_, ?_⟩ ?_
        · first | exact ho4 | (simpa using ho4)
        · try dsimp only
          omega
        · try dsimp only
          simpa using hul
        · try dsimp only
          exact hT
        · try dsimp only
          first
          | exact lastNo_no (not_rep (hT n (by omega)) (by assumption))
          | exact lastNo_yes hol (yes_rep (hT n (by omega)) (by assumption))
        · first | omega | (dsimp only; omega)
      · refine wi_skip <| wi_inBlock <| wi_reg rfl <| lx_move (.int .i64 ((n : Nat) : Int)) rfl rfl <| lx_add (((n + 1 : Nat) : Int)) rfl rfl rfl (by omega) (by omega) (by omega) <| lx_assign (.int .i64 ((n + 1 : Nat) : Int)) rfl rfl <| lx_nil <| ?_
        -- L0.2
        refine IH1 _ _ (n + 1, o, us.set n true) (agree_ups rfl agree_self) ⟨rfl, rfl, trivial⟩ ⟨?_, hx0_2, ?_, ?_, ?_, ?_⟩ ?_
        · first | exact ho4 | (simpa using ho4)
        · try dsimp only
          omega
        · try dsimp only
          simpa using hul
        · try dsimp only
          exact hT
        · try dsimp only
          first
          | exact lastNo_no (not_rep (hT n (by omega)) (by assumption))
          | exact lastNo_yes hol (yes_rep (hT n (by omega)) (by assumption))
        · first | omega | (dsimp only; omega)
    · refine lx_move (.bool false) rfl rfl <| lx_move (.int .i64 ((n : Nat) : Int)) rfl rfl <| lx_move (.int .i64 ((a : Nat) : Int)) rfl rfl <| lx_geqS rfl rfl rfl (fun c4 => ?_) (fun c4 => ?_)
      · refine lx_move (.bool true) rfl rfl <| lx_move (v1) rfl rfl <| lx_move (.int .i64 ((n : Nat) : Int)) rfl rfl <| lx_move (.int .i64 ((a : Nat) : Int)) rfl rfl <| lx_sub (((n - a : Nat) : Int)) rfl rfl rfl (by omega) (by omega) (by omega) <| lx_ix (i := n - a) rfl eT74 ho3.rd rfl rfl (by first | omega | (simp only [List.length_set, List.length_append, List.length_cons, List.length_nil, List.length_replicate, List.length_take, swp_length, exch_length]; omega)) <| lx_ld (i := n - a) (j := 0) (.bool (gt us (n - a))) rfl rfl fl4 ho3.rd (by first | omega | (simp only [List.length_set, List.length_append, List.length_cons, List.length_nil, List.length_replicate, List.length_take, swp_length, exch_length]; omega)) rfl rfl <| ?_
        cases c5 : (gt us (n - a))
        · refine lx_pick true (.bool false) rfl rfl rfl <| lx_pick false (.bool false) rfl rfl rfl <| lx_move (.bool false) rfl rfl <| lx_move (.int .i64 ((n : Nat) : Int)) rfl rfl <| lx_move (.int .i64 ((b : Nat) : Int)) rfl rfl <| lx_geqS rfl rfl rfl (fun c6 => ?_) (fun c6 => ?_)
          · refine lx_move (.bool true) rfl rfl <| lx_move (v1) rfl rfl <| lx_move (.int .i64 ((n : Nat) : Int)) rfl rfl <| lx_move (.int .i64 ((b : Nat) : Int)) rfl rfl <| lx_sub (((n - b : Nat) : Int)) rfl rfl rfl (by omega) (by omega) (by omega) <| lx_ix (i := n - b) rfl eT74 ho3.rd rfl rfl (by first | omega | (simp only [List.length_set, List.length_append, List.length_cons, List.length_nil, List.length_replicate, List.length_take, swp_length, exch_length]; omega)) <| lx_ld (i := n - b) (j := 0) (.bool (gt us (n - b))) rfl rfl fl4 ho3.rd (by first | omega | (simp only [List.length_set, List.length_append, List.length_cons, List.length_nil, List.length_replicate, List.length_take, swp_length, exch_length]; omega)) rfl rfl <| ?_
            cases c7 : (gt us (n - b))
            · refine lx_pick true (.bool false) rfl rfl rfl <| lx_pick false (.bool false) rfl rfl rfl <| lx_ix (i := n) rfl eT74 ho3.rd rfl rfl (by first | omega | (simp only [List.length_set, List.length_append, List.length_cons, List.length_nil, List.length_replicate, List.length_take, swp_length, exch_length]; omega)) <| lx_st (i := n) false rfl rfl Try.sizeOf4 ho3 (by first | omega | (simp only [List.length_set, List.length_append, List.length_cons, List.length_nil, List.length_replicate, List.length_take, swp_length, exch_length]; omega)) rfl rfl (fun _ _ _ _ _ => trivial) fun h3 ho5 hc2 hsz2 => ?_
              have hx0_3 := hx0_1.trans (ho3.ext hc2 hx0_1.size)
              refine lx_nil <| wi_seq <| wi_reg rfl <| ?_
              have hT := rep_table (c := false) hu (by omega) (by
                rw [rep_iff hp1 hp3 hu]
                first
                | exact ⟨fun _ => .inl (by omega), fun _ => rfl⟩
                | exact ⟨fun _ => .inr (.inl ⟨by omega, by assumption⟩), fun _ => rfl⟩
                | exact ⟨fun _ => .inr (.inr ⟨by omega, by assumption⟩), fun _ => rfl⟩
                | (refine ⟨fun hh => (by cases hh), fun hh => ?_⟩; rcases hh with h1 | ⟨h1, h2⟩ | ⟨h1, h2⟩ <;> first | omega | (simp [*] at h2)))
              refine lx_move (v1) rfl rfl <| lx_move (.int .i64 ((n : Nat) : Int)) rfl rfl <| lx_ix (i := n) rfl eT74 ho5.rd rfl rfl (by first | omega | (simp only [List.length_set, List.length_append, List.length_cons, List.length_nil, List.length_replicate, List.length_take, swp_length, exch_length]; omega)) <| lx_ld (i := n) (j := 0) (.bool (gt (us.set n false) n)) rfl rfl fl4 ho5.rd (by first | omega | (simp only [List.length_set, List.length_append, List.length_cons, List.length_nil, List.length_replicate, List.length_take, swp_length, exch_length]; omega)) rfl rfl <| lx_not rfl rfl <| lx_nil <| wi_condS (t := !(gt (us.set n false) n)) rfl (fun c8 => ?_) (fun c8 => ?_)
              · refine wi_reg rfl <| lx_move (.int .i64 ((n : Nat) : Int)) rfl rfl <| lx_assign (.int .i64 ((n : Nat) : Int)) rfl rfl <| lx_nil <| wi_inBlock <| wi_reg rfl <| lx_move (.int .i64 ((n : Nat) : Int)) rfl rfl <| lx_add (((n + 1 : Nat) : Int)) rfl rfl rfl (by omega) (by omega) (by omega) <| lx_assign (.int .i64 ((n + 1 : Nat) : Int)) rfl rfl <| lx_nil <| ?_
                -- L0.3
                refine IH1 _ _ (n + 1, ((n : Nat) : Int), us.set n false) (agree_ups rfl agree_self) ⟨rfl, rfl, trivial⟩ ⟨?_, hx0_3, ?_, ?_, ?_, ?_⟩ ?_
                · first | exact ho5 | (simpa using ho5)
                · try dsimp only
                  omega
                · try dsimp only
                  simpa using hul
                · try dsimp only
                  exact hT
                · try dsimp only
                  first
                  | exact lastNo_no (not_rep (hT n (by omega)) (by assumption))
                  | exact lastNo_yes hol (yes_rep (hT n (by omega)) (by assumption))
                · first | omega | (dsimp only; omega)
              · refine wi_skip <| wi_inBlock <| wi_reg rfl <| lx_move (.int .i64 ((n : Nat) : Int)) rfl rfl <| lx_add (((n + 1 : Nat) : Int)) rfl rfl rfl (by omega) (by omega) (by omega) <| lx_assign (.int .i64 ((n + 1 : Nat) : Int)) rfl rfl <| lx_nil <| ?_
                -- L0.4
                refine IH1 _ _ (n + 1, o, us.set n false) (agree_ups rfl agree_self) ⟨rfl, rfl, trivial⟩ ⟨?_, hx0_3, ?_, ?_, ?_, ?_⟩ ?_
                · first | exact ho5 | (simpa using ho5)
                · try dsimp only
                  omega
                · try dsimp only
                  simpa using hul
                · try dsimp only
                  exact hT
                · try dsimp only
                  first
                  | exact lastNo_no (not_rep (hT n (by omega)) (by assumption))
                  | exact lastNo_yes hol (yes_rep (hT n (by omega)) (by assumption))
                · first | omega | (dsimp only; omega)
            · refine lx_pick true (.bool true) rfl rfl rfl <| lx_pick false (.bool true) rfl rfl rfl <| lx_ix (i := n) rfl eT74 ho3.rd rfl rfl (by first | omega | (simp only [List.length_set, List.length_append, List.length_cons, List.length_nil, List.length_replicate, List.length_take, swp_length, exch_length]; omega)) <| lx_st (i := n) true rfl rfl Try.sizeOf4 ho3 (by first | omega | (simp only [List.length_set, List.length_append, List.length_cons, List.length_nil, List.length_replicate, List.length_take, swp_length, exch_length]; omega)) rfl rfl (fun _ _ _ _ _ => trivial) fun h4 ho6 hc3 hsz3 => ?_
              have hx0_4 := hx0_1.trans (ho3.ext hc3 hx0_1.size)
              refine lx_nil <| wi_seq <| wi_reg rfl <| ?_
              have hT := rep_table (c := true) hu (by omega) (by
                rw [rep_iff hp1 hp3 hu]
                first
                | exact ⟨fun _ => .inl (by omega), fun _ => rfl⟩
                | exact ⟨fun _ => .inr (.inl ⟨by omega, by assumption⟩), fun _ => rfl⟩
                | exact ⟨fun _ => .inr (.inr ⟨by omega, by assumption⟩), fun _ => rfl⟩
                | (refine ⟨fun hh => (by cases hh), fun hh => ?_⟩; rcases hh with h1 | ⟨h1, h2⟩ | ⟨h1, h2⟩ <;> first | omega | (simp [*] at h2)))
              refine lx_move (v1) rfl rfl <| lx_move (.int .i64 ((n : Nat) : Int)) rfl rfl <| lx_ix (i := n) rfl eT74 ho6.rd rfl rfl (by first | omega | (simp only [List.length_set, List.length_append, List.length_cons, List.length_nil, List.length_replicate, List.length_take, swp_length, exch_length]; omega)) <| lx_ld (i := n) (j := 0) (.bool (gt (us.set n true) n)) rfl rfl fl4 ho6.rd (by first | omega | (simp only [List.length_set, List.length_append, List.length_cons, List.length_nil, List.length_replicate, List.length_take, swp_length, exch_length]; omega)) rfl rfl <| lx_not rfl rfl <| lx_nil <| wi_condS (t := !(gt (us.set n true) n)) rfl (fun c9 => ?_) (fun c9 => ?_)
              · refine wi_reg rfl <| lx_move (.int .i64 ((n : Nat) : Int)) rfl rfl <| lx_assign (.int .i64 ((n : Nat) : Int)) rfl rfl <| lx_nil <| wi_inBlock <| wi_reg rfl <| lx_move (.int .i64 ((n : Nat) : Int)) rfl rfl <| lx_add (((n + 1 : Nat) : Int)) rfl rfl rfl (by omega) (by omega) (by omega) <| lx_assign (.int .i64 ((n + 1 : Nat) : Int)) rfl rfl <| lx_nil <| ?_
                -- L0.5
                refine IH1 _ _ (n + 1, ((n : Nat) : Int), us.set n true) (agree_ups rfl agree_self) ⟨rfl, rfl, trivial⟩ ⟨?_, hx0_4, ?_, ?_, ?_, ?_⟩ ?_
                · first | exact ho6 | (simpa using ho6)
                · try dsimp only
                  omega
                · try dsimp only
                  simpa using hul
                · try dsimp only
                  exact hT
                · try dsimp only
                  first
                  | exact lastNo_no (not_rep (hT n (by omega)) (by assumption))
                  | exact lastNo_yes hol (yes_rep (hT n (by omega)) (by assumption))
                · first | omega | (dsimp only; omega)
              · refine wi_skip <| wi_inBlock <| wi_reg rfl <| lx_move (.int .i64 ((n : Nat) : Int)) rfl rfl <| lx_add (((n + 1 : Nat) : Int)) rfl rfl rfl (by omega) (by omega) (by omega) <| lx_assign (.int .i64 ((n + 1 : Nat) : Int)) rfl rfl <| lx_nil <| ?_
                -- L0.6
                refine IH1 _ _ (n + 1, o, us.set n true) (agree_ups rfl agree_self) ⟨rfl, rfl, trivial⟩ ⟨?_, hx0_4, ?_, ?_, ?_, ?_⟩ ?_
                · first | exact ho6 | (simpa using ho6)
                · try dsimp only
                  omega
                · try dsimp only
                  simpa using hul
                · try dsimp only
                  exact hT
                · try dsimp only
                  first
                  | exact lastNo_no (not_rep (hT n (by omega)) (by assumption))
                  | exact lastNo_yes hol (yes_rep (hT n (by omega)) (by assumption))
                · first | omega | (dsimp only; omega)
          · refine lx_move (.bool false) rfl rfl <| lx_skip rfl <| lx_skip rfl <| lx_skip rfl <| lx_skip rfl <| lx_skip rfl <| lx_skip rfl <| ?_
            refine lx_pick false (.bool false) rfl rfl rfl <| lx_pick false (.bool false) rfl rfl rfl <| lx_ix (i := n) rfl eT74 ho3.rd rfl rfl (by first | omega | (simp only [List.length_set, List.length_append, List.length_cons, List.length_nil, List.length_replicate, List.length_take, swp_length, exch_length]; omega)) <| lx_st (i := n) false rfl rfl Try.sizeOf4 ho3 (by first | omega | (simp only [List.length_set, List.length_append, List.length_cons, List.length_nil, List.length_replicate, List.length_take, swp_length, exch_length]; omega)) rfl rfl (fun _ _ _ _ _ => trivial) fun h5 ho7 hc4 hsz4 => ?_
            have hx0_5 := hx0_1.trans (ho3.ext hc4 hx0_1.size)
            refine lx_nil <| wi_seq <| wi_reg rfl <| ?_
            have hT := rep_table (c := false) hu (by omega) (by
              rw [rep_iff hp1 hp3 hu]
              first
              | exact ⟨fun _ => .inl (by omega), fun _ => rfl⟩
              | exact ⟨fun _ => .inr (.inl ⟨by omega, by assumption⟩), fun _ => rfl⟩
              | exact ⟨fun _ => .inr (.inr ⟨by omega, by assumption⟩), fun _ => rfl⟩
              | (refine ⟨fun hh => (by cases hh), fun hh => ?_⟩; rcases hh with h1 | ⟨h1, h2⟩ | ⟨h1, h2⟩ <;> first | omega | (simp [*] at h2)))
            refine lx_move (v1) rfl rfl <| lx_move (.int .i64 ((n : Nat) : Int)) rfl rfl <| lx_ix (i := n) rfl eT74 ho7.rd rfl rfl (by first | omega | (simp only [List.length_set, List.length_append, List.length_cons, List.length_nil, List.length_replicate, List.length_take, swp_length, exch_length]; omega)) <| lx_ld (i := n) (j := 0) (.bool (gt (us.set n false) n)) rfl rfl fl4 ho7.rd (by first | omega | (simp only [List.length_set, List.length_append, List.length_cons, List.length_nil, List.length_replicate, List.length_take, swp_length, exch_length]; omega)) rfl rfl <| lx_not rfl rfl <| lx_nil <| wi_condS (t := !(gt (us.set n false) n)) rfl (fun c10 => ?_) (fun c10 => ?_)
            · refine wi_reg rfl <| lx_move (.int .i64 ((n : Nat) : Int)) rfl rfl <| lx_assign (.int .i64 ((n : Nat) : Int)) rfl rfl <| lx_nil <| wi_inBlock <| wi_reg rfl <| lx_move (.int .i64 ((n : Nat) : Int)) rfl rfl <| lx_add (((n + 1 : Nat) : Int)) rfl rfl rfl (by omega) (by omega) (by omega) <| lx_assign (.int .i64 ((n + 1 : Nat) : Int)) rfl rfl <| lx_nil <| ?_
              -- L0.7
              refine IH1 _ _ (n + 1, ((n : Nat) : Int), us.set n false) (agree_ups rfl agree_self) ⟨rfl, rfl, trivial⟩ ⟨?_, hx0_5, ?_, ?_, ?_, ?_⟩ ?_
              · first | exact ho7 | (simpa using ho7)
              · try dsimp only
                omega
              · try dsimp only
                simpa using hul
              · try dsimp only
                exact hT
              · try dsimp only
                first
                | exact lastNo_no (not_rep (hT n (by omega)) (by assumption))
                | exact lastNo_yes hol (yes_rep (hT n (by omega)) (by assumption))
              · first | omega | (dsimp only; omega)
            · refine wi_skip <| wi_inBlock <| wi_reg rfl <| lx_move (.int .i64 ((n : Nat) : Int)) rfl rfl <| lx_add (((n + 1 : Nat) : Int)) rfl rfl rfl (by omega) (by omega) (by omega) <| lx_assign (.int .i64 ((n + 1 : Nat) : Int)) rfl rfl <| lx_nil <| ?_
              -- L0.8
              refine IH1 _ _ (n + 1, o, us.set n false) (agree_ups rfl agree_self) ⟨rfl, rfl, trivial⟩ ⟨?_, hx0_5, ?_, ?_, ?_, ?_⟩ ?_
              · first | exact ho7 | (simpa using ho7)
              · try dsimp only
                omega
              · try dsimp only
                simpa using hul
              · try dsimp only
                exact hT
              · try dsimp only
                first
                | exact lastNo_no (not_rep (hT n (by omega)) (by assumption))
                | exact lastNo_yes hol (yes_rep (hT n (by omega)) (by assumption))
              · first | omega | (dsimp only; omega)
        · refine lx_pick true (.bool true) rfl rfl rfl <| lx_pick false (.bool true) rfl rfl rfl <| lx_move (.bool true) rfl rfl <| lx_skip rfl <| lx_skip rfl <| lx_skip rfl <| lx_skip rfl <| lx_skip rfl <| lx_skip rfl <| lx_skip rfl <| lx_skip rfl <| lx_skip rfl <| lx_skip rfl <| ?_
          refine lx_skip rfl <| lx_pick true (.bool true) rfl rfl rfl <| lx_ix (i := n) rfl eT74 ho3.rd rfl rfl (by first | omega | (simp only [List.length_set, List.length_append, List.length_cons, List.length_nil, List.length_replicate, List.length_take, swp_length, exch_length]; omega)) <| lx_st (i := n) true rfl rfl Try.sizeOf4 ho3 (by first | omega | (simp only [List.length_set, List.length_append, List.length_cons, List.length_nil, List.length_replicate, List.length_take, swp_length, exch_length]; omega)) rfl rfl (fun _ _ _ _ _ => trivial) fun h6 ho8 hc5 hsz5 => ?_
          have hx0_6 := hx0_1.trans (ho3.ext hc5 hx0_1.size)
          refine lx_nil <| wi_seq <| wi_reg rfl <| ?_
          have hT := rep_table (c := true) hu (by omega) (by
            rw [rep_iff hp1 hp3 hu]
            first
            | exact ⟨fun _ => .inl (by omega), fun _ => rfl⟩
            | exact ⟨fun _ => .inr (.inl ⟨by omega, by assumption⟩), fun _ => rfl⟩
            | exact ⟨fun _ => .inr (.inr ⟨by omega, by assumption⟩), fun _ => rfl⟩
            | (refine ⟨fun hh => (by cases hh), fun hh => ?_⟩; rcases hh with h1 | ⟨h1, h2⟩ | ⟨h1, h2⟩ <;> first | omega | (simp [*] at h2)))
          refine lx_move (v1) rfl rfl <| lx_move (.int .i64 ((n : Nat) : Int)) rfl rfl <| lx_ix (i := n) rfl eT74 ho8.rd rfl rfl (by first | omega | (simp only [List.length_set, List.length_append, List.length_cons, List.length_nil, List.length_replicate, List.length_take, swp_length, exch_length]; omega)) <| lx_ld (i := n) (j := 0) (.bool (gt (us.set n true) n)) rfl rfl fl4 ho8.rd (by first | omega | (simp only [List.length_set, List.length_append, List.length_cons, List.length_nil, List.length_replicate, List.length_take, swp_length, exch_length]; omega)) rfl rfl <| lx_not rfl rfl <| lx_nil <| wi_condS (t := !(gt (us.set n true) n)) rfl (fun c11 => ?_) (fun c11 => ?_)
          · refine wi_reg rfl <| lx_move (.int .i64 ((n : Nat) : Int)) rfl rfl <| lx_assign (.int .i64 ((n : Nat) : Int)) rfl rfl <| lx_nil <| wi_inBlock <| wi_reg rfl <| lx_move (.int .i64 ((n : Nat) : Int)) rfl rfl <| lx_add (((n + 1 : Nat) : Int)) rfl rfl rfl (by omega) (by omega) (by omega) <| lx_assign (.int .i64 ((n + 1 : Nat) : Int)) rfl rfl <| lx_nil <| ?_
            -- L0.9
            refine IH1 _ _ (n + 1, ((n : Nat) : Int), us.set n true) (agree_ups rfl agree_self) ⟨rfl, rfl, trivial⟩ ⟨?_, hx0_6, ?_, ?_, ?_, ?_⟩ ?_
            · first | exact ho8 | (simpa using ho8)
            · try dsimp only
              omega
            · try dsimp only
              simpa using hul
            · try dsimp only
              exact hT
            · try dsimp only
              first
              | exact lastNo_no (not_rep (hT n (by omega)) (by assumption))
              | exact lastNo_yes hol (yes_rep (hT n (by omega)) (by assumption))
            · first | omega | (dsimp only; omega)
          · refine wi_skip <| wi_inBlock <| wi_reg rfl <| lx_move (.int .i64 ((n : Nat) : Int)) rfl rfl <| lx_add (((n + 1 : Nat) : Int)) rfl rfl rfl (by omega) (by omega) (by omega) <| lx_assign (.int .i64 ((n + 1 : Nat) : Int)) rfl rfl <| lx_nil <| ?_
            -- L0.10
            refine IH1 _ _ (n + 1, o, us.set n true) (agree_ups rfl agree_self) ⟨rfl, rfl, trivial⟩ ⟨?_, hx0_6, ?_, ?_, ?_, ?_⟩ ?_
            · first | exact ho8 | (simpa using ho8)
            · try dsimp only
              omega
            · try dsimp only
              simpa using hul
            · try dsimp only
              exact hT
            · try dsimp only
              first
              | exact lastNo_no (not_rep (hT n (by omega)) (by assumption))
              | exact lastNo_yes hol (yes_rep (hT n (by omega)) (by assumption))
            · first | omega | (dsimp only; omega)
      · refine lx_move (.bool false) rfl rfl <| lx_skip rfl <| lx_skip rfl <| lx_skip rfl <| lx_skip rfl <| lx_skip rfl <| lx_skip rfl <| ?_
        refine lx_pick false (.bool false) rfl rfl rfl <| lx_pick false (.bool false) rfl rfl rfl <| lx_move (.bool false) rfl rfl <| lx_move (.int .i64 ((n : Nat) : Int)) rfl rfl <| lx_move (.int .i64 ((b : Nat) : Int)) rfl rfl <| lx_geqS rfl rfl rfl (fun c12 => ?_) (fun c12 => ?_)
        · refine lx_move (.bool true) rfl rfl <| lx_move (v1) rfl rfl <| lx_move (.int .i64 ((n : Nat) : Int)) rfl rfl <| lx_move (.int .i64 ((b : Nat) : Int)) rfl rfl <| lx_sub (((n - b : Nat) : Int)) rfl rfl rfl (by omega) (by omega) (by omega) <| lx_ix (i := n - b) rfl eT74 ho3.rd rfl rfl (by first | omega | (simp only [List.length_set, List.length_append, List.length_cons, List.length_nil, List.length_replicate, List.length_take, swp_length, exch_length]; omega)) <| lx_ld (i := n - b) (j := 0) (.bool (gt us (n - b))) rfl rfl fl4 ho3.rd (by first | omega | (simp only [List.length_set, List.length_append, List.length_cons, List.length_nil, List.length_replicate, List.length_take, swp_length, exch_length]; omega)) rfl rfl <| ?_
          cases c13 : (gt us (n - b))
          · refine lx_pick true (.bool false) rfl rfl rfl <| lx_pick false (.bool false) rfl rfl rfl <| lx_ix (i := n) rfl eT74 ho3.rd rfl rfl (by first | omega | (simp only [List.length_set, List.length_append, List.length_cons, List.length_nil, List.length_replicate, List.length_take, swp_length, exch_length]; omega)) <| lx_st (i := n) false rfl rfl Try.sizeOf4 ho3 (by first | omega | (simp only [List.length_set, List.length_append, List.length_cons, List.length_nil, List.length_replicate, List.length_take, swp_length, exch_length]; omega)) rfl rfl (fun _ _ _ _ _ => trivial) fun h7 ho9 hc6 hsz6 => ?_
            have hx0_7 := hx0_1.trans (ho3.ext hc6 hx0_1.size)
            refine lx_nil <| wi_seq <| wi_reg rfl <| ?_
            have hT := rep_table (c := false) hu (by omega) (by
              rw [rep_iff hp1 hp3 hu]
              first
              | exact ⟨fun _ => .inl (by omega), fun _ => rfl⟩
              | exact ⟨fun _ => .inr (.inl ⟨by omega, by assumption⟩), fun _ => rfl⟩
              | exact ⟨fun _ => .inr (.inr ⟨by omega, by assumption⟩), fun _ => rfl⟩
              | (refine ⟨fun hh => (by cases hh), fun hh => ?_⟩; rcases hh with h1 | ⟨h1, h2⟩ | ⟨h1, h2⟩ <;> first | omega | (simp [*] at h2)))
            refine lx_move (v1) rfl rfl <| lx_move (.int .i64 ((n : Nat) : Int)) rfl rfl <| lx_ix (i := n) rfl eT74 ho9.rd rfl rfl (by first | omega | (simp only [List.length_set, List.length_append, List.length_cons, List.length_nil, List.length_replicate, List.length_take, swp_length, exch_length]; omega)) <| lx_ld (i := n) (j := 0) (.bool (gt (us.set n false) n)) rfl rfl fl4 ho9.rd (by first | omega | (simp only [List.length_set, List.length_append, List.length_cons, List.length_nil, List.length_replicate, List.length_take, swp_length, exch_length]; omega)) rfl rfl <| lx_not rfl rfl <| lx_nil <| wi_condS (t := !(gt (us.set n false) n)) rfl (fun c14 => ?_) (fun c14 => ?_)
            · refine wi_reg rfl <| lx_move (.int .i64 ((n : Nat) : Int)) rfl rfl <| lx_assign (.int .i64 ((n : Nat) : Int)) rfl rfl <| lx_nil <| wi_inBlock <| wi_reg rfl <| lx_move (.int .i64 ((n : Nat) : Int)) rfl rfl <| lx_add (((n + 1 : Nat) : Int)) rfl rfl rfl (by omega) (by omega) (by omega) <| lx_assign (.int .i64 ((n + 1 : Nat) : Int)) rfl rfl <| lx_nil <| ?_
              -- L0.11
              refine IH1 _ _ (n + 1, ((n : Nat) : Int), us.set n false) (agree_ups rfl agree_self) ⟨rfl, rfl, trivial⟩ ⟨?_, hx0_7, ?_, ?_, ?_, ?_⟩ ?_
              · first | exact ho9 | (simpa using ho9)
              · try dsimp only
                omega
              · try dsimp only
                simpa using hul
              · try dsimp only
                exact hT
              · try dsimp only
                first
                | exact lastNo_no (not_rep (hT n (by omega)) (by assumption))
                | exact lastNo_yes hol (yes_rep (hT n (by omega)) (by assumption))
              · first | omega | (dsimp only; omega)
            · refine wi_skip <| wi_inBlock <| wi_reg rfl <| lx_move (.int .i64 ((n : Nat) : Int)) rfl rfl <| lx_add (((n + 1 : Nat) : Int)) rfl rfl rfl (by omega) (by omega) (by omega) <| lx_assign (.int .i64 ((n + 1 : Nat) : Int)) rfl rfl <| lx_nil <| ?_
              -- L0.12
              refine IH1 _ _ (n + 1, o, us.set n false) (agree_ups rfl agree_self) ⟨rfl, rfl, trivial⟩ ⟨?_, hx0_7, ?_, ?_, ?_, ?_⟩ ?_
              · first | exact ho9 | (simpa using ho9)
              · try dsimp only
                omega
              · try dsimp only
                simpa using hul
              · try dsimp only
                exact hT
              · try dsimp only
                first
                | exact lastNo_no (not_rep (hT n (by omega)) (by assumption))
                | exact lastNo_yes hol (yes_rep (hT n (by omega)) (by assumption))
              · first | omega | (dsimp only; omega)
          · refine lx_pick true (.bool true) rfl rfl rfl <| lx_pick false (.bool true) rfl rfl rfl <| lx_ix (i := n) rfl eT74 ho3.rd rfl rfl (by first | omega | (simp only [List.length_set, List.length_append, List.length_cons, List.length_nil, List.length_replicate, List.length_take, swp_length, exch_length]; omega)) <| lx_st (i := n) true rfl rfl Try.sizeOf4 ho3 (by first | omega | (simp only [List.length_set, List.length_append, List.length_cons, List.length_nil, List.length_replicate, List.length_take, swp_length, exch_length]; omega)) rfl rfl (fun _ _ _ _ _ => trivial) fun h8 ho10 hc7 hsz7 => ?_
            have hx0_8 := hx0_1.trans (ho3.ext hc7 hx0_1.size)
            refine lx_nil <| wi_seq <| wi_reg rfl <| ?_
            have hT := rep_table (c := true) hu (by omega) (by
              rw [rep_iff hp1 hp3 hu]
              first
              | exact ⟨fun _ => .inl (by omega), fun _ => rfl⟩
              | exact ⟨fun _ => .inr (.inl ⟨by omega, by assumption⟩), fun _ => rfl⟩
              | exact ⟨fun _ => .inr (.inr ⟨by omega, by assumption⟩), fun _ => rfl⟩
              | (refine ⟨fun hh => (by cases hh), fun hh => ?_⟩; rcases hh with h1 | ⟨h1, h2⟩ | ⟨h1, h2⟩ <;> first | omega | (simp [*] at h2)))
            refine lx_move (v1) rfl rfl <| lx_move (.int .i64 ((n : Nat) : Int)) rfl rfl <| lx_ix (i := n) rfl eT74 ho10.rd rfl rfl (by first | omega | (simp only [List.length_set, List.length_append, List.length_cons, List.length_nil, List.length_replicate, List.length_take, swp_length, exch_length]; omega)) <| lx_ld (i := n) (j := 0) (.bool (gt (us.set n true) n)) rfl rfl fl4 ho10.rd (by first | omega | (simp only [List.length_set, List.length_append, List.length_cons, List.length_nil, List.length_replicate, List.length_take, swp_length, exch_length]; omega)) rfl rfl <| lx_not rfl rfl <| lx_nil <| wi_condS (t := !(gt (us.set n true) n)) rfl (fun c15 => ?_) (fun c15 => ?_)
            · refine wi_reg rfl <| lx_move (.int .i64 ((n : Nat) : Int)) rfl rfl <| lx_assign (.int .i64 ((n : Nat) : Int)) rfl rfl <| lx_nil <| wi_inBlock <| wi_reg rfl <| lx_move (.int .i64 ((n : Nat) : Int)) rfl rfl <| lx_add (((n + 1 : Nat) : Int)) rfl rfl rfl (by omega) (by omega) (by omega) <| lx_assign (.int .i64 ((n + 1 : Nat) : Int)) rfl rfl <| lx_nil <| ?_
              -- L0.13
              refine IH1 _ _ (n + 1, ((n : Nat) : Int), us.set n true) (agree_ups rfl agree_self) ⟨rfl, rfl, trivial⟩ ⟨?_, hx0_8, ?_, ?_, ?_, ?_⟩ ?_
              · first | exact ho10 | (simpa using ho10)
              · try dsimp only
                omega
              · try dsimp only
                simpa using hul
              · try dsimp only
                exact hT
              · try dsimp only
                first
                | exact lastNo_no (not_rep (hT n (by omega)) (by assumption))
                | exact lastNo_yes hol (yes_rep (hT n (by omega)) (by assumption))
              · first | omega | (dsimp only; omega)
            · refine wi_skip <| wi_inBlock <| wi_reg rfl <| lx_move (.int .i64 ((n : Nat) : Int)) rfl rfl <| lx_add (((n + 1 : Nat) : Int)) rfl rfl rfl (by omega) (by omega) (by omega) <| lx_assign (.int .i64 ((n + 1 : Nat) : Int)) rfl rfl <| lx_nil <| ?_
              -- L0.14
              refine IH1 _ _ (n + 1, o, us.set n true) (agree_ups rfl agree_self) ⟨rfl, rfl, trivial⟩ ⟨?_, hx0_8, ?_, ?_, ?_, ?_⟩ ?_
              · first | exact ho10 | (simpa using ho10)
              · try dsimp only
                omega
              · try dsimp only
                simpa using hul
              · try dsimp only
                exact hT
              · try dsimp only
                first
                | exact lastNo_no (not_rep (hT n (by omega)) (by assumption))
                | exact lastNo_yes hol (yes_rep (hT n (by omega)) (by assumption))
              · first | omega | (dsimp only; omega)
        · refine lx_move (.bool false) rfl rfl <| lx_skip rfl <| lx_skip rfl <| lx_skip rfl <| lx_skip rfl <| lx_skip rfl <| lx_skip rfl <| ?_
          refine lx_pick false (.bool false) rfl rfl rfl <| lx_pick false (.bool false) rfl rfl rfl <| lx_ix (i := n) rfl eT74 ho3.rd rfl rfl (by first | omega | (simp only [List.length_set, List.length_append, List.length_cons, List.length_nil, List.length_replicate, List.length_take, swp_length, exch_length]; omega)) <| lx_st (i := n) false rfl rfl Try.sizeOf4 ho3 (by first | omega | (simp only [List.length_set, List.length_append, List.length_cons, List.length_nil, List.length_replicate, List.length_take, swp_length, exch_length]; omega)) rfl rfl (fun _ _ _ _ _ => trivial) fun h9 ho11 hc8 hsz8 => ?_
          have hx0_9 := hx0_1.trans (ho3.ext hc8 hx0_1.size)
          refine lx_nil <| wi_seq <| wi_reg rfl <| ?_
          have hT := rep_table (c := false) hu (by omega) (by
            rw [rep_iff hp1 hp3 hu]
            first
            | exact ⟨fun _ => .inl (by omega), fun _ => rfl⟩
            | exact ⟨fun _ => .inr (.inl ⟨by omega, by assumption⟩), fun _ => rfl⟩
            | exact ⟨fun _ => .inr (.inr ⟨by omega, by assumption⟩), fun _ => rfl⟩
            | (refine ⟨fun hh => (by cases hh), fun hh => ?_⟩; rcases hh with h1 | ⟨h1, h2⟩ | ⟨h1, h2⟩ <;> first | omega | (simp [*] at h2)))
          refine lx_move (v1) rfl rfl <| lx_move (.int .i64 ((n : Nat) : Int)) rfl rfl <| lx_ix (i := n) rfl eT74 ho11.rd rfl rfl (by first | omega | (simp only [List.length_set, List.length_append, List.length_cons, List.length_nil, List.length_replicate, List.length_take, swp_length, exch_length]; omega)) <| lx_ld (i := n) (j := 0) (.bool (gt (us.set n false) n)) rfl rfl fl4 ho11.rd (by first | omega | (simp only [List.length_set, List.length_append, List.length_cons, List.length_nil, List.length_replicate, List.length_take, swp_length, exch_length]; omega)) rfl rfl <| lx_not rfl rfl <| lx_nil <| wi_condS (t := !(gt (us.set n false) n)) rfl (fun c16 => ?_) (fun c16 => ?_)
          · refine wi_reg rfl <| lx_move (.int .i64 ((n : Nat) : Int)) rfl rfl <| lx_assign (.int .i64 ((n : Nat) : Int)) rfl rfl <| lx_nil <| wi_inBlock <| wi_reg rfl <| lx_move (.int .i64 ((n : Nat) : Int)) rfl rfl <| lx_add (((n + 1 : Nat) : Int)) rfl rfl rfl (by omega) (by omega) (by omega) <| lx_assign (.int .i64 ((n + 1 : Nat) : Int)) rfl rfl <| lx_nil <| ?_
            -- L0.15
            refine IH1 _ _ (n + 1, ((n : Nat) : Int), us.set n false) (agree_ups rfl agree_self) ⟨rfl, rfl, trivial⟩ ⟨?_, hx0_9, ?_, ?_, ?_, ?_⟩ ?_
            · first | exact ho11 | (simpa using ho11)
            · try dsimp only
              omega
            · try dsimp only
              simpa using hul
            · try dsimp only
              exact hT
            · try dsimp only
              first
              | exact lastNo_no (not_rep (hT n (by omega)) (by assumption))
              | exact lastNo_yes hol (yes_rep (hT n (by omega)) (by assumption))
            · first | omega | (dsimp only; omega)
          · refine wi_skip <| wi_inBlock <| wi_reg rfl <| lx_move (.int .i64 ((n : Nat) : Int)) rfl rfl <| lx_add (((n + 1 : Nat) : Int)) rfl rfl rfl (by omega) (by omega) (by omega) <| lx_assign (.int .i64 ((n + 1 : Nat) : Int)) rfl rfl <| lx_nil <| ?_
            -- L0.16
            refine IH1 _ _ (n + 1, o, us.set n false) (agree_ups rfl agree_self) ⟨rfl, rfl, trivial⟩ ⟨?_, hx0_9, ?_, ?_, ?_, ?_⟩ ?_
            · first | exact ho11 | (simpa using ho11)
            · try dsimp only
              omega
            · try dsimp only
              simpa using hul
            · try dsimp only
              exact hT
            · try dsimp only
              first
              | exact lastNo_no (not_rep (hT n (by omega)) (by assumption))
              | exact lastNo_yes hol (yes_rep (hT n (by omega)) (by assumption))
            · first | omega | (dsimp only; omega)
  · refine lx_nil <| wi_false rfl <| wi_exit rfl <| wi_seq <| wi_reg rfl <| lx_move (.int .i64 o) rfl rfl <| lx_assign (.int .i64 o) rfl rfl <| lx_nil <| ?_
    -- R1
    refine wi_ret ⟨.int .i64 o, (res_one rfl rfl), ⟨o, rfl, ?_, hx0_1⟩⟩
    · rw [show a * b + 1 = n from by omega]; exact hol

set_option maxRecDepth 10000 in
theorem sortReaches_spec (h : Heap) (a : Int) (b : Int) (hp1 : -9223372036854775808 ≤ a) (hp2 : a ≤ 9223372036854775807) (hp3 : -9223372036854775808 ≤ b) (hp4 : b ≤ 9223372036854775807) : Fx Try.prog 3 [.int .i64 a, .int .i64 b] h (fun v h' => v = .bool true ∧ Ext h.size h h') := by
  refine fx_intro (n := 75) [(0, .int .i64 a), (1, .int .i64 b)] Try.func3 rfl rfl (by simp) ⟨rfl, rfl, trivial⟩ fun g0 => ?_
  refine wi_seq <| wi_reg rfl <| lx_assign (.bool false) rfl rfl <| lx_nil <| wi_seq <| wi_seq <| wi_reg rfl <| lx_assign (.int .i64 0) rfl rfl <| lx_nil <| wi_block <| ?_
  refine wi_loop (σ := Nat × Int × Int) (rngB 4 74 [0, 1]) (fun (ss : Nat × Int × Int) => [(5, .int .i64 ((ss.1 : Nat) : Int)), (0, .int .i64 ss.2.1), (1, .int .i64 ss.2.2)]) (fun (ss : Nat × Int × Int) (hh : Heap) => Ext h.size h hh ∧ (ss.1 ≤ 2) ∧ (-9223372036854775808 ≤ ss.2.1 ∧ ss.2.1 ≤ 9223372036854775807) ∧ (-9223372036854775808 ≤ ss.2.2 ∧ ss.2.2 ≤ 9223372036854775807)) (fun (ss : Nat × Int × Int) => 2 - ss.1) (0, a, b) ⟨rfl, rfl, rfl, trivial⟩ ⟨(Ext.refl _ _), ?_, ?_, ?_⟩ ?_
  · try dsimp only
    omega
  · try dsimp only
    omega
  · try dsimp only
    omega
  rintro g1 ⟨k, c, d⟩ hh1 ⟨hx0_1, hk, hc, hd⟩ IH1
  dsimp only at *
  refine wi_seq <| wi_seq <| wi_reg rfl <| lx_move (.int .i64 ((k : Nat) : Int)) rfl rfl <| lx_lssS rfl rfl rfl (fun c1 => ?_) (fun c1 => ?_)
  · refine lx_nil <| wi_true rfl <| wi_skip <| wi_seq <| wi_block <| wi_seq <| wi_reg rfl <| lx_move (.int .i64 c) rfl rfl <| lx_move (.int .i64 d) rfl rfl <| lx_call [.int .i64 c, .int .i64 d] rfl rfl Try.call12 rfl (reach_spec hh1 c d ) (fun _ _ _ => trivial) ?_
    rintro _ h1 ⟨rfl, rfl⟩
    refine lx_move (.tuple #[.int .i64 (if reachOk c d then c * d - c - d else 0), .int .i64 (if reachOk c d then 0 else 1)]) rfl rfl <| lx_extract (.int .i64 (if reachOk c d then c * d - c - d else 0)) rfl rfl rfl <| lx_extract (.int .i64 (if reachOk c d then 0 else 1)) rfl rfl rfl <| lx_assign (.int .i64 (if reachOk c d then c * d - c - d else 0)) rfl rfl <| lx_assign (.int .i64 (if reachOk c d then 0 else 1)) rfl rfl <| lx_nil <| wi_seq <| wi_seq <| wi_reg rfl <| lx_move (.int .i64 c) rfl rfl <| lx_lssS rfl rfl rfl (fun c2 => ?_) (fun c2 => ?_)
    · refine lx_move (.bool true) rfl rfl <| lx_skip rfl <| lx_skip rfl <| lx_pick true (.bool true) rfl rfl rfl <| lx_move (.bool true) rfl rfl <| lx_skip rfl <| lx_skip rfl <| lx_pick true (.bool true) rfl rfl rfl <| lx_move (.bool true) rfl rfl <| lx_skip rfl <| lx_skip rfl <| lx_pick true (.bool true) rfl rfl rfl <| lx_move (.bool true) rfl rfl <| ?_
      refine lx_skip rfl <| lx_skip rfl <| lx_skip rfl <| lx_skip rfl <| lx_pick true (.bool true) rfl rfl rfl <| lx_nil <| wi_true rfl <| wi_seq <| wi_reg rfl <| lx_move (.int .i64 (if reachOk c d then 0 else 1)) rfl rfl <| lx_neqF rfl rfl rfl (by rw [reachOk_no (by first | omega | (simp only [Int.toNat_natCast]; omega))]; exact fun h => h rfl) <| lx_move (.bool false) rfl rfl <| lx_move (.int .i64 (if reachOk c d then c * d - c - d else 0)) rfl rfl <| lx_neqF rfl rfl rfl (by rw [reachOk_no (by first | omega | (simp only [Int.toNat_natCast]; omega))]; exact fun h => h rfl) <| lx_pick false (.bool false) rfl rfl rfl <| lx_nil <| wi_false rfl <| wi_skip <| wi_reg rfl <| lx_move (.int .i64 c) rfl rfl <| lx_conv ((ur c : Nat) : Int) rfl Try.underlying3 Try.underlying26 rfl (wrap_ur _) <| lx_rem (m := ur c) (n := 200) rfl rfl rfl (by omega) <| lx_conv (((ur c) % 200 : Nat) : Int) rfl Try.underlying26 Try.underlying3 rfl (wrap_i64 (by omega) (by omega)) <| lx_add (((1 + ((ur c) % 200) : Nat) : Int)) rfl rfl rfl (by omega) (by omega) (by omega) <| lx_move (.int .i64 d) rfl rfl <| lx_conv ((ur d : Nat) : Int) rfl Try.underlying3 Try.underlying26 rfl (wrap_ur _) <| lx_rem (m := ur d) (n := 200) rfl rfl rfl (by omega) <| lx_conv (((ur d) % 200 : Nat) : Int) rfl Try.underlying26 Try.underlying3 rfl (wrap_i64 (by omega) (by omega)) <| lx_add (((1 + ((ur d) % 200) : Nat) : Int)) rfl rfl rfl (by omega) (by omega) (by omega) <| lx_assign (.int .i64 ((1 + ((ur c) % 200) : Nat) : Int)) rfl rfl <| lx_assign (.int .i64 ((1 + ((ur d) % 200) : Nat) : Int)) rfl rfl <| lx_nil <| wi_inBlock <| wi_reg rfl <| lx_move (.int .i64 ((k : Nat) : Int)) rfl rfl <| lx_add (((k + 1 : Nat) : Int)) rfl rfl rfl (by omega) (by omega) (by omega) <| lx_assign (.int .i64 ((k + 1 : Nat) : Int)) rfl rfl <| lx_nil <| ?_
      -- L0.1
      refine IH1 _ _ (k + 1, ((1 + ((ur c) % 200) : Nat) : Int), ((1 + ((ur d) % 200) : Nat) : Int)) (agree_ups rfl agree_self) ⟨rfl, rfl, rfl, trivial⟩ ⟨hx0_1, ?_, ?_, ?_⟩ ?_
      · try dsimp only
        omega
      · try dsimp only
        omega
      · try dsimp only
        omega
      · first | omega | (dsimp only; omega)
    · refine lx_move (.bool false) rfl rfl <| lx_move (.int .i64 c) rfl rfl <| lx_gtrS rfl rfl rfl (fun c3 => ?_) (fun c3 => ?_)
      · refine lx_pick false (.bool true) rfl rfl rfl <| lx_move (.bool true) rfl rfl <| lx_skip rfl <| lx_skip rfl <| lx_pick true (.bool true) rfl rfl rfl <| lx_move (.bool true) rfl rfl <| lx_skip rfl <| lx_skip rfl <| lx_pick true (.bool true) rfl rfl rfl <| lx_move (.bool true) rfl rfl <| ?_
        refine lx_skip rfl <| lx_skip rfl <| lx_skip rfl <| lx_skip rfl <| lx_pick true (.bool true) rfl rfl rfl <| lx_nil <| wi_true rfl <| wi_seq <| wi_reg rfl <| lx_move (.int .i64 (if reachOk c d then 0 else 1)) rfl rfl <| lx_neqF rfl rfl rfl (by rw [reachOk_no (by first | omega | (simp only [Int.toNat_natCast]; omega))]; exact fun h => h rfl) <| lx_move (.bool false) rfl rfl <| lx_move (.int .i64 (if reachOk c d then c * d - c - d else 0)) rfl rfl <| lx_neqF rfl rfl rfl (by rw [reachOk_no (by first | omega | (simp only [Int.toNat_natCast]; omega))]; exact fun h => h rfl) <| lx_pick false (.bool false) rfl rfl rfl <| lx_nil <| wi_false rfl <| wi_skip <| wi_reg rfl <| lx_move (.int .i64 c) rfl rfl <| lx_conv ((ur c : Nat) : Int) rfl Try.underlying3 Try.underlying26 rfl (wrap_ur _) <| lx_rem (m := ur c) (n := 200) rfl rfl rfl (by omega) <| lx_conv (((ur c) % 200 : Nat) : Int) rfl Try.underlying26 Try.underlying3 rfl (wrap_i64 (by omega) (by omega)) <| lx_add (((1 + ((ur c) % 200) : Nat) : Int)) rfl rfl rfl (by omega) (by omega) (by omega) <| lx_move (.int .i64 d) rfl rfl <| lx_conv ((ur d : Nat) : Int) rfl Try.underlying3 Try.underlying26 rfl (wrap_ur _) <| lx_rem (m := ur d) (n := 200) rfl rfl rfl (by omega) <| lx_conv (((ur d) % 200 : Nat) : Int) rfl Try.underlying26 Try.underlying3 rfl (wrap_i64 (by omega) (by omega)) <| lx_add (((1 + ((ur d) % 200) : Nat) : Int)) rfl rfl rfl (by omega) (by omega) (by omega) <| lx_assign (.int .i64 ((1 + ((ur c) % 200) : Nat) : Int)) rfl rfl <| lx_assign (.int .i64 ((1 + ((ur d) % 200) : Nat) : Int)) rfl rfl <| lx_nil <| wi_inBlock <| wi_reg rfl <| lx_move (.int .i64 ((k : Nat) : Int)) rfl rfl <| lx_add (((k + 1 : Nat) : Int)) rfl rfl rfl (by omega) (by omega) (by omega) <| lx_assign (.int .i64 ((k + 1 : Nat) : Int)) rfl rfl <| lx_nil <| ?_
        -- L0.2
        refine IH1 _ _ (k + 1, ((1 + ((ur c) % 200) : Nat) : Int), ((1 + ((ur d) % 200) : Nat) : Int)) (agree_ups rfl agree_self) ⟨rfl, rfl, rfl, trivial⟩ ⟨hx0_1, ?_, ?_, ?_⟩ ?_
        · try dsimp only
          omega
        · try dsimp only
          omega
        · try dsimp only
          omega
        · first | omega | (dsimp only; omega)
      · refine lx_pick false (.bool false) rfl rfl rfl <| lx_move (.bool false) rfl rfl <| lx_move (.int .i64 d) rfl rfl <| lx_lssS rfl rfl rfl (fun c4 => ?_) (fun c4 => ?_)
        · refine lx_pick false (.bool true) rfl rfl rfl <| lx_move (.bool true) rfl rfl <| lx_skip rfl <| lx_skip rfl <| lx_pick true (.bool true) rfl rfl rfl <| lx_move (.bool true) rfl rfl <| ?_
          refine lx_skip rfl <| lx_skip rfl <| lx_skip rfl <| lx_skip rfl <| lx_pick true (.bool true) rfl rfl rfl <| lx_nil <| wi_true rfl <| wi_seq <| wi_reg rfl <| lx_move (.int .i64 (if reachOk c d then 0 else 1)) rfl rfl <| lx_neqF rfl rfl rfl (by rw [reachOk_no (by first | omega | (simp only [Int.toNat_natCast]; omega))]; exact fun h => h rfl) <| lx_move (.bool false) rfl rfl <| lx_move (.int .i64 (if reachOk c d then c * d - c - d else 0)) rfl rfl <| lx_neqF rfl rfl rfl (by rw [reachOk_no (by first | omega | (simp only [Int.toNat_natCast]; omega))]; exact fun h => h rfl) <| lx_pick false (.bool false) rfl rfl rfl <| lx_nil <| wi_false rfl <| wi_skip <| wi_reg rfl <| lx_move (.int .i64 c) rfl rfl <| lx_conv ((ur c : Nat) : Int) rfl Try.underlying3 Try.underlying26 rfl (wrap_ur _) <| lx_rem (m := ur c) (n := 200) rfl rfl rfl (by omega) <| lx_conv (((ur c) % 200 : Nat) : Int) rfl Try.underlying26 Try.underlying3 rfl (wrap_i64 (by omega) (by omega)) <| lx_add (((1 + ((ur c) % 200) : Nat) : Int)) rfl rfl rfl (by omega) (by omega) (by omega) <| lx_move (.int .i64 d) rfl rfl <| lx_conv ((ur d : Nat) : Int) rfl Try.underlying3 Try.underlying26 rfl (wrap_ur _) <| lx_rem (m := ur d) (n := 200) rfl rfl rfl (by omega) <| lx_conv (((ur d) % 200 : Nat) : Int) rfl Try.underlying26 Try.underlying3 rfl (wrap_i64 (by omega) (by omega)) <| lx_add (((1 + ((ur d) % 200) : Nat) : Int)) rfl rfl rfl (by omega) (by omega) (by omega) <| lx_assign (.int .i64 ((1 + ((ur c) % 200) : Nat) : Int)) rfl rfl <| lx_assign (.int .i64 ((1 + ((ur d) % 200) : Nat) : Int)) rfl rfl <| lx_nil <| wi_inBlock <| wi_reg rfl <| lx_move (.int .i64 ((k : Nat) : Int)) rfl rfl <| lx_add (((k + 1 : Nat) : Int)) rfl rfl rfl (by omega) (by omega) (by omega) <| lx_assign (.int .i64 ((k + 1 : Nat) : Int)) rfl rfl <| lx_nil <| ?_
          -- L0.3
          refine IH1 _ _ (k + 1, ((1 + ((ur c) % 200) : Nat) : Int), ((1 + ((ur d) % 200) : Nat) : Int)) (agree_ups rfl agree_self) ⟨rfl, rfl, rfl, trivial⟩ ⟨hx0_1, ?_, ?_, ?_⟩ ?_
          · try dsimp only
            omega
          · try dsimp only
            omega
          · try dsimp only
            omega
          · first | omega | (dsimp only; omega)
        · refine lx_pick false (.bool false) rfl rfl rfl <| lx_move (.bool false) rfl rfl <| lx_move (.int .i64 d) rfl rfl <| lx_gtrS rfl rfl rfl (fun c5 => ?_) (fun c5 => ?_)
          · refine lx_pick false (.bool true) rfl rfl rfl <| lx_move (.bool true) rfl rfl <| ?_
            refine lx_skip rfl <| lx_skip rfl <| lx_skip rfl <| lx_skip rfl <| lx_pick true (.bool true) rfl rfl rfl <| lx_nil <| wi_true rfl <| wi_seq <| wi_reg rfl <| lx_move (.int .i64 (if reachOk c d then 0 else 1)) rfl rfl <| lx_neqF rfl rfl rfl (by rw [reachOk_no (by first | omega | (simp only [Int.toNat_natCast]; omega))]; exact fun h => h rfl) <| lx_move (.bool false) rfl rfl <| lx_move (.int .i64 (if reachOk c d then c * d - c - d else 0)) rfl rfl <| lx_neqF rfl rfl rfl (by rw [reachOk_no (by first | omega | (simp only [Int.toNat_natCast]; omega))]; exact fun h => h rfl) <| lx_pick false (.bool false) rfl rfl rfl <| lx_nil <| wi_false rfl <| wi_skip <| wi_reg rfl <| lx_move (.int .i64 c) rfl rfl <| lx_conv ((ur c : Nat) : Int) rfl Try.underlying3 Try.underlying26 rfl (wrap_ur _) <| lx_rem (m := ur c) (n := 200) rfl rfl rfl (by omega) <| lx_conv (((ur c) % 200 : Nat) : Int) rfl Try.underlying26 Try.underlying3 rfl (wrap_i64 (by omega) (by omega)) <| lx_add (((1 + ((ur c) % 200) : Nat) : Int)) rfl rfl rfl (by omega) (by omega) (by omega) <| lx_move (.int .i64 d) rfl rfl <| lx_conv ((ur d : Nat) : Int) rfl Try.underlying3 Try.underlying26 rfl (wrap_ur _) <| lx_rem (m := ur d) (n := 200) rfl rfl rfl (by omega) <| lx_conv (((ur d) % 200 : Nat) : Int) rfl Try.underlying26 Try.underlying3 rfl (wrap_i64 (by omega) (by omega)) <| lx_add (((1 + ((ur d) % 200) : Nat) : Int)) rfl rfl rfl (by omega) (by omega) (by omega) <| lx_assign (.int .i64 ((1 + ((ur c) % 200) : Nat) : Int)) rfl rfl <| lx_assign (.int .i64 ((1 + ((ur d) % 200) : Nat) : Int)) rfl rfl <| lx_nil <| wi_inBlock <| wi_reg rfl <| lx_move (.int .i64 ((k : Nat) : Int)) rfl rfl <| lx_add (((k + 1 : Nat) : Int)) rfl rfl rfl (by omega) (by omega) (by omega) <| lx_assign (.int .i64 ((k + 1 : Nat) : Int)) rfl rfl <| lx_nil <| ?_
            -- L0.4
            refine IH1 _ _ (k + 1, ((1 + ((ur c) % 200) : Nat) : Int), ((1 + ((ur d) % 200) : Nat) : Int)) (agree_ups rfl agree_self) ⟨rfl, rfl, rfl, trivial⟩ ⟨hx0_1, ?_, ?_, ?_⟩ ?_
            · try dsimp only
              omega
            · try dsimp only
              omega
            · try dsimp only
              omega
            · first | omega | (dsimp only; omega)
          · refine lx_pick false (.bool false) rfl rfl rfl <| lx_move (.bool false) rfl rfl <| ?_
            obtain ⟨m, rfl⟩ : ∃ m : Nat, c = ((m : Nat) : Int) := ⟨c.toNat, by omega⟩
            obtain ⟨q, rfl⟩ : ∃ q : Nat, d = ((q : Nat) : Int) := ⟨d.toNat, by omega⟩
            refine lx_move (.int .i64 ((m : Nat) : Int)) rfl rfl <| lx_move (.int .i64 ((q : Nat) : Int)) rfl rfl <| lx_call [.int .i64 ((m : Nat) : Int), .int .i64 ((q : Nat) : Int)] rfl rfl Try.call13 rfl (gcd_spec hh1 m q (by omega) (by omega)) (fun _ _ _ => trivial) ?_
            rintro _ h2 ⟨rfl, rfl⟩
            refine lx_neqS rfl rfl rfl (fun c6 => ?_) (fun c6 => ?_)
            · refine lx_pick false (.bool true) rfl rfl rfl <| lx_nil <| wi_true rfl <| wi_seq <| wi_reg rfl <| lx_move (.int .i64 (if reachOk ((m : Nat) : Int) ((q : Nat) : Int) then 0 else 1)) rfl rfl <| lx_neqF rfl rfl rfl (by rw [reachOk_no (by first | omega | (simp only [Int.toNat_natCast]; omega))]; exact fun h => h rfl) <| lx_move (.bool false) rfl rfl <| lx_move (.int .i64 (if reachOk ((m : Nat) : Int) ((q : Nat) : Int) then ((m : Nat) : Int) * ((q : Nat) : Int) - ((m : Nat) : Int) - ((q : Nat) : Int) else 0)) rfl rfl <| lx_neqF rfl rfl rfl (by rw [reachOk_no (by first | omega | (simp only [Int.toNat_natCast]; omega))]; exact fun h => h rfl) <| lx_pick false (.bool false) rfl rfl rfl <| lx_nil <| wi_false rfl <| wi_skip <| wi_reg rfl <| lx_move (.int .i64 ((m : Nat) : Int)) rfl rfl <| lx_conv ((m : Nat) : Int) rfl Try.underlying3 Try.underlying26 rfl (wrap_u64 (by omega) (by omega)) <| lx_rem (m := m) (n := 200) rfl rfl rfl (by omega) <| lx_conv ((m % 200 : Nat) : Int) rfl Try.underlying26 Try.underlying3 rfl (wrap_i64 (by omega) (by omega)) <| lx_add (((1 + (m % 200) : Nat) : Int)) rfl rfl rfl (by omega) (by omega) (by omega) <| lx_move (.int .i64 ((q : Nat) : Int)) rfl rfl <| lx_conv ((q : Nat) : Int) rfl Try.underlying3 Try.underlying26 rfl (wrap_u64 (by omega) (by omega)) <| lx_rem (m := q) (n := 200) rfl rfl rfl (by omega) <| lx_conv ((q % 200 : Nat) : Int) rfl Try.underlying26 Try.underlying3 rfl (wrap_i64 (by omega) (by omega)) <| lx_add (((1 + (q % 200) : Nat) : Int)) rfl rfl rfl (by omega) (by omega) (by omega) <| lx_assign (.int .i64 ((1 + (m % 200) : Nat) : Int)) rfl rfl <| lx_assign (.int .i64 ((1 + (q % 200) : Nat) : Int)) rfl rfl <| lx_nil <| wi_inBlock <| wi_reg rfl <| lx_move (.int .i64 ((k : Nat) : Int)) rfl rfl <| lx_add (((k + 1 : Nat) : Int)) rfl rfl rfl (by omega) (by omega) (by omega) <| lx_assign (.int .i64 ((k + 1 : Nat) : Int)) rfl rfl <| lx_nil <| ?_
              -- L0.5
              refine IH1 _ _ (k + 1, ((1 + (m % 200) : Nat) : Int), ((1 + (q % 200) : Nat) : Int)) (agree_ups rfl agree_self) ⟨rfl, rfl, rfl, trivial⟩ ⟨hx0_1, ?_, ?_, ?_⟩ ?_
              · try dsimp only
                omega
              · try dsimp only
                omega
              · try dsimp only
                omega
              · first | omega | (dsimp only; omega)
            · refine lx_pick false (.bool false) rfl rfl rfl <| lx_nil <| wi_false rfl <| wi_seq <| wi_reg rfl <| ?_
              have hok : reachOk (m : Int) (q : Int) = true := reachOk_yes (by simp only [Int.toNat_natCast]; omega)
              have hmq : m * q ≤ 1000 * 1000 := Nat.mul_le_mul (by omega) (by omega)
              have hmi : ((m : Int)) * ((q : Int)) = ((m * q : Nat) : Int) := (Int.natCast_mul m q).symm
              refine lx_move (.int .i64 (if reachOk ((m : Nat) : Int) ((q : Nat) : Int) then 0 else 1)) rfl rfl <| lx_neqF rfl rfl rfl (by rw [hok]; decide) <| lx_move (.bool false) rfl rfl <| lx_move (.int .i64 (if reachOk ((m : Nat) : Int) ((q : Nat) : Int) then ((m : Nat) : Int) * ((q : Nat) : Int) - ((m : Nat) : Int) - ((q : Nat) : Int) else 0)) rfl rfl <| lx_move (.int .i64 ((m : Nat) : Int)) rfl rfl <| lx_move (.int .i64 ((q : Nat) : Int)) rfl rfl <| lx_call [.int .i64 ((m : Nat) : Int), .int .i64 ((q : Nat) : Int)] rfl rfl Try.call14 rfl (rreach_spec hh1 m q (by omega) (by omega) (by omega) (by omega)) (fun _ _ _ => trivial) ?_
              rintro _ h3 ⟨o_1, rfl, ho_1, hx1⟩
              have hx0_2 := hx0_1.trans2 hx1 hx0_1.size
              have hsy := sylvester (by omega) (by omega) (by omega) ho_1
              refine lx_neqF rfl rfl rfl (by rw [hok, if_pos rfl, hmi]; omega) <| lx_pick false (.bool false) rfl rfl rfl <| lx_move (.bool false) rfl rfl <| lx_move (.int .i64 (if reachOk ((m : Nat) : Int) ((q : Nat) : Int) then ((m : Nat) : Int) * ((q : Nat) : Int) - ((m : Nat) : Int) - ((q : Nat) : Int) else 0)) rfl rfl <| lx_move (.int .i64 ((m : Nat) : Int)) rfl rfl <| lx_move (.int .i64 ((q : Nat) : Int)) rfl rfl <| lx_mul (((m * q : Nat) : Int)) rfl rfl rfl (by omega) (by omega) (by omega) <| lx_move (.int .i64 ((m : Nat) : Int)) rfl rfl <| lx_sub ((((m * q : Nat) : Int)) - (((m : Nat) : Int))) rfl rfl rfl (by omega) (by omega) (by omega) <| lx_move (.int .i64 ((q : Nat) : Int)) rfl rfl <| lx_sub (((((m * q : Nat) : Int)) - (((m : Nat) : Int))) - (((q : Nat) : Int))) rfl rfl rfl (by omega) (by omega) (by omega) <| lx_neqF rfl rfl rfl (by rw [hok, if_pos rfl, hmi]; omega) <| lx_pick false (.bool false) rfl rfl rfl <| lx_nil <| wi_false rfl <| wi_skip <| wi_reg rfl <| lx_move (.int .i64 ((m : Nat) : Int)) rfl rfl <| lx_conv ((m : Nat) : Int) rfl Try.underlying3 Try.underlying26 rfl (wrap_u64 (by omega) (by omega)) <| lx_rem (m := m) (n := 200) rfl rfl rfl (by omega) <| lx_conv ((m % 200 : Nat) : Int) rfl Try.underlying26 Try.underlying3 rfl (wrap_i64 (by omega) (by omega)) <| lx_add (((1 + (m % 200) : Nat) : Int)) rfl rfl rfl (by omega) (by omega) (by omega) <| lx_move (.int .i64 ((q : Nat) : Int)) rfl rfl <| lx_conv ((q : Nat) : Int) rfl Try.underlying3 Try.underlying26 rfl (wrap_u64 (by omega) (by omega)) <| lx_rem (m := q) (n := 200) rfl rfl rfl (by omega) <| lx_conv ((q % 200 : Nat) : Int) rfl Try.underlying26 Try.underlying3 rfl (wrap_i64 (by omega) (by omega)) <| lx_add (((1 + (q % 200) : Nat) : Int)) rfl rfl rfl (by omega) (by omega) (by omega) <| lx_assign (.int .i64 ((1 + (m % 200) : Nat) : Int)) rfl rfl <| lx_assign (.int .i64 ((1 + (q % 200) : Nat) : Int)) rfl rfl <| lx_nil <| wi_inBlock <| wi_reg rfl <| lx_move (.int .i64 ((k : Nat) : Int)) rfl rfl <| lx_add (((k + 1 : Nat) : Int)) rfl rfl rfl (by omega) (by omega) (by omega) <| lx_assign (.int .i64 ((k + 1 : Nat) : Int)) rfl rfl <| lx_nil <| ?_
              -- L0.6
              refine IH1 _ _ (k + 1, ((1 + (m % 200) : Nat) : Int), ((1 + (q % 200) : Nat) : Int)) (agree_ups rfl agree_self) ⟨rfl, rfl, rfl, trivial⟩ ⟨hx0_2, ?_, ?_, ?_⟩ ?_
              · try dsimp only
                omega
              · try dsimp only
                omega
              · try dsimp only
                omega
              · first | omega | (dsimp only; omega)
  · refine lx_nil <| wi_false rfl <| wi_exit rfl <| wi_seq <| wi_reg rfl <| lx_call [] rfl rfl Try.call15 rfl (awake_spec hh1 ) (fun _ _ _ => trivial) ?_
    rintro _ h4 ⟨rfl, hx2⟩
    have hx0_3 := hx0_1.trans2 hx2 hx0_1.size
    refine lx_assign (.bool true) rfl rfl <| lx_nil <| ?_
    -- R1
    refine wi_ret ⟨.bool true, (res_one rfl rfl), ⟨rfl, hx0_3⟩⟩

end Go.Proofs.Ytjfickfgpkejpaa
