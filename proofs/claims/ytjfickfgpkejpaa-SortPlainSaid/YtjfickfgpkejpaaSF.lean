/-
  Walk: SortShell.
-/
import Derived.Test.YtjfickfgpkejpaaSE
set_option linter.unusedSimpArgs false
set_option linter.unusedVariables false
namespace Go.Proofs.Ytjfickfgpkejpaa
open Go Go.X

theorem by_ok {xs ys : List Int} {a n : Nat} (h : (chkRow xs [((a : Nat) : Int)] ≠ 0 ∧ ys = [] ∧ n = 0) ∨ (chkRow xs [((a : Nat) : Int)] = 0 ∧ GS ((a : Nat) : Int).toNat n xs ys ∧ SortedBy ((a : Nat) : Int).toNat ys)) (hl : xs.length ≤ 200) (ha : 1 ≤ a) :
    chkRow xs [((a : Nat) : Int)] = 0 ∧ GS a n xs ys ∧ SortedBy a ys ∧ ys.length = xs.length := by
  have e : chkRow xs [((a : Nat) : Int)] = 0 := chk_single hl (by omega)
  rcases h with ⟨h, _⟩ | ⟨_, h1, h2⟩
  · exact absurd e h
  · rw [Int.toNat_natCast] at h1 h2
    exact ⟨e, h1, h2, GS_length h1⟩
theorem so_ok {xs : List Int} {a p : Nat} {ok : Bool} (h : (chkRow xs [((a : Nat) : Int)] ≠ 0 ∧ p = 0 ∧ ok = false) ∨ (chkRow xs [((a : Nat) : Int)] = 0 ∧ sortedR ((a : Nat) : Int).toNat xs p ok)) (hl : xs.length ≤ 200) (ha : 1 ≤ a) (hs : SortedBy a xs) :
    ok = true ∧ chkRow xs [((a : Nat) : Int)] = 0 := by
  have e : chkRow xs [((a : Nat) : Int)] = 0 := chk_single hl (by omega)
  rcases h with ⟨h, _⟩ | ⟨_, h1⟩
  · exact absurd e h
  · rw [Int.toNat_natCast] at h1
    exact ⟨sortedR_true h1 hs, e⟩
theorem gt3_le {a b c m : Int} (h1 : a ≤ m) (h2 : b ≤ m) (h3 : c ≤ m) : ∀ i, i < [a, b, c].length → gt [a, b, c] i ≤ m := by
  intro i hi
  have : i = 0 ∨ i = 1 ∨ i = 2 := by simp at hi; omega
  rcases this with rfl | rfl | rfl <;> assumption
theorem sh_ok {xs ys : List Int} {a b n : Nat} (h : (chkRow xs [((a : Nat) : Int), ((b : Nat) : Int), 1] ≠ 0 ∧ ys = [] ∧ n = 0) ∨ (chkRow xs [((a : Nat) : Int), ((b : Nat) : Int), 1] = 0 ∧ ShellTo [((a : Nat) : Int), ((b : Nat) : Int), 1].length [((a : Nat) : Int), ((b : Nat) : Int), 1] xs ys n)) (hl : xs.length ≤ 200) (ha : 1 ≤ a) (hb : 1 ≤ b) :
    chkRow xs [((a : Nat) : Int), ((b : Nat) : Int), 1] = 0 ∧ inOrd ys = true ∧ ys.length = xs.length := by
  have e : chkRow xs [((a : Nat) : Int), ((b : Nat) : Int), 1] = 0 := by
    unfold chkRow
    rw [if_neg (by simp; omega), if_neg (by simp; omega)]
  rcases h with ⟨h, _⟩ | ⟨_, h1⟩
  · exact absurd e h
  · refine ⟨e, ?_, ShellTo_length h1⟩
    obtain ⟨zs, c, d, _, _, h4, _⟩ := h1
    exact sorted_one h4
theorem reach_ge {a b : Nat} (ha : 1 ≤ a) (hb : 1 ≤ b) : a + b ≤ a * b + 1 := by
  obtain ⟨c, rfl⟩ : ∃ c, a = c + 1 := ⟨a - 1, by omega⟩
  obtain ⟨d, rfl⟩ : ∃ d, b = d + 1 := ⟨b - 1, by omega⟩
  have e : (c + 1) * (d + 1) = c * d + c + d + 1 := by rw [Nat.add_mul, Nat.mul_add]; omega
  omega

set_option maxRecDepth 10000 in
theorem sortShell_spec (h : Heap) (vv : Value) (xs : List Int) (hh : Int) (kk : Int) (hr_vv : RdE encI h vv xs) (hp1 : xs.length ≤ 9223372036854775807) (hp2 : -9223372036854775808 ≤ hh) (hp3 : hh ≤ 9223372036854775807) (hp4 : -9223372036854775808 ≤ kk) (hp5 : kk ≤ 9223372036854775807) : Fx Try.prog 4 [vv, .int .i64 hh, .int .i64 kk] h (fun v h' => v = .bool true ∧ Ext h.size h h') := by
  refine fx_intro (n := 168) [(0, vv), (1, .int .i64 hh), (2, .int .i64 kk)] Try.func4 rfl rfl (by simp) ⟨rfl, rfl, rfl, trivial⟩ fun g0 => ?_
  refine wi_seq <| wi_reg rfl <| lx_assign (.bool false) rfl rfl <| lx_nil <| wi_seq <| wi_reg rfl <| lx_assign (.slice none 0 0) rfl rfl <| lx_nil <| wi_seq <| wi_reg rfl <| lx_move (.slice none 0 0) rfl rfl <| lx_move (vv) rfl rfl <| lx_move (vv) rfl rfl <| lx_len rfl Try.underlying29 hr_vv rfl <| lx_min (((min xs.length 60 : Nat) : Int)) rfl rfl rfl (by omega) <| lx_slice (E := encI) 0 (min xs.length 60) rfl eT29 rfl rfl ⟨_, rfl⟩ hr_vv (by omega) (by omega) fun v1 hs1 hso1 => ?_
  have hr1 := sl_rd hr_vv hs1 (by omega)
  refine lx_append (E := encI) (B := h.size) (xs := []) (ys := xs.take (min xs.length 60)) rfl rfl eT29 (owE_nil encI _ h.size 2) hr1 rfl rfl (by first | omega | (simp only [List.length_nil, List.length_take]; omega)) (by first | omega | (simp only [List.length_nil, List.length_take]; omega)) (Nat.le_refl h.size) (fun _ _ => trivial) fun v2 h1 ho1 hc1 hg1 => ?_
  have hx0_1 := (owE_nil encI _ h.size 2).ext hc1 (Nat.le_refl h.size)
  rw [List.nil_append] at ho1
  refine lx_assign (v2) rfl rfl <| lx_nil <| wi_seq <| wi_reg rfl <| ?_
  obtain ⟨row, hrow⟩ : ∃ x, x = xs.take (min xs.length 60) := ⟨_, rfl⟩
  rw [← hrow] at ho1
  have hrl : row.length ≤ 60 := by rw [hrow]; simp only [List.length_take]; omega
  refine lx_move (.int .i64 hh) rfl rfl <| lx_conv ((ur hh : Nat) : Int) rfl Try.underlying3 Try.underlying26 rfl (wrap_ur _) <| lx_rem (m := ur hh) (n := 9) rfl rfl rfl (by omega) <| lx_conv (((ur hh) % 9 : Nat) : Int) rfl Try.underlying26 Try.underlying3 rfl (wrap_i64 (by omega) (by omega)) <| lx_add (((1 + ((ur hh) % 9) : Nat) : Int)) rfl rfl rfl (by omega) (by omega) (by omega) <| lx_move (.int .i64 kk) rfl rfl <| lx_conv ((ur kk : Nat) : Int) rfl Try.underlying3 Try.underlying26 rfl (wrap_ur _) <| lx_rem (m := ur kk) (n := 9) rfl rfl rfl (by omega) <| lx_conv (((ur kk) % 9 : Nat) : Int) rfl Try.underlying26 Try.underlying3 rfl (wrap_i64 (by omega) (by omega)) <| lx_add (((1 + ((ur kk) % 9) : Nat) : Int)) rfl rfl rfl (by omega) (by omega) (by omega) <| lx_assign (.int .i64 ((1 + ((ur hh) % 9) : Nat) : Int)) rfl rfl <| lx_assign (.int .i64 ((1 + ((ur kk) % 9) : Nat) : Int)) rfl rfl <| lx_nil <| wi_seq <| wi_reg rfl <| ?_
  generalize ha : 1 + ((ur hh) % 9) = a
  have ha1 : 1 ≤ a ∧ a ≤ 9 := by omega
  generalize hb : 1 + ((ur kk) % 9) = b
  have hb1 : 1 ≤ b ∧ b ≤ 9 := by omega
  refine lx_move (v2) rfl rfl <| lx_move (.int .i64 ((a : Nat) : Int)) rfl rfl <| lx_call [v2, .int .i64 ((a : Nat) : Int)] rfl rfl Try.call16 rfl (sortBy_spec h1 v2 row (((a : Nat) : Int)) ho1.rd (by omega) (by omega)) (fun _ _ _ => trivial) ?_
  rintro _ h2 ⟨v3, ys_1, n_1, rfl, ho2, hsh_1, hnb_1, hx1⟩
  have hx0_2 := hx0_1.trans2 hx1 hx0_1.size
  have ho3 := ho1.extS hx1
  have ho4 := ho2.base hx0_1.size
  refine lx_move (.tuple #[v3, .int .i64 ((n_1 : Nat) : Int), .int .i64 (chkRow row [(((a : Nat) : Int))])]) rfl rfl <| lx_extract (v3) rfl rfl rfl <| lx_extract (.int .i64 ((n_1 : Nat) : Int)) rfl rfl rfl <| lx_extract (.int .i64 (chkRow row [(((a : Nat) : Int))])) rfl rfl rfl <| lx_assign (v3) rfl rfl <| lx_assign (.int .i64 ((n_1 : Nat) : Int)) rfl rfl <| lx_assign (.int .i64 (chkRow row [(((a : Nat) : Int))])) rfl rfl <| lx_nil <| wi_seq <| wi_reg rfl <| ?_
  obtain ⟨hk1, hg1, hs1, hl1⟩ := by_ok hsh_1 (by omega) (by omega)
  refine lx_move (v3) rfl rfl <| lx_move (.int .i64 ((b : Nat) : Int)) rfl rfl <| lx_call [v3, .int .i64 ((b : Nat) : Int)] rfl rfl Try.call16 rfl (sortBy_spec h2 v3 ys_1 (((b : Nat) : Int)) ho4.rd (by omega) (by omega)) (fun _ _ _ => trivial) ?_
  rintro _ h3 ⟨v4, ys_2, n_2, rfl, ho5, hsh_2, hnb_2, hx2⟩
  have hx0_3 := hx0_2.trans2 hx2 hx0_2.size
  have ho6 := ho3.extS hx2
  have ho7 := ho4.extS hx2
  have ho8 := ho5.base hx0_2.size
  refine lx_move (.tuple #[v4, .int .i64 ((n_2 : Nat) : Int), .int .i64 (chkRow ys_1 [(((b : Nat) : Int))])]) rfl rfl <| lx_extract (v4) rfl rfl rfl <| lx_extract (.int .i64 ((n_2 : Nat) : Int)) rfl rfl rfl <| lx_extract (.int .i64 (chkRow ys_1 [(((b : Nat) : Int))])) rfl rfl rfl <| lx_assign (v4) rfl rfl <| lx_assign (.int .i64 ((n_2 : Nat) : Int)) rfl rfl <| lx_assign (.int .i64 (chkRow ys_1 [(((b : Nat) : Int))])) rfl rfl <| lx_nil <| wi_seq <| wi_reg rfl <| ?_
  obtain ⟨hk2, hg2, hs2, hl2⟩ := by_ok hsh_2 (by omega) (by omega)
  have hs3 := gale_karp hs1 hg2 hs2
  refine lx_move (v4) rfl rfl <| lx_move (.int .i64 ((a : Nat) : Int)) rfl rfl <| lx_call [v4, .int .i64 ((a : Nat) : Int)] rfl rfl Try.call17 rfl (sorted_spec h3 v4 ys_2 (((a : Nat) : Int)) ho8.rd (by omega) (by omega)) (fun _ _ _ => trivial) ?_
  rintro _ h4 ⟨p_1, ok_1, rfl, hso_1, hpb_1, hx3⟩
  have hx0_4 := hx0_3.trans2 hx3 hx0_3.size
  have ho9 := ho6.extS hx3
  have ho10 := ho7.extS hx3
  have ho11 := ho8.extS hx3
  refine lx_move (.tuple #[.int .i64 ((p_1 : Nat) : Int), .bool ok_1, .int .i64 (chkRow ys_2 [(((a : Nat) : Int))])]) rfl rfl <| lx_extract (.int .i64 ((p_1 : Nat) : Int)) rfl rfl rfl <| lx_extract (.bool ok_1) rfl rfl rfl <| lx_extract (.int .i64 (chkRow ys_2 [(((a : Nat) : Int))])) rfl rfl rfl <| lx_assign (.int .i64 ((p_1 : Nat) : Int)) rfl rfl <| lx_assign (.bool ok_1) rfl rfl <| lx_assign (.int .i64 (chkRow ys_2 [(((a : Nat) : Int))])) rfl rfl <| lx_nil <| wi_seq <| wi_reg rfl <| lx_move (v4) rfl rfl <| lx_move (.int .i64 ((b : Nat) : Int)) rfl rfl <| lx_call [v4, .int .i64 ((b : Nat) : Int)] rfl rfl Try.call17 rfl (sorted_spec h4 v4 ys_2 (((b : Nat) : Int)) ho11.rd (by omega) (by omega)) (fun _ _ _ => trivial) ?_
  rintro _ h5 ⟨p_2, ok_2, rfl, hso_2, hpb_2, hx4⟩
  have hx0_5 := hx0_4.trans2 hx4 hx0_4.size
  have ho12 := ho9.extS hx4
  have ho13 := ho10.extS hx4
  have ho14 := ho11.extS hx4
  refine lx_move (.tuple #[.int .i64 ((p_2 : Nat) : Int), .bool ok_2, .int .i64 (chkRow ys_2 [(((b : Nat) : Int))])]) rfl rfl <| lx_extract (.int .i64 ((p_2 : Nat) : Int)) rfl rfl rfl <| lx_extract (.bool ok_2) rfl rfl rfl <| lx_extract (.int .i64 (chkRow ys_2 [(((b : Nat) : Int))])) rfl rfl rfl <| lx_assign (.int .i64 ((p_2 : Nat) : Int)) rfl rfl <| lx_assign (.bool ok_2) rfl rfl <| lx_assign (.int .i64 (chkRow ys_2 [(((b : Nat) : Int))])) rfl rfl <| lx_nil <| wi_seq <| wi_reg rfl <| lx_move (v2) rfl rfl <| lx_move (.int .i64 ((a : Nat) : Int)) rfl rfl <| lx_move (.int .i64 ((b : Nat) : Int)) rfl rfl <| lx_buildSlice (E := encI) h5.size [((a : Nat) : Int), ((b : Nat) : Int), (1 : Int)] [.int .i64 ((a : Nat) : Int), .int .i64 ((b : Nat) : Int), .int .i64 1] rfl rfl eT35 rfl rfl rfl rfl (Nat.le_refl _) (fun _ _ _ => trivial) fun v5 h6 ho15 hx5 hvb1 hsz1 => ?_
  have hx0_6 := hx0_5.trans2 hx5 hx0_5.size
  have ho16 := ho12.extS hx5
  have ho17 := ho13.extS hx5
  have ho18 := ho14.extS hx5
  have ho19 := ho15.base hx0_5.size
  refine lx_call [v2, v5] rfl rfl Try.call18 rfl (shell_spec h6 v2 row v5 ([((a : Nat) : Int), ((b : Nat) : Int), (1 : Int)]) ho16.rd ho19.rd (by omega) (by simp) (gt3_le (by omega) (by omega) (by omega))) (fun _ _ _ => trivial) ?_
  rintro _ h7 ⟨v6, ys_3, n_3, rfl, ho20, hsh_3, hnb_3, hx6⟩
  have hx0_7 := hx0_6.trans2 hx6 hx0_6.size
  have ho21 := ho16.extS hx6
  have ho22 := ho17.extS hx6
  have ho23 := ho18.extS hx6
  have ho24 := ho19.extS hx6
  have ho25 := ho20.base hx0_6.size
  refine lx_move (.tuple #[v6, .int .i64 ((n_3 : Nat) : Int), .int .i64 (chkRow row ([((a : Nat) : Int), ((b : Nat) : Int), (1 : Int)]))]) rfl rfl <| lx_extract (v6) rfl rfl rfl <| lx_extract (.int .i64 ((n_3 : Nat) : Int)) rfl rfl rfl <| lx_extract (.int .i64 (chkRow row ([((a : Nat) : Int), ((b : Nat) : Int), (1 : Int)]))) rfl rfl rfl <| lx_assign (v6) rfl rfl <| lx_assign (.int .i64 ((n_3 : Nat) : Int)) rfl rfl <| lx_assign (.int .i64 (chkRow row ([((a : Nat) : Int), ((b : Nat) : Int), (1 : Int)]))) rfl rfl <| lx_nil <| wi_seq <| wi_seq <| wi_reg rfl <| ?_
  obtain ⟨rfl, hk3⟩ := so_ok hso_1 (by omega) (by omega) hs3
  obtain ⟨rfl, hk4⟩ := so_ok hso_2 (by omega) (by omega) hs2
  obtain ⟨hk5, hin, hl5⟩ := sh_ok hsh_3 (by omega) (by omega) (by omega)
  refine lx_move (.int .i64 (chkRow row [(((a : Nat) : Int))])) rfl rfl <| lx_neqF rfl rfl rfl (fun h => h hk1) <| lx_move (.bool false) rfl rfl <| lx_move (.int .i64 (chkRow ys_1 [(((b : Nat) : Int))])) rfl rfl <| lx_neqF rfl rfl rfl (fun h => h hk2) <| lx_pick false (.bool false) rfl rfl rfl <| lx_move (.bool false) rfl rfl <| lx_move (.int .i64 (chkRow ys_2 [(((a : Nat) : Int))])) rfl rfl <| lx_neqF rfl rfl rfl (fun h => h hk3) <| lx_pick false (.bool false) rfl rfl rfl <| lx_move (.bool false) rfl rfl <| lx_move (.int .i64 (chkRow ys_2 [(((b : Nat) : Int))])) rfl rfl <| lx_neqF rfl rfl rfl (fun h => h hk4) <| lx_pick false (.bool false) rfl rfl rfl <| lx_move (.bool false) rfl rfl <| lx_move (.int .i64 (chkRow row ([((a : Nat) : Int), ((b : Nat) : Int), (1 : Int)]))) rfl rfl <| lx_neqF rfl rfl rfl (fun h => h hk5) <| lx_pick false (.bool false) rfl rfl rfl <| lx_move (.bool false) rfl rfl <| lx_move (.bool true) rfl rfl <| lx_notB false rfl rfl rfl <| lx_pick false (.bool false) rfl rfl rfl <| lx_move (.bool false) rfl rfl <| lx_move (.bool true) rfl rfl <| lx_notB false rfl rfl rfl <| lx_pick false (.bool false) rfl rfl rfl <| lx_move (.bool false) rfl rfl <| lx_move (v6) rfl rfl <| lx_call [v6] rfl rfl Try.call19 rfl (inOrder_spec h7 v6 ys_3 ho25.rd (by omega)) (fun _ _ _ => trivial) ?_
  rintro _ h8 ⟨rfl, rfl⟩
  rw [hin]
  refine lx_notB false rfl rfl rfl <| lx_pick false (.bool false) rfl rfl rfl <| lx_move (.bool false) rfl rfl <| lx_move (v6) rfl rfl <| lx_len rfl Try.underlying29 ho25.rd rfl <| lx_move (v2) rfl rfl <| lx_len rfl Try.underlying29 ho21.rd rfl <| lx_neqF rfl rfl rfl (by omega) <| lx_pick false (.bool false) rfl rfl rfl <| lx_move (.bool false) rfl rfl <| lx_move (.int .i64 ((n_3 : Nat) : Int)) rfl rfl <| lx_lssF rfl rfl rfl (by omega) <| lx_pick false (.bool false) rfl rfl rfl <| lx_nil <| wi_false rfl <| wi_skip <| wi_seq <| wi_seq <| wi_reg rfl <| lx_move (.int .i64 ((a : Nat) : Int)) rfl rfl <| lx_move (.int .i64 ((b : Nat) : Int)) rfl rfl <| lx_call [.int .i64 ((a : Nat) : Int), .int .i64 ((b : Nat) : Int)] rfl rfl Try.call13 rfl (gcd_spec h7 a b (by omega) (by omega)) (fun _ _ _ => trivial) ?_
  rintro _ h9 ⟨rfl, rfl⟩
  refine lx_eqlS rfl rfl rfl (fun c1 => ?_) (fun c1 => ?_)
  · refine lx_nil <| wi_true rfl <| wi_seq <| wi_reg rfl <| lx_move (.int .i64 ((a : Nat) : Int)) rfl rfl <| lx_move (.int .i64 ((b : Nat) : Int)) rfl rfl <| lx_call [.int .i64 ((a : Nat) : Int), .int .i64 ((b : Nat) : Int)] rfl rfl Try.call12 rfl (reach_spec h7 (((a : Nat) : Int)) (((b : Nat) : Int)) ) (fun _ _ _ => trivial) ?_
    rintro _ h10 ⟨rfl, rfl⟩
    refine lx_move (.tuple #[.int .i64 (if reachOk (((a : Nat) : Int)) (((b : Nat) : Int)) then (((a : Nat) : Int)) * (((b : Nat) : Int)) - (((a : Nat) : Int)) - (((b : Nat) : Int)) else 0), .int .i64 (if reachOk (((a : Nat) : Int)) (((b : Nat) : Int)) then 0 else 1)]) rfl rfl <| lx_extract (.int .i64 (if reachOk (((a : Nat) : Int)) (((b : Nat) : Int)) then (((a : Nat) : Int)) * (((b : Nat) : Int)) - (((a : Nat) : Int)) - (((b : Nat) : Int)) else 0)) rfl rfl rfl <| lx_extract (.int .i64 (if reachOk (((a : Nat) : Int)) (((b : Nat) : Int)) then 0 else 1)) rfl rfl rfl <| lx_assign (.int .i64 (if reachOk (((a : Nat) : Int)) (((b : Nat) : Int)) then (((a : Nat) : Int)) * (((b : Nat) : Int)) - (((a : Nat) : Int)) - (((b : Nat) : Int)) else 0)) rfl rfl <| lx_assign (.int .i64 (if reachOk (((a : Nat) : Int)) (((b : Nat) : Int)) then 0 else 1)) rfl rfl <| lx_nil <| wi_seq <| wi_seq <| wi_reg rfl <| ?_
    have hok : reachOk (a : Int) (b : Int) = true := reachOk_yes (by simp only [Int.toNat_natCast]; omega)
    have hmi : ((a : Int)) * ((b : Int)) = ((a * b : Nat) : Int) := (Int.natCast_mul a b).symm
    have hmb : a * b ≤ 9 * 9 := Nat.mul_le_mul (by omega) (by omega)
    have hge := reach_ge ha1.1 hb1.1
    obtain ⟨far, hfar⟩ : ∃ far : Int, far = (if reachOk (a : Int) (b : Int) then (a : Int) * (b : Int) - (a : Int) - (b : Int) else 0) := ⟨_, rfl⟩
    rw [← hfar]
    rw [hok, if_pos rfl, hmi] at hfar
    obtain ⟨f, hf⟩ : ∃ f : Nat, far + 1 = (f : Int) := ⟨(far + 1).toNat, by omega⟩
    refine lx_move (.int .i64 (if reachOk (((a : Nat) : Int)) (((b : Nat) : Int)) then 0 else 1)) rfl rfl <| lx_neqF rfl rfl rfl (by rw [hok]; decide) <| lx_nil <| wi_false rfl <| wi_skip <| wi_seq <| wi_reg rfl <| lx_assign (.int .i64 0) rfl rfl <| lx_nil <| wi_block <| ?_
    refine wi_loop (σ := Nat) (rngB 137 167 [6, 27, 28]) (fun (p : Nat) => [(27, .int .i64 ((p : Nat) : Int))]) (fun (p : Nat) (hh : Heap) => h7 = hh ∧ (p ≤ row.length)) (fun (p : Nat) => row.length - p) 0 ⟨rfl, trivial⟩ ⟨rfl, ?_⟩ ?_
    · try dsimp only
      omega
    rintro g1 p hh1 ⟨rfl, hp⟩ IH1
    refine wi_seq <| wi_seq <| wi_reg rfl <| lx_move (.int .i64 ((p : Nat) : Int)) rfl rfl <| lx_move (v4) rfl rfl <| lx_len rfl Try.underlying29 ho23.rd rfl <| lx_lssS rfl rfl rfl (fun c2 => ?_) (fun c2 => ?_)
    · refine lx_nil <| wi_true rfl <| wi_skip <| wi_seq <| wi_block <| wi_seq <| wi_reg rfl <| lx_move (.int .i64 ((p : Nat) : Int)) rfl rfl <| lx_move (.int .i64 far) rfl rfl <| lx_add ((((p : Nat) : Int)) + far) rfl rfl rfl (by omega) (by omega) (by omega) <| lx_add (((p + f : Nat) : Int)) rfl rfl rfl (by omega) (by omega) (by omega) <| lx_assign (.int .i64 ((p + f : Nat) : Int)) rfl rfl <| lx_nil <| wi_block <| ?_
      refine wi_loop (σ := Nat) (rngB 147 167 [6, 28]) (fun (q : Nat) => [(28, .int .i64 ((q : Nat) : Int))]) (fun (q : Nat) (hh : Heap) => h7 = hh ∧ (p + f ≤ q)) (fun (q : Nat) => row.length - q) (p + f) ⟨rfl, trivial⟩ ⟨rfl, ?_⟩ ?_
      · try dsimp only
        omega
      rintro g2 q hh2 ⟨rfl, hq⟩ IH2
      refine wi_seq <| wi_seq <| wi_reg rfl <| lx_move (.int .i64 ((q : Nat) : Int)) rfl rfl <| lx_move (v4) rfl rfl <| lx_len rfl Try.underlying29 ho23.rd rfl <| lx_lssS rfl rfl rfl (fun c3 => ?_) (fun c3 => ?_)
      · refine lx_nil <| wi_true rfl <| wi_skip <| wi_seq <| wi_block <| wi_seq <| wi_draw mo rfl (by decide +kernel) <| lx_move (.int .i64 ((q : Nat) : Int)) rfl rfl <| lx_move (.int .i64 ((p : Nat) : Int)) rfl rfl <| lx_gtrS rfl rfl rfl (fun c4 => ?_) (fun c4 => ?_)
        · refine lx_move (.bool true) rfl rfl <| lx_move (v4) rfl rfl <| lx_move (.int .i64 ((p : Nat) : Int)) rfl rfl <| lx_ix (i := p) rfl eT29 ho23.rd rfl rfl (by first | omega | (simp only [List.length_set, List.length_append, List.length_cons, List.length_nil, List.length_replicate, List.length_take, swp_length, exch_length]; omega)) <| lx_ld (i := p) (j := 0) (.int .i64 (gt ys_2 p)) rfl rfl fl2 ho23.rd (by first | omega | (simp only [List.length_set, List.length_append, List.length_cons, List.length_nil, List.length_replicate, List.length_take, swp_length, exch_length]; omega)) rfl rfl <| lx_move (v4) rfl rfl <| lx_move (.int .i64 ((q : Nat) : Int)) rfl rfl <| lx_ix (i := q) rfl eT29 ho23.rd rfl rfl (by first | omega | (simp only [List.length_set, List.length_append, List.length_cons, List.length_nil, List.length_replicate, List.length_take, swp_length, exch_length]; omega)) <| lx_ld (i := q) (j := 0) (.int .i64 (gt ys_2 q)) rfl rfl fl2 ho23.rd (by first | omega | (simp only [List.length_set, List.length_append, List.length_cons, List.length_nil, List.length_replicate, List.length_take, swp_length, exch_length]; omega)) rfl rfl <| lx_gtrF rfl rfl rfl (by have := sorted_far (p := p) (q := q) ha1.1 (by omega) hs3 hs2 hfar (by omega) (by omega) (by omega); omega) <| lx_pick true (.bool false) rfl rfl rfl <| lx_nil <| wi_false rfl <| wi_skip <| wi_inBlock <| wi_reg rfl <| lx_move (.int .i64 ((q : Nat) : Int)) rfl rfl <| lx_add (((q + 1 : Nat) : Int)) rfl rfl rfl (by omega) (by omega) (by omega) <| lx_assign (.int .i64 ((q + 1 : Nat) : Int)) rfl rfl <| lx_nil <| ?_
          -- L2.1
          refine IH2 _ _ (q + 1) (agree_ups rfl agree_self) ⟨rfl, trivial⟩ ⟨rfl, ?_⟩ ?_
          · try dsimp only
            omega
          · first | omega | (dsimp only; omega)
        · refine lx_move (.bool false) rfl rfl <| lx_skip rfl <| lx_skip rfl <| lx_skip rfl <| lx_skip rfl <| lx_skip rfl <| lx_skip rfl <| lx_skip rfl <| lx_skip rfl <| lx_skip rfl <| lx_pick false (.bool false) rfl rfl rfl <| lx_nil <| wi_false rfl <| wi_skip <| wi_inBlock <| wi_reg rfl <| lx_move (.int .i64 ((q : Nat) : Int)) rfl rfl <| lx_add (((q + 1 : Nat) : Int)) rfl rfl rfl (by omega) (by omega) (by omega) <| lx_assign (.int .i64 ((q + 1 : Nat) : Int)) rfl rfl <| lx_nil <| ?_
          -- L2.2
          refine IH2 _ _ (q + 1) (agree_ups rfl agree_self) ⟨rfl, trivial⟩ ⟨rfl, ?_⟩ ?_
          · try dsimp only
            omega
          · first | omega | (dsimp only; omega)
      · refine lx_nil <| wi_false rfl <| wi_exit rfl <| wi_inBlock <| wi_reg rfl <| lx_move (.int .i64 ((p : Nat) : Int)) rfl rfl <| lx_add (((p + 1 : Nat) : Int)) rfl rfl rfl (by omega) (by omega) (by omega) <| lx_assign (.int .i64 ((p + 1 : Nat) : Int)) rfl rfl <| lx_nil <| ?_
        -- L0.1
        refine IH1 _ _ (p + 1) (agree_ups rfl (agree_mix (rngB_sub (by decide) (by decide) rfl) (agree_ups rfl agree_self))) ⟨rfl, trivial⟩ ⟨rfl, ?_⟩ ?_
        · try dsimp only
          omega
        · first | omega | (dsimp only; omega)
    · refine lx_nil <| wi_false rfl <| wi_exit rfl <| wi_seq <| wi_reg rfl <| lx_call [] rfl rfl Try.call15 rfl (awake_spec h7 ) (fun _ _ _ => trivial) ?_
      rintro _ h11 ⟨rfl, hx7⟩
      have hx0_8 := hx0_7.trans2 hx7 hx0_7.size
      have ho26 := ho21.extS hx7
      have ho27 := ho22.extS hx7
      have ho28 := ho23.extS hx7
      have ho29 := ho24.extS hx7
      have ho30 := ho25.extS hx7
      refine lx_assign (.bool true) rfl rfl <| lx_nil <| ?_
      -- R1
      refine wi_ret ⟨.bool true, (res_one rfl rfl), ⟨rfl, hx0_8⟩⟩
  · refine lx_nil <| wi_false rfl <| wi_skip <| wi_seq <| wi_reg rfl <| lx_call [] rfl rfl Try.call15 rfl (awake_spec h7 ) (fun _ _ _ => trivial) ?_
    rintro _ h12 ⟨rfl, hx8⟩
    have hx0_9 := hx0_7.trans2 hx8 hx0_7.size
    have ho31 := ho21.extS hx8
    have ho32 := ho22.extS hx8
    have ho33 := ho23.extS hx8
    have ho34 := ho24.extS hx8
    have ho35 := ho25.extS hx8
    refine lx_assign (.bool true) rfl rfl <| lx_nil <| ?_
    -- R2
    refine wi_ret ⟨.bool true, (res_one rfl rfl), ⟨rfl, hx0_9⟩⟩

end Go.Proofs.Ytjfickfgpkejpaa
