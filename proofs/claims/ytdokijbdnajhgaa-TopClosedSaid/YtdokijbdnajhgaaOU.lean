/-
  Walk: TopClosed.
-/
import Derived.Test.YtdokijbdnajhgaaOT
import Derived.Test.YtdokijbdnajhgaaOQ
set_option linter.unusedSimpArgs false
set_option linter.unusedVariables false
namespace Go.Proofs.Ytdokijbdnajhgaa
open Go Go.X

theorem cut_ideal {n q : Nat} {f : Nat → Nat → Bool} (ho : IsO n f) (h : cutB n f q = true) : idlB n f q = true := by
  unfold cutB at h
  rw [beq_iff_eq] at h
  rw [idlB_iff]
  intro x y hx hy hb hf
  rw [← h] at hb ⊢
  unfold cutF at hb ⊢
  rw [lowS_bit] at hb ⊢
  exact ⟨hy, fun w hw hw2 => ho.trans hy hx hw hf (hb.2 w hw hw2)⟩
theorem cut_and {n a b : Nat} {f : Nat → Nat → Bool} (ha2 : a < 2 ^ n) (ha : cutB n f a = true) (hb : cutB n f b = true) : cutB n f (a &&& b) = true := by
  unfold cutB at *
  rw [beq_iff_eq] at *
  have mono : ∀ c, (∀ z, (a &&& b).testBit z = true → c.testBit z = true) → cutF n f c = c → ∀ z, (cutF n f (a &&& b)).testBit z = true → c.testBit z = true := fun c hc he z hz => by
    rw [← he]
    unfold cutF at hz ⊢
    rw [lowS_bit] at hz ⊢
    exact ⟨hz.1, fun w hw hw2 => hz.2 w hw (uppS_bit.2 ⟨hw, fun q hq hq2 => (uppS_bit.1 hw2).2 q hq (hc q hq2)⟩)⟩
  apply Nat.eq_of_testBit_eq
  intro z
  rw [Bool.eq_iff_iff]
  constructor
  · intro hz
    rw [Nat.testBit_and, mono a (fun z h => by rw [Nat.testBit_and, Bool.and_eq_true] at h; exact h.1) ha z hz, mono b (fun z h => by rw [Nat.testBit_and, Bool.and_eq_true] at h; exact h.2) hb z hz]; rfl
  · intro hz
    have hzn : z < n := bit_lt ha2 (by rw [Nat.testBit_and, Bool.and_eq_true] at hz; exact hz.1)
    unfold cutF
    rw [lowS_bit]
    exact ⟨hzn, fun w hw hw2 => (uppS_bit.1 hw2).2 z hzn hz⟩
theorem idl_and {n a b : Nat} {f : Nat → Nat → Bool} (ha : idlB n f a = true) (hb : idlB n f b = true) : idlB n f (a &&& b) = true := by
  rw [idlB_iff] at *
  intro x y hx hy h hf
  rw [Nat.testBit_and, Bool.and_eq_true] at h ⊢
  exact ⟨ha x y hx hy h.1 hf, hb x y hx hy h.2 hf⟩
theorem idl_or {n a b : Nat} {f : Nat → Nat → Bool} (ha : idlB n f a = true) (hb : idlB n f b = true) : idlB n f (a ||| b) = true := by
  rw [idlB_iff] at *
  intro x y hx hy h hf
  rw [Nat.testBit_or, Bool.or_eq_true] at h ⊢
  exact h.elim (fun h => .inl (ha x y hx hy h hf)) (fun h => .inr (hb x y hx hy h hf))

set_option maxRecDepth 10000 in
theorem topClosed_spec (h : Heap) (n : Int) (vl : Value) (ls : List (Int × Int)) (hr_vl : RdE encP h vl ls) (hp1 : ls.length ≤ 9223372036854775807) : Fx Try.prog 13 [.int .i64 n, vl] h (fun v h' => v = .bool true ∧ Ext h.size h h') := by
  refine fx_intro (n := 153) [(0, .int .i64 n), (1, vl)] Try.func13 rfl rfl (by simp) ⟨rfl, rfl, trivial⟩ fun g0 => ?_
  refine wi_seq <| wi_reg rfl <| lx_assign (.bool false) rfl rfl <| lx_nil <| wi_seq <| wi_reg rfl <| lx_move (.int .i64 n) rfl rfl <| lx_call [.int .i64 n, .int .i64 6] rfl rfl Try.call65 rfl (small_spec h n 6 (by omega)) (fun _ _ _ => trivial) ?_
  rintro _ h1 ⟨rfl, rfl⟩
  refine lx_add (((1 + (ur n % (6 + 1)) : Nat) : Int)) rfl rfl rfl (by omega) (by omega) (by omega) <| lx_assign (.int .i64 ((1 + (ur n % (6 + 1)) : Nat) : Int)) rfl rfl <| lx_nil <| wi_seq <| wi_reg rfl <| ?_
  generalize hk : 1 + (ur n % (6 + 1)) = k
  replace hk : 1 ≤ k ∧ k ≤ 7 := by have := Nat.mod_lt (ur n) (show 0 < 6 + 1 by omega); omega
  have hpw := pow10 (show k ≤ 10 by omega)
  refine lx_move (.int .i64 ((k : Nat) : Int)) rfl rfl <| lx_move (vl) rfl rfl <| lx_call [.int .i64 ((k : Nat) : Int), vl] rfl rfl Try.call66 rfl (relation_spec h k vl ls hr_vl (by omega) (by omega) (by omega)) (fun _ _ _ => trivial) ?_
  rintro vp h2 ⟨_, hsp, p, rfl, ho1, hot1, hpl, hpt, hx1⟩
  have ho2 := ho1.base (Nat.le_refl h.size)
  have hot2 := hot1.base (Nat.le_refl h.size)
  have hl_hot2 := hot2.1
  refine lx_assign (vp) rfl rfl <| lx_nil <| wi_seq <| wi_reg rfl <| ?_
  have hpq := isT_sq hpt
  have hck := ok_chkT (p := p) (by omega) (by omega) hpt
  have hsq : ∀ i, i < p.length → (gt p i).length = p.length := hpq.2
  have hle : ∀ i, i < p.length → (gt p i).length ≤ 1000000 := fun i hi => by rw [hsq i hi]; omega
  refine lx_move (vp) rfl rfl <| lx_call [vp] rfl rfl Try.call16 rfl (oideals_spec h2 vp hsp p ho2.rd hot2.rt (by omega) hle) (fun _ _ _ => trivial) ?_
  rintro _ h3 ⟨vi, xi, rfl, ho3, hid, hx2⟩
  have hx0_1 := hx1.trans2 hx2 hx1.size
  have ho4 := ho2.extS hx2
  have hot3 := hot2.extS hx2
  have ho5 := ho3.base hx1.size
  refine lx_move (.tuple #[vi, .int .i64 (chkT p)]) rfl rfl <| lx_extract (vi) rfl rfl rfl <| lx_extract (.int .i64 (chkT p)) rfl rfl rfl <| lx_assign (vi) rfl rfl <| lx_assign (.int .i64 (chkT p)) rfl rfl <| lx_nil <| wi_seq <| wi_reg rfl <| ?_
  have hxi := good_ hid hck
  rw [hpl] at hxi
  have hil := filtF_length (2 ^ k) (idlB k (pb p))
  have hil2 : xi.length ≤ 1024 := by rw [hxi]; exact Nat.le_trans hil hpw
  have hcs : chkS (k : Int) xi = 0 := by rw [hxi]; exact chkS_filt (by omega) _
  have hio : IsO k (pb p) := by rw [← hpl]; exact isT_o hpt
  refine lx_move (vp) rfl rfl <| lx_call [vp] rfl rfl Try.call23 rfl (completion_spec h3 vp hsp p ho4.rd hot3.rt (by omega) hle) (fun _ _ _ => trivial) ?_
  rintro _ h4 ⟨vs, vq, vc, xs, hq, r, cs, rfl, ho6, ho7, hot4, ho8, hco, hx3⟩
  have hx0_2 := hx0_1.trans2 hx3 hx0_1.size
  have ho9 := ho4.extS hx3
  have hot5 := hot3.extS hx3
  have ho10 := ho5.extS hx3
  have ho11 := ho6.base hx0_1.size
  have ho12 := ho7.base hx0_1.size
  have hot6 := hot4.base hx0_1.size
  have hl_hot6 := hot6.1
  have ho13 := ho8.base hx0_1.size
  refine lx_move (.tuple #[vs, vq, vc, .int .i64 (chkT p)]) rfl rfl <| lx_extract (vs) rfl rfl rfl <| lx_extract (vq) rfl rfl rfl <| lx_extract (vc) rfl rfl rfl <| lx_extract (.int .i64 (chkT p)) rfl rfl rfl <| lx_assign (vs) rfl rfl <| lx_assign (vq) rfl rfl <| lx_assign (vc) rfl rfl <| lx_assign (.int .i64 (chkT p)) rfl rfl <| lx_nil <| wi_seq <| wi_seq <| wi_reg rfl <| ?_
  obtain ⟨hxs, hre, _⟩ := good_ hco hck
  rw [hpl] at hxs
  have hsl : xs.length ≤ 1024 := by rw [hxs]; exact Nat.le_trans (filtF_length _ _) hpw
  have hcx : chkS (k : Int) xs = 0 := by rw [hxs]; exact chkS_filt (by omega) _
  have hrl : r.length = xs.length := by rw [hre]; exact tabF_length _ _
  have hrs : ∀ i, i < r.length → (gt r i).length = xs.length := fun i hi => by rw [hre, gt_tabF (by omega), rowF_length]
  have hxs2 : xs = filtF (2 ^ k) (cutB k (pb p)) := hxs
  have hxi2 : xi = filtF (2 ^ k) (idlB k (pb p)) := hxi
  refine lx_move (.int .i64 (chkT p)) rfl rfl <| lx_neqF rfl rfl rfl (fun h9 => h9 hck) <| lx_move (.bool false) rfl rfl <| lx_move (.int .i64 (chkT p)) rfl rfl <| lx_neqF rfl rfl rfl (fun h9 => h9 hck) <| lx_pick false (.bool false) rfl rfl rfl <| lx_move (.bool false) rfl rfl <| lx_move (.int .i64 ((k : Nat) : Int)) rfl rfl <| lx_move (vi) rfl rfl <| lx_call [.int .i64 ((k : Nat) : Int), vi] rfl rfl Try.call72 rfl (shcheck_spec h4 (((k : Nat) : Int)) vi xi ho10.rd (by omega)) (fun _ _ _ => trivial) ?_
  rintro _ h5 ⟨rfl, rfl⟩
  refine lx_neqF rfl rfl rfl (fun h9 => h9 hcs) <| lx_pick false (.bool false) rfl rfl rfl <| lx_move (.bool false) rfl rfl <| lx_move (.int .i64 ((k : Nat) : Int)) rfl rfl <| lx_move (vs) rfl rfl <| lx_call [.int .i64 ((k : Nat) : Int), vs] rfl rfl Try.call72 rfl (shcheck_spec h4 (((k : Nat) : Int)) vs xs ho11.rd (by omega)) (fun _ _ _ => trivial) ?_
  rintro _ h6 ⟨rfl, rfl⟩
  refine lx_neqF rfl rfl rfl (fun h9 => h9 hcx) <| lx_pick false (.bool false) rfl rfl rfl <| lx_move (.bool false) rfl rfl <| lx_move (vq) rfl rfl <| lx_len rfl Try.underlying29 ho12.rd rfl <| lx_move (vs) rfl rfl <| lx_len rfl Try.underlying25 ho11.rd rfl <| lx_neqF rfl rfl rfl (by omega) <| lx_pick false (.bool false) rfl rfl rfl <| lx_nil <| wi_false rfl <| wi_skip <| wi_seq <| wi_seq <| wi_reg rfl <| lx_assign (.int .i64 0) rfl rfl <| lx_nil <| wi_block <| ?_
  refine wi_loop (σ := Nat) (rngB 60 115 [4, 13, 14]) (fun (i : Nat) => [(13, .int .i64 ((i : Nat) : Int))]) (fun (i : Nat) (hh : Heap) => h4 = hh ∧ (i ≤ xs.length)) (fun (i : Nat) => xs.length - i) 0 ⟨rfl, trivial⟩ ⟨rfl, ?_⟩ ?_
  · try dsimp only
    omega
  rintro g1 i hh1 ⟨rfl, hi⟩ IH1
  refine wi_seq <| wi_seq <| wi_reg rfl <| lx_move (.int .i64 ((i : Nat) : Int)) rfl rfl <| lx_move (vs) rfl rfl <| lx_len rfl Try.underlying25 ho11.rd rfl <| lx_lssS rfl rfl rfl (fun c1 => ?_) (fun c1 => ?_)
  · refine lx_nil <| wi_true rfl <| wi_skip <| wi_seq <| wi_block <| wi_seq <| wi_seq <| wi_reg rfl <| ?_
    obtain ⟨a, hga, hla, hfa⟩ := filtF_gt (show i < (filtF (2 ^ k) (cutB k (pb p))).length by rw [← hxs2]; omega)
    rw [← hxs2] at hga
    have hm1 : (a : Int) ∈ xi := by rw [hxi2]; exact filtF_mem.2 ⟨a, hla, cut_ideal hio hfa, rfl⟩
    refine lx_move (vi) rfl rfl <| lx_move (vs) rfl rfl <| lx_move (.int .i64 ((i : Nat) : Int)) rfl rfl <| lx_ix (i := i) rfl eT25 ho11.rd rfl rfl (by first | omega | (simp only [List.length_set, List.length_append, List.length_cons, List.length_nil, List.length_replicate, List.length_take, swp_length, exch_length]; omega)) <| lx_ld (i := i) (j := 0) (.int .i64 ((a : Nat) : Int)) rfl rfl fl3 ho11.rd (by first | omega | (simp only [List.length_set, List.length_append, List.length_cons, List.length_nil, List.length_replicate, List.length_take, swp_length, exch_length]; omega)) (by show some (Value.int .i64 (gt xs i)) = _; rw [hga]) rfl <| lx_call [vi, .int .i64 ((a : Nat) : Int)] rfl rfl Try.call73 rfl (has_spec h4 vi xi (((a : Nat) : Int)) ho10.rd (by omega)) (fun _ _ _ => trivial) ?_
    rintro _ h7 ⟨rfl, rfl⟩
    rw [decide_eq_true hm1]
    refine lx_notB false rfl rfl rfl <| lx_nil <| wi_false rfl <| wi_skip <| wi_seq <| wi_reg rfl <| lx_assign (.int .i64 0) rfl rfl <| lx_nil <| wi_block <| ?_
    refine wi_loop (σ := Nat) (rngB 73 115 [4, 14]) (fun (j : Nat) => [(14, .int .i64 ((j : Nat) : Int))]) (fun (j : Nat) (hh : Heap) => h4 = hh ∧ (j ≤ xs.length)) (fun (j : Nat) => xs.length - j) 0 ⟨rfl, trivial⟩ ⟨rfl, ?_⟩ ?_
    · try dsimp only
      omega
    rintro g2 j hh2 ⟨rfl, hj⟩ IH2
    refine wi_seq <| wi_seq <| wi_reg rfl <| lx_move (.int .i64 ((j : Nat) : Int)) rfl rfl <| lx_move (vs) rfl rfl <| lx_len rfl Try.underlying25 ho11.rd rfl <| lx_lssS rfl rfl rfl (fun c2 => ?_) (fun c2 => ?_)
    · refine lx_nil <| wi_true rfl <| wi_skip <| wi_seq <| wi_block <| wi_seq <| wi_drawS (fun h9 => h4 = h9) (fun o => match o.dst with | some 83 | some 87 | some 95 | some 98 | some 102 | some 106 | some 111 => .free | _ => kindOf o) mo rfl (by decide +kernel) rfl <| ?_
      obtain ⟨b, hgb, hlb, hfb⟩ := filtF_gt (show j < (filtF (2 ^ k) (cutB k (pb p))).length by rw [← hxs2]; omega)
      rw [← hxs2] at hgb
      have hab := Nat.lt_of_le_of_lt (Nat.and_le_left (n := a) (m := b)) hla
      have hm2 : ((a &&& b : Nat) : Int) ∈ xs := by rw [hxs2]; exact filtF_mem.2 ⟨a &&& b, hab, cut_and hla hfa hfb, rfl⟩
      have hrv : gt (gt r i) j = incl a b := by rw [hre]; show pb (tabF _ _) i j = _; rw [pb_tabF (by omega) (by omega)]; unfold incF; rw [hga, hgb]; rfl
      refine lx_move (vs) rfl rfl <| lx_move (vs) rfl rfl <| lx_move (.int .i64 ((i : Nat) : Int)) rfl rfl <| lx_ix (i := i) rfl eT25 ho11.rd rfl rfl (by first | omega | (simp only [List.length_set, List.length_append, List.length_cons, List.length_nil, List.length_replicate, List.length_take, swp_length, exch_length]; omega)) <| lx_ldF (i := i) (j := 0) (.int .i64 ((a : Nat) : Int)) rfl fl3 (fun _ e9 => e9 ▸ ho11.rd) (by first | omega | (simp only [List.length_set, List.length_append, List.length_cons, List.length_nil, List.length_replicate, List.length_take, swp_length, exch_length]; omega)) (by show some (Value.int .i64 (gt xs i)) = _; rw [hga]) rfl <| lx_move (vs) rfl rfl <| lx_move (.int .i64 ((j : Nat) : Int)) rfl rfl <| lx_ix (i := j) rfl eT25 ho11.rd rfl rfl (by first | omega | (simp only [List.length_set, List.length_append, List.length_cons, List.length_nil, List.length_replicate, List.length_take, swp_length, exch_length]; omega)) <| lx_ldF (i := j) (j := 0) (.int .i64 ((b : Nat) : Int)) rfl fl3 (fun _ e9 => e9 ▸ ho11.rd) (by first | omega | (simp only [List.length_set, List.length_append, List.length_cons, List.length_nil, List.length_replicate, List.length_take, swp_length, exch_length]; omega)) (by show some (Value.int .i64 (gt xs j)) = _; rw [hgb]) rfl <| lx_and (m := a) (n := b) rfl rfl rfl (by show _ < 2 ^ 64; omega) (by show _ < 2 ^ 64; omega) (wrap_i64 (by omega) (by omega)) <| lx_call [vs, .int .i64 ((a &&& b : Nat) : Int)] rfl rfl Try.call73 rfl (has_spec h4 vs xs (((a &&& b : Nat) : Int)) ho11.rd (by omega)) (by rintro _ _ ⟨_, e⟩; exact e) ?_
      rintro _ h8 ⟨rfl, rfl⟩
      rw [decide_eq_true hm2]
      refine lx_notB false rfl rfl rfl <| lx_move (.bool false) rfl rfl <| lx_move (vq) rfl rfl <| lx_move (.int .i64 ((i : Nat) : Int)) rfl rfl <| lx_ix (i := i) rfl eT29 ho12.rd rfl rfl (by first | omega | (simp only [List.length_set, List.length_append, List.length_cons, List.length_nil, List.length_replicate, List.length_take, swp_length, exch_length]; omega)) <| lx_ldF (i := i) (j := 0) ((gt hq i).v) rfl fl70 (fun _ e9 => e9 ▸ ho12.rd) (by first | omega | (simp only [List.length_set, List.length_append, List.length_cons, List.length_nil, List.length_replicate, List.length_take, swp_length, exch_length]; omega)) rfl rfl <| lx_move (.int .i64 ((j : Nat) : Int)) rfl rfl <| lx_ix (i := j) rfl eT70 (hot6.2.1 i (by first | omega | (simp only [List.length_set, List.length_append, List.length_cons, List.length_nil, List.length_replicate, List.length_take, swp_length, exch_length]; omega))).rd rfl rfl (by rw [hrs i (by first | omega | (simp only [List.length_set, List.length_append, List.length_cons, List.length_nil, List.length_replicate, List.length_take, swp_length, exch_length]; omega))]; omega) <| lx_ldF (i := j) (j := 0) (.bool (incl a b)) rfl fl4 (fun _ e9 => e9 ▸ (hot6.2.1 i (by first | omega | (simp only [List.length_set, List.length_append, List.length_cons, List.length_nil, List.length_replicate, List.length_take, swp_length, exch_length]; omega))).rd) (by rw [hrs i (by first | omega | (simp only [List.length_set, List.length_append, List.length_cons, List.length_nil, List.length_replicate, List.length_take, swp_length, exch_length]; omega))]; omega) (by show some (Value.bool (gt (gt r i) j)) = _; rw [hrv]) rfl <| lx_move (vs) rfl rfl <| lx_move (.int .i64 ((i : Nat) : Int)) rfl rfl <| lx_ix (i := i) rfl eT25 ho11.rd rfl rfl (by first | omega | (simp only [List.length_set, List.length_append, List.length_cons, List.length_nil, List.length_replicate, List.length_take, swp_length, exch_length]; omega)) <| lx_ldF (i := i) (j := 0) (.int .i64 ((a : Nat) : Int)) rfl fl3 (fun _ e9 => e9 ▸ ho11.rd) (by first | omega | (simp only [List.length_set, List.length_append, List.length_cons, List.length_nil, List.length_replicate, List.length_take, swp_length, exch_length]; omega)) (by show some (Value.int .i64 (gt xs i)) = _; rw [hga]) rfl <| lx_move (vs) rfl rfl <| lx_move (.int .i64 ((j : Nat) : Int)) rfl rfl <| lx_ix (i := j) rfl eT25 ho11.rd rfl rfl (by first | omega | (simp only [List.length_set, List.length_append, List.length_cons, List.length_nil, List.length_replicate, List.length_take, swp_length, exch_length]; omega)) <| lx_ldF (i := j) (j := 0) (.int .i64 ((b : Nat) : Int)) rfl fl3 (fun _ e9 => e9 ▸ ho11.rd) (by first | omega | (simp only [List.length_set, List.length_append, List.length_cons, List.length_nil, List.length_replicate, List.length_take, swp_length, exch_length]; omega)) (by show some (Value.int .i64 (gt xs j)) = _; rw [hgb]) rfl <| lx_and (m := a) (n := b) rfl rfl rfl (by show _ < 2 ^ 64; omega) (by show _ < 2 ^ 64; omega) (wrap_i64 (by omega) (by omega)) <| lx_move (vs) rfl rfl <| lx_move (.int .i64 ((i : Nat) : Int)) rfl rfl <| lx_ix (i := i) rfl eT25 ho11.rd rfl rfl (by first | omega | (simp only [List.length_set, List.length_append, List.length_cons, List.length_nil, List.length_replicate, List.length_take, swp_length, exch_length]; omega)) <| lx_ldF (i := i) (j := 0) (.int .i64 ((a : Nat) : Int)) rfl fl3 (fun _ e9 => e9 ▸ ho11.rd) (by first | omega | (simp only [List.length_set, List.length_append, List.length_cons, List.length_nil, List.length_replicate, List.length_take, swp_length, exch_length]; omega)) (by show some (Value.int .i64 (gt xs i)) = _; rw [hga]) rfl <| lx_eql rfl rfl rfl <| lx_neqBool false rfl Try.underlying4 rfl rfl (by rw [and_D]; simp) <| lx_pick false (.bool false) rfl rfl rfl <| lx_nil <| wi_false rfl <| wi_skip <| wi_inBlock <| wi_reg rfl <| lx_move (.int .i64 ((j : Nat) : Int)) rfl rfl <| lx_add (((j + 1 : Nat) : Int)) rfl rfl rfl (by omega) (by omega) (by omega) <| lx_assign (.int .i64 ((j + 1 : Nat) : Int)) rfl rfl <| lx_nil <| ?_
      -- L2.1
      refine IH2 _ _ (j + 1) (agree_ups rfl agree_self) ⟨rfl, trivial⟩ ⟨rfl, ?_⟩ ?_
      · try dsimp only
        omega
      · first | omega | (dsimp only; omega)
    · refine lx_nil <| wi_false rfl <| wi_exit rfl <| wi_inBlock <| wi_reg rfl <| lx_move (.int .i64 ((i : Nat) : Int)) rfl rfl <| lx_add (((i + 1 : Nat) : Int)) rfl rfl rfl (by omega) (by omega) (by omega) <| lx_assign (.int .i64 ((i + 1 : Nat) : Int)) rfl rfl <| lx_nil <| ?_
      -- L0.1
      refine IH1 _ _ (i + 1) (agree_ups rfl (agree_mix (rngB_sub (by decide) (by decide) rfl) (agree_ups rfl agree_self))) ⟨rfl, trivial⟩ ⟨rfl, ?_⟩ ?_
      · try dsimp only
        omega
      · first | omega | (dsimp only; omega)
  · refine lx_nil <| wi_false rfl <| wi_exit rfl <| wi_seq <| wi_seq <| wi_reg rfl <| lx_assign (.int .i64 0) rfl rfl <| lx_nil <| wi_block <| ?_
    refine wi_loop (σ := Nat) (rngB 115 152 [4, 15, 16]) (fun (i : Nat) => [(15, .int .i64 ((i : Nat) : Int))]) (fun (i : Nat) (hh : Heap) => h4 = hh ∧ (i ≤ xi.length)) (fun (i : Nat) => xi.length - i) 0 ⟨rfl, trivial⟩ ⟨rfl, ?_⟩ ?_
    · try dsimp only
      omega
    rintro g3 i hh3 ⟨rfl, hi⟩ IH3
    refine wi_seq <| wi_seq <| wi_reg rfl <| lx_move (.int .i64 ((i : Nat) : Int)) rfl rfl <| lx_move (vi) rfl rfl <| lx_len rfl Try.underlying25 ho10.rd rfl <| lx_lssS rfl rfl rfl (fun c3 => ?_) (fun c3 => ?_)
    · refine lx_nil <| wi_true rfl <| wi_skip <| wi_seq <| wi_block <| wi_seq <| wi_reg rfl <| lx_assign (.int .i64 0) rfl rfl <| lx_nil <| wi_block <| ?_
      refine wi_loop (σ := Nat) (rngB 121 152 [4, 16]) (fun (j : Nat) => [(16, .int .i64 ((j : Nat) : Int))]) (fun (j : Nat) (hh : Heap) => h4 = hh ∧ (j ≤ i)) (fun (j : Nat) => i - j) 0 ⟨rfl, trivial⟩ ⟨rfl, ?_⟩ ?_
      · try dsimp only
        omega
      rintro g4 j hh4 ⟨rfl, hj⟩ IH4
      refine wi_seq <| wi_seq <| wi_reg rfl <| lx_move (.int .i64 ((j : Nat) : Int)) rfl rfl <| lx_move (.int .i64 ((i : Nat) : Int)) rfl rfl <| lx_lssS rfl rfl rfl (fun c4 => ?_) (fun c4 => ?_)
      · refine lx_nil <| wi_true rfl <| wi_skip <| wi_seq <| wi_block <| wi_seq <| wi_drawS (fun h9 => h4 = h9) (fun o => match o.dst with | some 130 | some 134 | some 143 | some 147 => .free | _ => kindOf o) mo rfl (by decide +kernel) rfl <| ?_
        obtain ⟨a, hga, hla, hfa⟩ := filtF_gt (show i < (filtF (2 ^ k) (idlB k (pb p))).length by rw [← hxi2]; omega)
        rw [← hxi2] at hga
        obtain ⟨b, hgb, hlb, hfb⟩ := filtF_gt (show j < (filtF (2 ^ k) (idlB k (pb p))).length by rw [← hxi2]; omega)
        rw [← hxi2] at hgb
        have hab := Nat.lt_of_le_of_lt (Nat.and_le_left (n := a) (m := b)) hla
        have hob := Nat.or_lt_two_pow hla hlb
        have hm1 : ((a &&& b : Nat) : Int) ∈ xi := by rw [hxi2]; exact filtF_mem.2 ⟨a &&& b, hab, idl_and hfa hfb, rfl⟩
        have hm2 : ((a ||| b : Nat) : Int) ∈ xi := by rw [hxi2]; exact filtF_mem.2 ⟨a ||| b, hob, idl_or hfa hfb, rfl⟩
        refine lx_move (vi) rfl rfl <| lx_move (vi) rfl rfl <| lx_move (.int .i64 ((i : Nat) : Int)) rfl rfl <| lx_ix (i := i) rfl eT25 ho10.rd rfl rfl (by first | omega | (simp only [List.length_set, List.length_append, List.length_cons, List.length_nil, List.length_replicate, List.length_take, swp_length, exch_length]; omega)) <| lx_ldF (i := i) (j := 0) (.int .i64 ((a : Nat) : Int)) rfl fl3 (fun _ e9 => e9 ▸ ho10.rd) (by first | omega | (simp only [List.length_set, List.length_append, List.length_cons, List.length_nil, List.length_replicate, List.length_take, swp_length, exch_length]; omega)) (by show some (Value.int .i64 (gt xi i)) = _; rw [hga]) rfl <| lx_move (vi) rfl rfl <| lx_move (.int .i64 ((j : Nat) : Int)) rfl rfl <| lx_ix (i := j) rfl eT25 ho10.rd rfl rfl (by first | omega | (simp only [List.length_set, List.length_append, List.length_cons, List.length_nil, List.length_replicate, List.length_take, swp_length, exch_length]; omega)) <| lx_ldF (i := j) (j := 0) (.int .i64 ((b : Nat) : Int)) rfl fl3 (fun _ e9 => e9 ▸ ho10.rd) (by first | omega | (simp only [List.length_set, List.length_append, List.length_cons, List.length_nil, List.length_replicate, List.length_take, swp_length, exch_length]; omega)) (by show some (Value.int .i64 (gt xi j)) = _; rw [hgb]) rfl <| lx_and (m := a) (n := b) rfl rfl rfl (by show _ < 2 ^ 64; omega) (by show _ < 2 ^ 64; omega) (wrap_i64 (by omega) (by omega)) <| lx_call [vi, .int .i64 ((a &&& b : Nat) : Int)] rfl rfl Try.call73 rfl (has_spec h4 vi xi (((a &&& b : Nat) : Int)) ho10.rd (by omega)) (by rintro _ _ ⟨_, e⟩; exact e) ?_
        rintro _ h9 ⟨rfl, rfl⟩
        rw [decide_eq_true hm1]
        refine lx_notB false rfl rfl rfl <| lx_move (.bool false) rfl rfl <| lx_move (vi) rfl rfl <| lx_move (vi) rfl rfl <| lx_move (.int .i64 ((i : Nat) : Int)) rfl rfl <| lx_ix (i := i) rfl eT25 ho10.rd rfl rfl (by first | omega | (simp only [List.length_set, List.length_append, List.length_cons, List.length_nil, List.length_replicate, List.length_take, swp_length, exch_length]; omega)) <| lx_ldF (i := i) (j := 0) (.int .i64 ((a : Nat) : Int)) rfl fl3 (fun _ e9 => e9 ▸ ho10.rd) (by first | omega | (simp only [List.length_set, List.length_append, List.length_cons, List.length_nil, List.length_replicate, List.length_take, swp_length, exch_length]; omega)) (by show some (Value.int .i64 (gt xi i)) = _; rw [hga]) rfl <| lx_move (vi) rfl rfl <| lx_move (.int .i64 ((j : Nat) : Int)) rfl rfl <| lx_ix (i := j) rfl eT25 ho10.rd rfl rfl (by first | omega | (simp only [List.length_set, List.length_append, List.length_cons, List.length_nil, List.length_replicate, List.length_take, swp_length, exch_length]; omega)) <| lx_ldF (i := j) (j := 0) (.int .i64 ((b : Nat) : Int)) rfl fl3 (fun _ e9 => e9 ▸ ho10.rd) (by first | omega | (simp only [List.length_set, List.length_append, List.length_cons, List.length_nil, List.length_replicate, List.length_take, swp_length, exch_length]; omega)) (by show some (Value.int .i64 (gt xi j)) = _; rw [hgb]) rfl <| lx_or (m := a) (n := b) rfl rfl rfl (by show _ < 2 ^ 64; omega) (by show _ < 2 ^ 64; omega) (wrap_i64 (by omega) (by omega)) <| lx_call [vi, .int .i64 ((a ||| b : Nat) : Int)] rfl rfl Try.call73 rfl (has_spec h4 vi xi (((a ||| b : Nat) : Int)) ho10.rd (by omega)) (by rintro _ _ ⟨_, e⟩; exact e) ?_
        rintro _ h10 ⟨rfl, rfl⟩
        rw [decide_eq_true hm2]
        refine lx_notB false rfl rfl rfl <| lx_pick false (.bool false) rfl rfl rfl <| lx_nil <| wi_false rfl <| wi_skip <| wi_inBlock <| wi_reg rfl <| lx_move (.int .i64 ((j : Nat) : Int)) rfl rfl <| lx_add (((j + 1 : Nat) : Int)) rfl rfl rfl (by omega) (by omega) (by omega) <| lx_assign (.int .i64 ((j + 1 : Nat) : Int)) rfl rfl <| lx_nil <| ?_
        -- L6.1
        refine IH4 _ _ (j + 1) (agree_ups rfl agree_self) ⟨rfl, trivial⟩ ⟨rfl, ?_⟩ ?_
        · try dsimp only
          omega
        · first | omega | (dsimp only; omega)
      · refine lx_nil <| wi_false rfl <| wi_exit rfl <| wi_inBlock <| wi_reg rfl <| lx_move (.int .i64 ((i : Nat) : Int)) rfl rfl <| lx_add (((i + 1 : Nat) : Int)) rfl rfl rfl (by omega) (by omega) (by omega) <| lx_assign (.int .i64 ((i + 1 : Nat) : Int)) rfl rfl <| lx_nil <| ?_
        -- L4.1
        refine IH3 _ _ (i + 1) (agree_ups rfl (agree_mix (rngB_sub (by decide) (by decide) rfl) (agree_ups rfl agree_self))) ⟨rfl, trivial⟩ ⟨rfl, ?_⟩ ?_
        · try dsimp only
          omega
        · first | omega | (dsimp only; omega)
    · refine lx_nil <| wi_false rfl <| wi_exit rfl <| wi_seq <| wi_reg rfl <| lx_call [] rfl rfl Try.call69 rfl (ten_spec h4 ) (fun _ _ _ => trivial) ?_
      rintro _ h11 ⟨rfl, hx4⟩
      have hx0_3 := hx0_2.trans2 hx4 hx0_2.size
      have ho14 := ho9.extS hx4
      have hot7 := hot5.extS hx4
      have ho15 := ho10.extS hx4
      have ho16 := ho11.extS hx4
      have ho17 := ho12.extS hx4
      have hot8 := hot6.extS hx4
      have ho18 := ho13.extS hx4
      refine lx_assign (.bool true) rfl rfl <| lx_nil <| ?_
      -- R1
      refine wi_ret ⟨.bool true, (res_one rfl rfl), ⟨rfl, hx0_3⟩⟩

end Go.Proofs.Ytdokijbdnajhgaa
