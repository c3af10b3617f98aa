/-
  Texts in one: XLatP, PC, XTwo, XPop, XLin, XMapO, XComp, XLinM, OK, OC, OD, OE, XCross, OM, XDeg.
-/
import Derived.Test.YtdokijbdnajhgaaMSub4
import Derived.Maps.RangeRun
import Derived.MapKept
import Derived.Lib.BitFns
set_option linter.unusedSimpArgs false
set_option linter.unusedVariables false
namespace Go.X
theorem jnB_comm {n x y z : Nat} {f : Nat → Nat → Bool} : jnB n f x y z = jnB n f y x z := by
  rw [Bool.eq_iff_iff, jnB_iff, jnB_iff]
  exact ⟨fun ⟨a, b, c⟩ => ⟨b, a, fun w hw h1 h2 => c w hw h2 h1⟩, fun ⟨a, b, c⟩ => ⟨b, a, fun w hw h1 h2 => c w hw h2 h1⟩⟩
theorem joinF_comm (n : Nat) (f : Nat → Nat → Bool) (x y : Nat) : joinF n f x y = joinF n f y x := firstF_congr fun z _ => jnB_comm
theorem meetF_comm (n : Nat) (f : Nat → Nat → Bool) (x y : Nat) : meetF n f x y = meetF n f y x := joinF_comm n _ x y
theorem joinF_some {n x y : Nat} {f : Nat → Nat → Bool} (h : 0 ≤ joinF n f x y) : ∃ z : Nat, joinF n f x y = (z : Int) ∧ z < n ∧ f x z = true ∧ f y z = true ∧ ∀ w, w < n → f x w = true → f y w = true → f z w = true := by
  rcases firstF_cases n (jnB n f x y) with ⟨h1, _⟩ | ⟨z, hz, hzn, hp, _⟩
  · unfold joinF at h; omega
  · obtain ⟨a, b, c⟩ := jnB_iff.1 hp
    exact ⟨z, hz, hzn, a, b, c⟩
theorem flip_o {n : Nat} {f : Nat → Nat → Bool} (ho : IsO n f) : IsO n (flipF f) :=
  isO_mk (fun x hx => ho.refl hx) (fun x y hx hy a b => ho.anti hx hy b a) (fun x y z hx hy hz a b => ho.trans hz hy hx b a)
theorem join_is {n x y z : Nat} {f : Nat → Nat → Bool} (ho : IsO n f) (hz : z < n) (h1 : f x z = true) (h2 : f y z = true) (h3 : ∀ w, w < n → f x w = true → f y w = true → f z w = true) : joinF n f x y = (z : Int) := by
  rcases firstF_cases n (jnB n f x y) with ⟨_, h⟩ | ⟨u, hu, hun, hp, _⟩
  · have := h z hz
    rw [jnB_iff.2 ⟨h1, h2, h3⟩] at this; cases this
  · obtain ⟨a, b, c⟩ := jnB_iff.1 hp
    unfold joinF
    rw [hu, ho.anti hun hz (c z hz h1 h2) (h3 u hun a b)]
theorem join_self {n x : Nat} {f : Nat → Nat → Bool} (ho : IsO n f) (hx : x < n) : joinF n f x x = (x : Int) := join_is ho hx (ho.refl hx) (ho.refl hx) fun w _ h _ => h
/-- All have a join, and a meet. -/
def noGap (n : Nat) (f : Nat → Nat → Bool) : Prop := ∀ i j, i < j → j < n → gapB n f i j = false
theorem gapB_no {n x y : Nat} {f : Nat → Nat → Bool} (h : gapB n f x y = false) : 0 ≤ joinF n f x y ∧ 0 ≤ meetF n f x y := by
  unfold gapB at h
  rw [Bool.or_eq_false_iff, decide_eq_false_iff_not, decide_eq_false_iff_not] at h
  omega
theorem noGap_all {n : Nat} {f : Nat → Nat → Bool} (ho : IsO n f) (hg : noGap n f) {x y : Nat} (hx : x < n) (hy : y < n) : 0 ≤ joinF n f x y ∧ 0 ≤ meetF n f x y := by
  rcases Nat.lt_trichotomy x y with h | h | h
  · exact gapB_no (hg x y h hy)
  · subst h
    exact ⟨by rw [join_self ho hx]; omega, by unfold meetF; rw [join_self (flip_o ho) hx]; omega⟩
  · rw [joinF_comm, meetF_comm]; exact gapB_no (hg y x h hx)
def jN (n : Nat) (f : Nat → Nat → Bool) (x y : Nat) : Nat := (joinF n f x y).toNat
def mN (n : Nat) (f : Nat → Nat → Bool) (x y : Nat) : Nat := (meetF n f x y).toNat
section
variable {n : Nat} {f : Nat → Nat → Bool} (ho : IsO n f) (hg : noGap n f)
include ho hg
theorem jN_at {x y : Nat} (hx : x < n) (hy : y < n) : joinF n f x y = (jN n f x y : Int) ∧ jN n f x y < n ∧ f x (jN n f x y) = true ∧ f y (jN n f x y) = true ∧ ∀ w, w < n → f x w = true → f y w = true → f (jN n f x y) w = true := by
  obtain ⟨z, h1, h2⟩ := joinF_some (noGap_all ho hg hx hy).1
  have : jN n f x y = z := by unfold jN; rw [h1]; rfl
  rw [this]
  exact ⟨h1, h2⟩
theorem mN_at {x y : Nat} (hx : x < n) (hy : y < n) : meetF n f x y = (mN n f x y : Int) ∧ mN n f x y < n ∧ f (mN n f x y) x = true ∧ f (mN n f x y) y = true ∧ ∀ w, w < n → f w x = true → f w y = true → f w (mN n f x y) = true := by
  obtain ⟨z, h1, h2⟩ := joinF_some (f := flipF f) (noGap_all ho hg hx hy).2
  have : mN n f x y = z := by unfold mN meetF; rw [h1]; rfl
  rw [this]
  exact ⟨h1, h2⟩
theorem jN_lt {x y : Nat} (hx : x < n) (hy : y < n) : jN n f x y < n := (jN_at ho hg hx hy).2.1
theorem mN_lt {x y : Nat} (hx : x < n) (hy : y < n) : mN n f x y < n := (mN_at ho hg hx hy).2.1
omit ho hg in
/-- The lattice. -/
def latF (ho : IsO n f) (hg : noGap n f) : Lat (Fin n) where
  le x y := f x y = true
  j x y := ⟨jN n f x y, jN_lt ho hg x.2 y.2⟩
  m x y := ⟨mN n f x y, mN_lt ho hg x.2 y.2⟩
  refl x := ho.refl x.2
  anti {x y} h k := Fin.ext (ho.anti x.2 y.2 h k)
  trans {x y z} h k := ho.trans x.2 y.2 z.2 h k
  j1 x y := (jN_at ho hg x.2 y.2).2.2.1
  j2 x y := (jN_at ho hg x.2 y.2).2.2.2.1
  jl {x y z} h k := (jN_at ho hg x.2 y.2).2.2.2.2 z z.2 h k
  m1 x y := (mN_at ho hg x.2 y.2).2.2.1
  m2 x y := (mN_at ho hg x.2 y.2).2.2.2.1
  ml {x y z} h k := (mN_at ho hg x.2 y.2).2.2.2.2 z z.2 h k
end
/-- Whether five are bad: the least, three, the greatest. -/
def badP (n : Nat) (f : Nat → Nat → Bool) (o a b c i : Nat) : Prop :=
  (o ≠ a ∧ o ≠ b ∧ o ≠ c ∧ o ≠ i ∧ a ≠ b ∧ a ≠ c ∧ a ≠ i ∧ b ≠ c ∧ b ≠ i ∧ c ≠ i) ∧ mN n f a c = o ∧ jN n f a c = i ∧ mN n f b c = o ∧ jN n f b c = i ∧ (f a b = true ∨ (mN n f a b = o ∧ jN n f a b = i))
instance (n : Nat) (f : Nat → Nat → Bool) (o a b c i : Nat) : Decidable (badP n f o a b c i) := by unfold badP; infer_instance
def distB (n : Nat) (f : Nat → Nat → Bool) : Bool := (List.range n).all fun x => (List.range n).all fun y => (List.range n).all fun z => decide (mN n f x (jN n f y z) = jN n f (mN n f x y) (mN n f x z))
theorem distB_iff {n : Nat} {f : Nat → Nat → Bool} : distB n f = true ↔ ∀ x y z, x < n → y < n → z < n → mN n f x (jN n f y z) = jN n f (mN n f x y) (mN n f x z) := by
  unfold distB
  rw [rall_iff]
  constructor
  · intro h x y z hx hy hz
    have := rall_iff.1 (rall_iff.1 (h x hx) y hy) z hz
    exact of_decide_eq_true this
  · intro h x hx
    rw [rall_iff]; intro y hy
    rw [rall_iff]; intro z hz
    exact decide_eq_true (h x y z hx hy hz)
theorem bad_lat {n : Nat} {f : Nat → Nat → Bool} (ho : IsO n f) (hg : noGap n f) (o a b c i : Fin n) : (latF ho hg).Bad o a b c i ↔ badP n f o a b c i := by
  unfold Lat.Bad badP latF
  simp only [ne_eq, Fin.ext_iff]
/-- Distributive just if no five are bad. -/
theorem dist_bad {n : Nat} {f : Nat → Nat → Bool} (ho : IsO n f) (hg : noGap n f) : distB n f = true ↔ ∀ a b c, a < n → b < n → c < n → ¬ badP n f (mN n f a c) a b c (jN n f a c) := by
  constructor
  · intro h a b c ha hb hc hbad
    have hm := mN_lt ho hg ha hc
    have hj := jN_lt ho hg ha hc
    refine (latF ho hg).bad_not ((bad_lat ho hg ⟨_, hm⟩ ⟨a, ha⟩ ⟨b, hb⟩ ⟨c, hc⟩ ⟨_, hj⟩).2 hbad) ?_
    intro x y z
    exact Fin.ext (distB_iff.1 h x y z x.2 y.2 z.2)
  · intro h
    rw [distB_iff]
    intro x y z hx hy hz
    have := (latF ho hg).dist_of (fun a b c hb => h a b c a.2 b.2 c.2 ((bad_lat ho hg _ a b c _).1 hb)) ⟨x, hx⟩ ⟨y, hy⟩ ⟨z, hz⟩
    exact congrArg Fin.val this
end Go.X
namespace Go.Proofs.Ytdokijbdnajhgaa
open Go Go.X

/-- No two are without a join or a meet. -/
def ngB (n : Nat) (f : Nat → Nat → Bool) : Bool := (List.range n).all fun j => (List.range j).all fun i => !gapB n f i j
theorem ngB_iff {n : Nat} {f : Nat → Nat → Bool} : ngB n f = true ↔ ∀ i j, i < j → j < n → gapB n f i j = false := by
  unfold ngB
  rw [rall_iff]
  constructor
  · intro h i j hi hj
    have := rall_iff.1 (h j hj) i hi
    simpa using this
  · intro h j hj
    rw [rall_iff]
    intro i hi
    rw [h i j hi hj]; rfl
theorem gapR_ng {n x y : Nat} {f : Nat → Nat → Bool} {b : Bool} (h : gapR n f x y b) : b = !ngB n f := by
  rcases h with ⟨h1, h2, h3, h4, _⟩ | ⟨h1, _, _, h4⟩
  · rw [h1, show ngB n f = false from by
      rw [Bool.eq_false_iff]; intro h; have := ngB_iff.1 h x y h2 h3; rw [h4] at this; cases this]; rfl
  · rw [h1, ngB_iff.2 h4]; rfl
/-- What is wrong with a lattice. -/
def opnC (p : List (List Bool)) : Int := if chkT p = 0 then (if ngB p.length (pb p) then 0 else 91) else chkT p
theorem opnC_bad {p : List (List Bool)} (h : chkT p ≠ 0) : opnC p = chkT p := if_neg h
theorem opnC_gap {p : List (List Bool)} (h : chkT p = 0) {x y : Nat} (hg : gapR p.length (pb p) x y true) : opnC p = 91 := by
  unfold opnC
  have := gapR_ng hg
  rw [if_pos h, if_neg (by rw [show ngB p.length (pb p) = false from by simpa using this.symm]; simp)]
theorem opnC_ok {p : List (List Bool)} (h : chkT p = 0) {x y : Nat} (hg : gapR p.length (pb p) x y false) : opnC p = 0 := by
  unfold opnC
  have := gapR_ng hg
  rw [if_pos h, if_pos (by simpa using this.symm)]
theorem gapR_true {n x y : Nat} {f : Nat → Nat → Bool} {b : Bool} (h : gapR n f x y b) (hb : b = true) : gapR n f x y true := by subst hb; exact h
theorem gapR_false {n x y : Nat} {f : Nat → Nat → Bool} {b : Bool} (h : gapR n f x y b) (hb : b = false) : gapR n f x y false := by subst hb; exact h
theorem opnC_zero {p : List (List Bool)} (h : opnC p = 0) : chkT p = 0 ∧ ngB p.length (pb p) = true := by
  unfold opnC at h
  by_cases c : chkT p = 0
  · rw [if_pos c] at h
    by_cases d : ngB p.length (pb p) = true
    · exact ⟨c, d⟩
    · rw [if_neg d] at h; omega
  · rw [if_neg c] at h; exact absurd h c
/-- The tables that 'open' gives. -/
def opnP (p : List (List Bool)) (rj rm : List (List Int)) : Prop := (opnC p ≠ 0 ∧ rj = [] ∧ rm = []) ∨ (opnC p = 0 ∧ rj = tabI p.length (joinF p.length (pb p)) ∧ rm = tabI p.length (meetF p.length (pb p)))
theorem opnP_ok {p : List (List Bool)} {rj rm : List (List Int)} (h : opnP p rj rm) (hz : opnC p = 0) : rj = tabI p.length (joinF p.length (pb p)) ∧ rm = tabI p.length (meetF p.length (pb p)) := by
  rcases h with ⟨h1, _⟩ | ⟨_, h2⟩
  · exact absurd hz h1
  · exact h2
set_option maxRecDepth 10000 in
theorem open_spec (h : Heap) (vp : Value) (hs : List Hdr) (p : List (List Bool)) (hr_vp : RdE encHd h vp hs) (ht_vp : RT encB h hs p) (hp1 : p.length ≤ 1000000) (hp2 : ∀ i, i < p.length → (gt p i).length ≤ 1000000) : Fx Try.prog 92 [vp] h (fun v h' => ∃ (s1 : Value) (s2 : Value) (h1 : List Hdr) (h2 : List Hdr) (rj : List (List Int)) (rm : List (List Int)), v = .tuple #[.agg #[s1, s2], .int .i64 (opnC p)] ∧ OwE encHd h' h.size 25 s1 h1 ∧ OT encI h' h.size 3 h1 rj ∧ OwE encHd h' h.size 25 s2 h2 ∧ OT encI h' h.size 3 h2 rm ∧ (opnP p rj rm) ∧ Ext h.size h h') := by
  have hl_vp := ht_vp.1
  refine fx_intro (n := 26) [(0, vp)] Try.func92 rfl rfl (by simp) ⟨rfl, trivial⟩ fun g0 => ?_
  refine wi_seq <| wi_reg rfl <| lx_alloc rfl rfl Try.zeroValue119 (fun _ _ _ => trivial) fun bn1 h1 hbn1 hbk1 hx1 hsz1 => ?_
  have hbb1 : h.size ≤ bn1 := by have := (Nat.le_refl h.size); omega
  have hbk1 : Blk h1 bn1 #[.slice none 0 0, .slice none 0 0] 119 := hbk1
  refine lx_assign (.int .i64 0) rfl rfl <| lx_nil <| wi_seq <| wi_seq <| wi_reg rfl <| lx_move (vp) rfl rfl <| lx_call [vp] rfl rfl Try.call62 rfl (ocheck_spec h1 vp hs p (hr_vp.extS hx1) (ht_vp.extS hx1) (by omega) (by first | with_reducible assumption | omega)) (fun _ _ _ => trivial) ?_
  rintro _ h2 ⟨rfl, hx2⟩
  have hx0_1 := hx1.trans2 hx2 hx1.size
  have hb1 := hbk1.extS hx2
  refine lx_assign (.int .i64 (chkT p)) rfl rfl <| lx_nil <| wi_seq <| wi_reg rfl <| lx_move (.int .i64 (chkT p)) rfl rfl <| lx_neqS rfl rfl rfl (fun c1 => ?_) (fun c1 => ?_)
  · refine lx_nil <| wi_true rfl <| wi_seq <| wi_reg rfl <| lx_build (.agg #[.slice none 0 0, .slice none 0 0]) [] rfl rfl (fun w => bldL0 st119 Try.zeroValue119 w) <| lx_move (.int .i64 (chkT p)) rfl rfl <| lx_stBA (#[.slice none 0 0, .slice none 0 0]) rfl rfl Try.sizeOf119 hb1 rfl rfl rfl rfl (one2 rfl rfl) (fun _ _ _ _ => trivial) fun h3 hbk2 hc1 => ?_
    have hx0_2 := hx0_1.trans (hc1.ext hbb1)
    refine lx_assign (.int .i64 (chkT p)) rfl rfl <| lx_nil <| ?_
    -- R1
    refine wi_ret ⟨.tuple #[.agg #[.slice none 0 0, .slice none 0 0], .int .i64 (chkT p)], (res_cell2 rfl rfl hbk2 wd119 rfl rfl), ⟨.slice none 0 0, .slice none 0 0, [], [], [], [], ?_, (owE_nil encHd _ h.size 25), (OT.nil encI _ h.size 3), (owE_nil encHd _ h.size 25), (OT.nil encI _ h.size 3), ?_, hx0_2⟩⟩
    · rw [opnC_bad (by omega)]
    · exact .inl ⟨by rw [opnC_bad (by omega)]; omega, rfl, rfl⟩
  · refine lx_nil <| wi_false rfl <| wi_skip <| wi_seq <| wi_reg rfl <| ?_
    have hok := chkT_ok (p := p) (by omega)
    have hp12 : p.length ≤ 12 := hok.2.1
    have hpq : Sq p p.length := isT_sq hok.2.2
    refine lx_move (vp) rfl rfl <| lx_call [vp] rfl rfl Try.call89 rfl (tables_spec h2 vp hs p (hr_vp.extS hx0_1) (ht_vp.extS hx0_1) (by omega) (by first | with_reducible assumption | omega)) (fun _ _ _ => trivial) ?_
    rintro _ h4 ⟨vj, vm, hj, hm, rfl, ho1, hot1, ho2, hot2, hx3⟩
    have hx0_3 := hx0_1.trans2 hx3 hx0_1.size
    have hb2 := hb1.extS hx3
    have ho3 := ho1.base hx0_1.size
    have hot3 := hot1.base hx0_1.size
    have hl_hot3 := hot3.1
    have ho4 := ho2.base hx0_1.size
    have hot4 := hot2.base hx0_1.size
    have hl_hot4 := hot4.1
    refine lx_alloc rfl rfl Try.zeroValue119 (fun _ _ _ => trivial) fun bn2 h5 hbn2 hbk3 hx4 hsz2 => ?_
    have hbb2 : h.size ≤ bn2 := by have := hx0_3.size; omega
    have hne1 : bn2 ≠ bn1 := by have := hb2.lt; omega
    have hdj1 : Value.ownBlock vj ≠ some bn2 := by intro e; have := (ho3.lt e).2; omega
    have hnb1 : Nbt hj bn2 := nbt_new hot3 (by omega)
    have hdj2 : Value.ownBlock vm ≠ some bn2 := by intro e; have := (ho4.lt e).2; omega
    have hnb2 : Nbt hm bn2 := nbt_new hot4 (by omega)
    have hx0_4 := hx0_3.trans2 hx4 hx0_3.size
    have ho5 := ho3.extS hx4
    have hot5 := hot3.extS hx4
    have ho6 := ho4.extS hx4
    have hot6 := hot4.extS hx4
    have hb3 := hb2.extS hx4
    have hbk3 : Blk h5 bn2 #[.slice none 0 0, .slice none 0 0] 119 := hbk3
    refine lx_stBA (#[vj, vm]) rfl rfl Try.sizeOf119 hbk3 rfl rfl rfl rfl (one2 (sl_one ho5.rd) (sl_one ho6.rd)) (fun _ _ _ _ => trivial) fun h6 hbk4 hc2 => ?_
    have hx0_5 := hx0_4.trans (hc2.ext hbb2)
    have ho7 := hc2.owE ho5 hdj1
    have hot7 := hot5.chgB hc2 hnb1
    have ho8 := hc2.owE ho6 hdj2
    have hot8 := hot6.chgB hc2 hnb2
    have hb4 := hc2.blk hb3 (Ne.symm hne1)
    refine lx_nil <| wi_seq <| wi_seq <| wi_reg rfl <| lx_ldBA rfl rfl wd119 hbk4 rfl rfl <| lx_call [.agg #[vj, vm]] rfl rfl Try.call90 rfl (gap_spec h6 p.length ((pb p)) vj hj (tabI p.length (joinF p.length (pb p))) vm hm (tabI p.length (meetF p.length (pb p))) ho7.rd hot7.rt ho8.rd hot8.rt (by omega) rfl rfl) (fun _ _ _ => trivial) ?_
    rintro _ h7 ⟨gx, gy, gb, rfl, hgap, hx5⟩
    have hx0_6 := hx0_5.trans2 hx5 hx0_5.size
    have ho9 := ho7.extS hx5
    have hot9 := hot7.extS hx5
    have ho10 := ho8.extS hx5
    have hot10 := hot8.extS hx5
    have hb5 := hb4.extS hx5
    have hb6 := hbk4.extS hx5
    refine lx_move (.tuple #[.int .i64 ((gx : Nat) : Int), .int .i64 ((gy : Nat) : Int), .bool gb]) rfl rfl <| lx_extract (.int .i64 ((gx : Nat) : Int)) rfl rfl rfl <| lx_extract (.int .i64 ((gy : Nat) : Int)) rfl rfl rfl <| lx_extract (.bool gb) rfl rfl rfl <| lx_assign (.int .i64 ((gx : Nat) : Int)) rfl rfl <| lx_assign (.int .i64 ((gy : Nat) : Int)) rfl rfl <| lx_assign (.bool gb) rfl rfl <| lx_nil <| wi_seq <| wi_reg rfl <| lx_move (.bool gb) rfl rfl <| lx_nil <| wi_condS (t := gb) rfl (fun c2 => ?_) (fun c2 => ?_)
    · refine wi_seq <| wi_reg rfl <| lx_build (.agg #[.slice none 0 0, .slice none 0 0]) [] rfl rfl (fun w => bldL0 st119 Try.zeroValue119 w) <| lx_stBA (#[.slice none 0 0, .slice none 0 0]) rfl rfl Try.sizeOf119 hb5 rfl rfl rfl rfl (one2 rfl rfl) (fun _ _ _ _ => trivial) fun h8 hbk5 hc3 => ?_
      have hx0_7 := hx0_6.trans (hc3.ext hbb1)
      have ho11 := hc3.owE ho9 (nb_new hb1 ho1)
      have hot11 := hot9.chgB hc3 (nbt_ty hot9 hb5 (by decide))
      have ho12 := hc3.owE ho10 (nb_new hb1 ho2)
      have hot12 := hot10.chgB hc3 (nbt_ty hot10 hb5 (by decide))
      have hb7 := hc3.blk hb6 hne1
      refine lx_assign (.int .i64 91) rfl rfl <| lx_nil <| ?_
      -- R2
      refine wi_ret ⟨.tuple #[.agg #[.slice none 0 0, .slice none 0 0], .int .i64 91], (res_cell2 rfl rfl hbk5 wd119 rfl rfl), ⟨.slice none 0 0, .slice none 0 0, [], [], [], [], ?_, (owE_nil encHd _ h.size 25), (OT.nil encI _ h.size 3), (owE_nil encHd _ h.size 25), (OT.nil encI _ h.size 3), ?_, hx0_7⟩⟩
      · rw [opnC_gap (by omega) (gapR_true hgap (by assumption))]
      · exact .inl ⟨by rw [opnC_gap (by omega) (gapR_true hgap (by assumption))]; omega, rfl, rfl⟩
    · refine wi_skip <| wi_seq <| wi_reg rfl <| lx_ldBA rfl rfl wd119 hb6 rfl rfl <| lx_stBA (#[vj, vm]) rfl rfl Try.sizeOf119 hb5 rfl rfl rfl rfl (one2 (sl_one ho9.rd) (sl_one ho10.rd)) (fun _ _ _ _ => trivial) fun h9 hbk6 hc4 => ?_
      have hx0_8 := hx0_6.trans (hc4.ext hbb1)
      have ho13 := hc4.owE ho9 (nb_new hb1 ho1)
      have hot13 := hot9.chgB hc4 (nbt_ty hot9 hb5 (by decide))
      have ho14 := hc4.owE ho10 (nb_new hb1 ho2)
      have hot14 := hot10.chgB hc4 (nbt_ty hot10 hb5 (by decide))
      have hb8 := hc4.blk hb6 hne1
      refine lx_assign (.int .i64 0) rfl rfl <| lx_nil <| ?_
      -- R3
      refine wi_ret ⟨.tuple #[.agg #[vj, vm], .int .i64 0], (res_cell2 rfl rfl hbk6 wd119 rfl rfl), ⟨vj, vm, hj, hm, tabI p.length (joinF p.length (pb p)), tabI p.length (meetF p.length (pb p)), ?_, ho13, hot13, ho14, hot14, ?_, hx0_8⟩⟩
      · rw [opnC_ok (by omega) (gapR_false hgap (by assumption))]
      · exact .inr ⟨opnC_ok (by omega) (gapR_false hgap (by assumption)), rfl, rfl⟩

set_option maxRecDepth 10000 in
theorem joinEls_spec (h : Heap) (vp : Value) (hs : List Hdr) (p : List (List Bool)) (hr_vp : RdE encHd h vp hs) (ht_vp : RT encB h hs p) (hp1 : p.length ≤ 1000000) (hp2 : ∀ i, i < p.length → (gt p i).length ≤ 1000000) : Fx Try.prog 32 [vp] h (fun v h' => ∃ (s : Value) (xs : List Int), v = .tuple #[s, .int .i64 (opnC p)] ∧ OwE encI h' h.size 3 s xs ∧ (xs = if opnC p = 0 then jelF p.length (pb p) else []) ∧ Ext h.size h h') := by
  have hl_vp := ht_vp.1
  refine fx_intro (n := 16) [(0, vp)] Try.func32 rfl rfl (by simp) ⟨rfl, trivial⟩ fun g0 => ?_
  refine wi_seq <| wi_reg rfl <| lx_assign (.slice none 0 0) rfl rfl <| lx_assign (.int .i64 0) rfl rfl <| lx_nil <| wi_seq <| wi_seq <| wi_reg rfl <| lx_move (vp) rfl rfl <| lx_call [vp] rfl rfl Try.call92 rfl (open_spec h vp hs p hr_vp ht_vp (by omega) (by first | with_reducible assumption | omega)) (fun _ _ _ => trivial) ?_
  rintro _ h1 ⟨vj, vm, hj, hm, rj, rm, rfl, ho1, hot1, ho2, hot2, hop, hx1⟩
  have ho3 := ho1.base (Nat.le_refl h.size)
  have hot3 := hot1.base (Nat.le_refl h.size)
  have hl_hot3 := hot3.1
  have ho4 := ho2.base (Nat.le_refl h.size)
  have hot4 := hot2.base (Nat.le_refl h.size)
  have hl_hot4 := hot4.1
  refine lx_move (.tuple #[.agg #[vj, vm], .int .i64 (opnC p)]) rfl rfl <| lx_extract (.agg #[vj, vm]) rfl rfl rfl <| lx_extract (.int .i64 (opnC p)) rfl rfl rfl <| lx_alloc rfl rfl Try.zeroValue119 (fun _ _ _ => trivial) fun bn1 h2 hbn1 hbk1 hx2 hsz1 => ?_
  have hbb1 : h.size ≤ bn1 := by have := hx1.size; omega
  have hdj1 : Value.ownBlock vj ≠ some bn1 := by intro e; have := (ho3.lt e).2; omega
  have hnb1 : Nbt hj bn1 := nbt_new hot3 (by omega)
  have hdj2 : Value.ownBlock vm ≠ some bn1 := by intro e; have := (ho4.lt e).2; omega
  have hnb2 : Nbt hm bn1 := nbt_new hot4 (by omega)
  have hx0_1 := hx1.trans2 hx2 hx1.size
  have ho5 := ho3.extS hx2
  have hot5 := hot3.extS hx2
  have ho6 := ho4.extS hx2
  have hot6 := hot4.extS hx2
  have hbk1 : Blk h2 bn1 #[.slice none 0 0, .slice none 0 0] 119 := hbk1
  refine lx_stBA (#[vj, vm]) rfl rfl Try.sizeOf119 hbk1 rfl rfl rfl rfl (one2 (sl_one ho5.rd) (sl_one ho6.rd)) (fun _ _ _ _ => trivial) fun h3 hbk2 hc1 => ?_
  have hx0_2 := hx0_1.trans (hc1.ext hbb1)
  have ho7 := hc1.owE ho5 hdj1
  have hot7 := hot5.chgB hc1 hnb1
  have ho8 := hc1.owE ho6 hdj2
  have hot8 := hot6.chgB hc1 hnb2
  refine lx_assign (.int .i64 (opnC p)) rfl rfl <| lx_nil <| wi_seq <| wi_reg rfl <| lx_move (.int .i64 (opnC p)) rfl rfl <| lx_neqS rfl rfl rfl (fun c1 => ?_) (fun c1 => ?_)
  · refine lx_nil <| wi_true rfl <| wi_seq <| wi_reg rfl <| lx_move (.int .i64 (opnC p)) rfl rfl <| lx_assign (.slice none 0 0) rfl rfl <| lx_assign (.int .i64 (opnC p)) rfl rfl <| lx_nil <| ?_
    -- R1
    refine wi_ret ⟨.tuple #[.slice none 0 0, .int .i64 (opnC p)], (res_two rfl rfl rfl), ⟨.slice none 0 0, [], rfl, (owE_nil encI _ h.size 3), ?_, hx0_2⟩⟩
    · rw [if_neg (by omega)]
  · refine lx_nil <| wi_false rfl <| wi_skip <| wi_seq <| wi_reg rfl <| ?_
    have hz := opnC_zero (p := p) (by omega)
    have hok := chkT_ok (p := p) hz.1
    have hp12 : p.length ≤ 12 := hok.2.1
    have hpq : Sq p p.length := isT_sq hok.2.2
    have hio := isT_o hok.2.2
    have hng : noGap p.length (pb p) := ngB_iff.1 hz.2
    obtain ⟨hrj, hrm⟩ : rj = tabI p.length (joinF p.length (pb p)) ∧ rm = tabI p.length (meetF p.length (pb p)) := opnP_ok hop (by omega)
    refine lx_move (vp) rfl rfl <| lx_call [vp] rfl rfl Try.call93 rfl (joinElements_spec h3 vp hs p (hr_vp.extS hx0_2) (ht_vp.extS hx0_2) (by omega) (by first | with_reducible assumption | omega)) (fun _ _ _ => trivial) ?_
    rintro v1 h4 ⟨_, rfl, ho9, hx3⟩
    have hx0_3 := hx0_2.trans2 hx3 hx0_2.size
    have ho10 := ho7.extS hx3
    have hot9 := hot7.extS hx3
    have ho11 := ho8.extS hx3
    have hot10 := hot8.extS hx3
    have hb1 := hbk2.extS hx3
    have ho12 := ho9.base hx0_2.size
    refine lx_assign (v1) rfl rfl <| lx_assign (.int .i64 0) rfl rfl <| lx_nil <| ?_
    -- R2
    refine wi_ret ⟨.tuple #[v1, .int .i64 0], (res_two rfl rfl rfl), ⟨v1, jelF p.length (pb p), ?_, ho12, ?_, hx0_3⟩⟩
    · rw [show opnC p = 0 from by omega]
    · rw [if_pos (by omega)]

end Go.Proofs.Ytdokijbdnajhgaa
namespace Go.X
section
variable {P : Program} {S : Heap → Prop} {kd : Oper → Kd} {ops : Array Oper}

/-- A free operation may come before 'i'. -/
theorem push_free {K : Env → Heap → Prop} {i m fuel : Nat} {oi om : Oper} {listed : Array Bool} {e : Env} {h : Heap} (hi : ops[i]? = some oi) (hm : ops[m]? = some om) (hsel : ∀ (j : Nat) (o : Oper) cs b, ops[j]? = some o → o.op ≠ .select cs b)
    (hmi : m ≠ i) (hap : oi.apart ops om = true) (hfr : kd om = .free) (hrm : m ∈ Region.ready .any ops listed) (hS : S h)
    (H : obAt P S kd ops i (anyX P S kd ops K (fuel + 1) (listed.setIfInBounds i true)) e h) :
    ∃ v, FreeAt P S ops om e v ∧ obAt P S kd ops i (anyX P S kd ops K fuel ((listed.setIfInBounds m true).setIfInBounds i true)) (putE e om.dst v) h := by
  have hsi := fun cs b => hsel i oi cs b hi
  have hsj := fun cs b => hsel m om cs b hm
  obtain ⟨h1, h2, h3⟩ := Oper.apart_spec hap
  have hrj := ready_mono hrm hmi
  have hcomm : (listed.setIfInBounds i true).setIfInBounds m true = (listed.setIfInBounds m true).setIfInBounds i true := Array.setIfInBounds_comm _ _ (Ne.symm hmi)
  by_cases hA : kd oi = .free ∨ Region.wanted oi (yieldE ops e) = false
  · obtain ⟨v, hv, hK⟩ := freeAt_of_obAt hi hA H
    obtain ⟨vm, hvm, hK2⟩ := freeAt_of_obAt hm (.inl hfr) (hK.2 m hrj)
    have hvm' : FreeAt P S ops om e vm := hvm.of_same (execOp_putE om hsj e oi.dst v h1).symm (wanted_putE om e oi.dst v h1).symm
    refine ⟨vm, hvm', FreeAt.obAt hi (hv.of_same (execOp_putE oi hsi e om.dst vm h3) (wanted_putE oi e om.dst vm h3)) ?_⟩
    rw [← hcomm, ← putE_comm e v vm h2]
    exact hK2
  · have hwi : Region.wanted oi (yieldE ops e) = true := by
      cases hw : Region.wanted oi (yieldE ops e) with
      | true => rfl
      | false => exact absurd (Or.inr hw) hA
    have H0 : Ob P S (kd oi) oi e h (fun v h' => anyX P S kd ops K (fuel + 1) (listed.setIfInBounds i true) (putE e oi.dst v) h') := by
      unfold obAt at H
      simp only [hi, hwi, if_true] at H
      exact H
    have hwj : ∀ v, Region.wanted om (yieldE ops (putE e oi.dst v)) = Region.wanted om (yieldE ops e) := fun v => wanted_putE om e oi.dst v h1
    obtain ⟨v0, h0, hs0, H1⟩ := ob_exists hS H0
    obtain ⟨vj, hvj, _⟩ := freeAt_of_obAt hm (.inl hfr) (H1.2 m hrj)
    have hvj' : FreeAt P S ops om e vj := hvj.of_same (execOp_putE om hsj e oi.dst v0 h1).symm (hwj v0).symm
    refine ⟨vj, hvj', ?_⟩
    unfold obAt
    simp only [hi, wanted_putE oi e om.dst vj h3, hwi, if_true]
    refine ob_mono hS ?_ (ob_same (execOp_putE oi hsi e om.dst vj h3) H0)
    intro v h' hs' hk
    obtain ⟨v', hv', hK'⟩ := freeAt_of_obAt hm (.inl hfr) (hk.2 m hrj)
    have : vj = v' := FreeAt.det hs' (hvj'.of_same (execOp_putE om hsj e oi.dst v h1) (hwj v)) hv'
    subst this
    rw [← hcomm, ← putE_comm e v vj h2]
    exact hK'

theorem anyX_either {K : Env → Heap → Prop} {i j : Nat} {oi oj : Oper} (F : Nat) (hi : ops[i]? = some oi) (hj : ops[j]? = some oj) (hsel : ∀ (j : Nat) (o : Oper) cs b, ops[j]? = some o → o.op ≠ .select cs b) (hij : i ≠ j) :
    ∀ (fuel : Nat) (listed : Array Bool) (e : Env) (h : Heap),
      (∀ m om, ops[m]? = some om → m ≠ i → m ≠ j → listed.getD m true = false → (beforeB ops F i m = true ∨ beforeB ops F j m = true) ∨ (oi.apart ops om = true ∧ oj.apart ops om = true ∧ kd om = .free)) →
      Closed ops listed → i ∈ Region.ready .any ops listed → j ∈ Region.ready .any ops listed → S h →
      obAt P S kd ops i (anyX P S kd ops K fuel (listed.setIfInBounds i true)) e h → obAt P S kd ops j (anyX P S kd ops K fuel (listed.setIfInBounds j true)) e h → anyX P S kd ops K (fuel + 1) listed e h := by
  intro fuel
  induction fuel with
  | zero =>
    intro listed e h _ _ hri hrj hS H1 H2
    refine ⟨fun h0 => (by rw [h0] at hri; cases hri), fun m hm => ?_⟩
    by_cases hmi : m = i
    · subst hmi; exact H1
    · obtain ⟨_, _, _, H'⟩ := obAt_exists hS H1
      have := ready_mono hm hmi
      rw [H'.1] at this
      cases this
  | succ fuel ih =>
    intro listed e h hfree hc hri hrj hS H1 H2
    refine ⟨fun h0 => (by rw [h0] at hri; cases hri), fun m hm => ?_⟩
    by_cases hmi : m = i
    · subst hmi; exact H1
    by_cases hmj : m = j
    · subst hmj; exact H2
    obtain ⟨hmun, om, hom, _⟩ := mem_ready.1 hm
    rcases hfree m om hom hmi hmj hmun with (hb | hb) | ⟨hap1, hap2, hfr⟩
    · exact absurd hb (ready_listed hc hri hm F)
    · exact absurd hb (ready_listed hc hrj hm F)
    obtain ⟨v1, hv1, K1⟩ := push_free hi hom hsel hmi hap1 hfr hm hS H1
    obtain ⟨v2, hv2, K2⟩ := push_free hj hom hsel hmj hap2 hfr hm hS H2
    have : v1 = v2 := FreeAt.det hS hv1 hv2
    subst this
    refine hv1.obAt hom (ih _ _ h (fun k ok hk hki hkj hun => hfree k ok hk hki hkj ?_) (hc.set hm) (ready_mono hri (Ne.symm hmi)) (ready_mono hrj (Ne.symm hmj)) hS K1 K2)
    by_cases hmk : m = k
    · subst hmk; exact hmun
    · rw [getD_set_ne true hmk] at hun; exact hun

/-- What must hold where operation 'k' is drawn first. -/
def okAt (kd : Oper → Kd) (ops : Array Oper) (F k : Nat) (listed : Array Bool) : Bool :=
  (Region.ready .any ops listed).contains k &&
  ((List.range ops.size).all fun j => j == k || listed.getD j true || (match ops[k]?, ops[j]? with | some ok, some oj => ok.apart ops oj && commB kd ok oj | _, _ => false) || beforeB ops F k j)
def isFree : Kd → Bool
  | .free => true
  | _ => false
theorem isFree_eq {k : Kd} (h : isFree k = true) : k = .free := by cases k <;> simp_all [isFree]
/-- The two. -/
def okPair (kd : Oper → Kd) (ops : Array Oper) (F i : Nat) (listed : Array Bool) : Bool :=
  (Region.ready .any ops listed).contains i && (Region.ready .any ops listed).contains (i + 1) &&
  ((List.range ops.size).all fun m => m == i || m == i + 1 || listed.getD m true || (beforeB ops F i m || beforeB ops F (i + 1) m) || (match ops[i]?, ops[i + 1]?, ops[m]? with | some oi, some oj, some om => oi.apart ops om && oj.apart ops om && isFree (kd om) | _, _, _ => false)) &&
  okAt kd ops F (i + 1) (listed.setIfInBounds i true) && okAt kd ops F i (listed.setIfInBounds (i + 1) true) &&
  okFrom kd ops F (ops.size - (i + 2)) (i + 2) ((listed.setIfInBounds i true).setIfInBounds (i + 1) true)
def okTwo (kd : Oper → Kd) (ops : Array Oper) (F i : Nat) : Nat → Nat → Array Bool → Bool
  | 0, k, listed => k == i && okPair kd ops F i listed
  | n + 1, k, listed => okAt kd ops F k listed && okTwo kd ops F i n (k + 1) (listed.setIfInBounds k true)
theorem okAt_first {K : Env → Heap → Prop} {F k : Nat} {ok : Oper} (hs : Region.noSelect ops = true) (h0 : ops[k]? = some ok) {listed : Array Bool} (hB : okAt kd ops F k listed = true) (hc : Closed ops listed) {e : Env} {h : Heap} {fuel : Nat} (hS : S h)
    (H : obAt P S kd ops k (anyX P S kd ops K fuel (listed.setIfInBounds k true)) e h) : anyX P S kd ops K (fuel + 1) listed e h := by
  simp only [okAt, Bool.and_eq_true] at hB
  obtain ⟨hr, hf⟩ := hB
  refine anyX_first F h0 (Region.noSelect_spec hs) fuel listed e h ?_ hc (by simpa using hr) hS H
  intro j oj hj hjk hun
  have hlt : j < ops.size := (Array.getElem?_eq_some_iff.1 hj).1
  have h1 := List.all_eq_true.1 hf j (List.mem_range.2 hlt)
  simp only [h0, hj, Bool.or_eq_true, beq_iff_eq, Bool.and_eq_true] at h1
  rcases h1 with ((h1 | h1) | h1) | h1
  · exact absurd h1 hjk
  · rw [hun] at h1; cases h1
  · exact .inr h1
  · exact .inl h1
theorem obAt_lx {K : Env → Heap → Prop} {k : Nat} {o : Oper} {l : List Oper} (h0 : ops[k]? = some o) {e : Env} {h : Heap} (H : Lx P S kd ops (o :: l) K e h) : obAt P S kd ops k (Lx P S kd ops l K) e h := by unfold obAt; simp only [h0]; exact H
theorem anyX_two {K : Env → Heap → Prop} {F i : Nat} {oi oj : Oper} {post : List Oper} (hs : Region.noSelect ops = true) (hi : ops[i]? = some oi) (hj : ops[i + 1]? = some oj) (hpost : ∀ q, post[q]? = ops[i + 2 + q]?) (hlen : post.length = ops.size - (i + 2)) :
    ∀ (l : List Oper) (k : Nat) (listed : Array Bool) (e : Env) (h : Heap), (∀ q, q < l.length → l[q]? = ops[k + q]?) → okTwo kd ops F i l.length k listed = true → Closed ops listed → S h →
    Lx P S kd ops l (fun e h => Lx P S kd ops (oi :: oj :: post) K e h ∧ Lx P S kd ops (oj :: oi :: post) K e h) e h → anyX P S kd ops K (l.length + (post.length + 2)) listed e h
  | [], k, listed, e, h, _, hB, hc, hS, H => by
    simp only [List.length_nil, okTwo, Bool.and_eq_true, beq_iff_eq] at hB
    obtain ⟨rfl, hB⟩ := hB
    simp only [okPair, Bool.and_eq_true] at hB
    obtain ⟨⟨⟨⟨⟨hri, hrj⟩, hall⟩, hj1⟩, hi1⟩, hpo⟩ := hB
    have hri' : k ∈ Region.ready .any ops listed := by simpa using hri
    have hrj' : k + 1 ∈ Region.ready .any ops listed := by simpa using hrj
    have hci := hc.set hri'
    have hcj := hc.set hrj'
    have hrj2 : k + 1 ∈ Region.ready .any ops (listed.setIfInBounds k true) := ready_mono hrj' (by omega)
    have hcij := hci.set hrj2
    have hcomm : (listed.setIfInBounds k true).setIfInBounds (k + 1) true = (listed.setIfInBounds (k + 1) true).setIfInBounds k true := Array.setIfInBounds_comm _ _ (by omega)
    have hend : ∀ e' h', S h' → Lx P S kd ops post K e' h' → anyX P S kd ops K post.length ((listed.setIfInBounds k true).setIfInBounds (k + 1) true) e' h' := fun e' h' hs' h5 =>
      anyX_lex F hs post (k + 2) _ e' h' hpost (by rw [hlen]; exact hpo) hcij hs' h5
    rw [show ([] : List Oper).length + (post.length + 2) = post.length + 1 + 1 from by simp]
    refine anyX_either F hi hj (Region.noSelect_spec hs) (by omega) (post.length + 1) listed e h ?_ hc hri' hrj' hS ?_ ?_
    · intro m om hm hmi hmj hun
      have hlt : m < ops.size := (Array.getElem?_eq_some_iff.1 hm).1
      have h1 := List.all_eq_true.1 hall m (List.mem_range.2 hlt)
      simp only [hi, hj, hm, Bool.or_eq_true, beq_iff_eq, Bool.and_eq_true] at h1
      rcases h1 with (((h1 | h1) | h1) | h1) | h1
      · exact absurd h1 hmi
      · exact absurd h1 hmj
      · rw [hun] at h1; cases h1
      · exact .inl h1
      · exact .inr ⟨h1.1.1, h1.1.2, isFree_eq h1.2⟩
    · refine obAt_mono hS (fun e' h' hs' h5 => ?_) (obAt_lx hi H.1)
      exact okAt_first hs hj hj1 hci hs' (obAt_mono hs' (fun e'' h'' hs'' h6 => hend e'' h'' hs'' h6) (obAt_lx hj h5))
    · refine obAt_mono hS (fun e' h' hs' h5 => ?_) (obAt_lx hj H.2)
      exact okAt_first hs hi hi1 hcj hs' (obAt_mono hs' (fun e'' h'' hs'' h6 => by rw [← hcomm]; exact hend e'' h'' hs'' h6) (obAt_lx hi h5))
  | o :: l, k, listed, e, h, hl, hB, hc, hS, H => by
    have h0 : ops[k]? = some o := by have := hl 0 (by simp); simpa using this.symm
    simp only [List.length_cons, okTwo, Bool.and_eq_true] at hB
    have hr : k ∈ Region.ready .any ops listed := by have := hB.1; simp only [okAt, Bool.and_eq_true] at this; simpa using this.1
    rw [show (o :: l).length + (post.length + 2) = l.length + (post.length + 2) + 1 from by simp; omega]
    exact okAt_first hs h0 hB.1 hc hS (obAt_mono hS (fun e' h' hs' h5 => anyX_two hs hi hj hpost hlen l (k + 1) _ e' h' (fun q hq => by have := hl (q + 1) (by simpa using hq); simpa [Nat.add_assoc, Nat.add_comm 1 q] using this) hB.2 (hc.set hr) hs' h5) (obAt_lx h0 H))
end
def swap2 : List Oper → List Oper
  | x :: y :: r => y :: x :: r
  | l => l
section
variable {M : Mo} {P : Program} {n : Nat} {k : List Item} {R : Option Code → Env → Heap → Prop} {e : Env} {h : Heap}
theorem two_split {l : List Oper} {i : Nat} (hi : i + 1 < l.length) : ∃ oi oj post, l.drop i = oi :: oj :: post ∧ l[i]? = some oi ∧ l[i + 1]? = some oj ∧ (∀ q, post[q]? = l[i + 2 + q]?) ∧ post.length = l.length - (i + 2) := by
  refine ⟨l[i], l[i + 1], l.drop (i + 2), ?_, List.getElem?_eq_getElem (by omega), List.getElem?_eq_getElem hi, fun q => by rw [List.getElem?_drop], by simp⟩
  rw [List.drop_eq_getElem_cons (by omega : i < l.length), List.drop_eq_getElem_cons hi]
theorem wi_draw2 {id : Nat} {l : List Oper} (i : Nat) (S : Heap → Prop) (kd : Oper → Kd) (hm : P.follows .mixedOrders = true) (hb : boundsB n l = true) (hok : (decide (i + 1 < l.length) && Region.noSelect l.toArray && okTwo kd l.toArray l.length i i 0 (Array.replicate l.toArray.size false)) = true) (hS : S h)
    (hw : Lx P S kd l.toArray (l.take i) (fun e h => Lx P S kd l.toArray (l.drop i) (WpI M P n k R) e h ∧ Lx P S kd l.toArray (swap2 (l.drop i)) (WpI M P n k R) e h) e h) : WpI M P n (.code (.region id l.toArray true) :: k) R e h :=
  wi_of_wp fun a w hf hh => by
    subst hh
    simp only [Bool.and_eq_true, decide_eq_true_iff] at hok
    obtain ⟨⟨hil, hsel⟩, hok⟩ := hok
    obtain ⟨oi, oj, post, hd, hi, hj, hpost, hlen⟩ := two_split hil
    rw [hd] at hw
    have htl : (l.take i).length = i := by rw [List.length_take]; omega
    have hx := anyX_two (P := P) (S := S) (kd := kd) (ops := l.toArray) (K := WpI M P n k R) (F := l.length) (i := i) (oi := oi) (oj := oj) (post := post) hsel (by simpa using hi) (by simpa using hj) (by intro q; simpa using hpost q) (by simpa using hlen)
      (l.take i) 0 (Array.replicate l.toArray.size false) e w.heap (fun q hq => by rw [List.getElem?_take, if_pos (by omega)]; simp) (by rw [htl]; exact hok) closed_start hS hw
    rw [show (l.take i).length + (post.length + 2) = l.length from by omega] at hx
    refine wpIn_region_any hm ?_
    have := wpAny_of_anyX (ro := M.ro) (P := P) (S := S) hb (w0 := { w with drawn := w.drawn + 1 }) (Q := fun x a' w' => x = .normal ∧ Qt w w' ∧ ∃ e', Fits n M.ds e' a' ∧ WpI M P n k R e' w'.heap) (K := WpI M P n k R)
      (fun e a' w' hf' hq hk => ⟨rfl, ⟨hq.os, hq.tape, hq.output⟩, e, hf', hk⟩) l.length (Array.replicate l.toArray.size false) e a { w with drawn := w.drawn + 1 } hf (Qt.refl _) hS hx
    simpa using this
end
end Go.X
namespace Go.X
section
variable {P : Program} {S : Heap → Prop} {kd : Oper → Kd} {ops : Array Oper} {rest : List Oper} {K : Env → Heap → Prop} {L : List (Nat × Value)} {b : Env} {h : Heap}
variable {d : Nat} {tx ty t : TypeId} {p : String} {af : Array Edge} {g : Option (Nat × Bool)} {x y : Operand}
theorem lx_addU {m n : Int} (r : Int) (hw : Region.wanted ⟨some d, .binOp .add tx x y ty, t, p, af, g⟩ (yieldE ops (ups L b)) = true) (hx : ev (ups L b) x = .int .u64 m) (hy : ev (ups L b) y = .int .u64 n) (hr : m + n = r) (hlo : 0 ≤ r) (hhi : r < 18446744073709551616)
    (hn : Lx P S kd ops rest K (ups ((d, .int .u64 r) :: L) b) h) : Lx P S kd ops (⟨some d, .binOp .add tx x y ty, t, p, af, g⟩ :: rest) K (ups L b) h :=
  lx_free _ hw (fo_int hx hy fun w => by subst hr; simp [binOp, Op.intArith, wrap_u64 hlo hhi]) hn
end
/-- How the library counts bits, step by step. -/
def on1 (x : Nat) : Nat := (x / 2 ^ 1 &&& 6148914691236517205) + (x &&& 6148914691236517205)
def on2 (x : Nat) : Nat := (x / 2 ^ 2 &&& 3689348814741910323) + (x &&& 3689348814741910323)
def on3 (x : Nat) : Nat := (x / 2 ^ 4 + x) &&& 1085102592571150095
def on4 (x : Nat) : Nat := x + x / 2 ^ 8
def on5 (x : Nat) : Nat := x + x / 2 ^ 16
def on6 (x : Nat) : Nat := x + x / 2 ^ 32
def popN (x : Nat) : Nat := (List.range 12).countP fun i => x.testBit i
theorem on_all : ((List.range 4096).all fun x => on1 x ≤ 4096 && on2 (on1 x) ≤ 4096 && on3 (on2 (on1 x)) ≤ 4096 && on4 (on3 (on2 (on1 x))) ≤ 8192 && on5 (on4 (on3 (on2 (on1 x)))) ≤ 8192 && on6 (on5 (on4 (on3 (on2 (on1 x))))) ≤ 8192 && (on6 (on5 (on4 (on3 (on2 (on1 x))))) &&& 127) == popN x) = true := by decide +kernel
theorem on_ok {x : Nat} (h : x < 4096) : on1 x ≤ 4096 ∧ on2 (on1 x) ≤ 4096 ∧ on3 (on2 (on1 x)) ≤ 4096 ∧ on4 (on3 (on2 (on1 x))) ≤ 8192 ∧ on5 (on4 (on3 (on2 (on1 x)))) ≤ 8192 ∧ on6 (on5 (on4 (on3 (on2 (on1 x))))) ≤ 8192 ∧ (on6 (on5 (on4 (on3 (on2 (on1 x))))) &&& 127) = popN x := by
  have := rall_iff.1 on_all x h
  simp only [Bool.and_eq_true, decide_eq_true_iff, beq_iff_eq] at this
  obtain ⟨⟨⟨⟨⟨⟨a, b⟩, c⟩, d⟩, e⟩, f⟩, g⟩ := this
  exact ⟨a, b, c, d, e, f, g⟩
end Go.X
namespace Go.X
theorem popN_le (s : Nat) : popN s ≤ 12 := by
  unfold popN
  have := List.countP_le_length (p := fun i => s.testBit i) (l := List.range 12)
  simpa using this
end Go.X
namespace Go.X
open Go.MapKept
def mapEs (ms : List (Int × Value)) : Array MapEntry := (ms.zipIdx.map fun q => ({ key := .int .i64 q.1.1, val := q.1.2, born := q.2 } : MapEntry)).toArray
def mapObj (ms : List (Int × Value)) : Obj := .map (mapEs ms) ms.length
/-- Block 'l' is a map with these entries, in the order in which they came. -/
def MpO (h : Heap) (l : Nat) (ms : List (Int × Value)) : Prop := h[l]? = some (mapObj ms)
theorem MpO.lt {h : Heap} {l : Nat} {ms : List (Int × Value)} (hm : MpO h l ms) : l < h.size := (Array.getElem?_eq_some_iff.1 hm).1
theorem MpO.extS {h h' : Heap} {l : Nat} {ms : List (Int × Value)} (hm : MpO h l ms) (hx : Ext h.size h h') : MpO h' l ms := (hx.block l hm.lt).trans hm
theorem MpO.nc {h h' : Heap} {l : Nat} {ms : List (Int × Value)} (hm : MpO h l ms) (hx : Nc h h') : MpO h' l ms := hx.2 l _ hm (by intro c t f e; cases e)
/-- Block 'r' is an iterator over the map in block 'l', of 'N' entries, some of which have come. -/
def ItO (h : Heap) (r l N : Nat) (seen : List Nat) : Prop := h[r]? = some (.mapIter (some l) N seen.toArray N)
theorem ItO.lt {h : Heap} {r l N : Nat} {seen : List Nat} (hm : ItO h r l N seen) : r < h.size := (Array.getElem?_eq_some_iff.1 hm).1
theorem ItO.extS {h h' : Heap} {r l N : Nat} {seen : List Nat} (hm : ItO h r l N seen) (hx : Ext h.size h h') : ItO h' r l N seen := (hx.block r hm.lt).trans hm
theorem ItO.nc {h h' : Heap} {r l N : Nat} {seen : List Nat} (hm : ItO h r l N seen) (hx : Nc h h') : ItO h' r l N seen := hx.2 r _ hm (by intro c t f e; cases e)

/-- Where a key stands. -/
def idxM (ms : List (Int × Value)) (k : Int) : Option Nat := ms.findIdx? fun m => m.1 == k
def putM (ms : List (Int × Value)) (k : Int) (v : Value) : List (Int × Value) := match idxM ms k with
  | some i => ms.set i (k, v)
  | none => ms ++ [(k, v)]
def getM (ms : List (Int × Value)) (k : Int) (d : Value) : Value := match idxM ms k with
  | some i => ((ms[i]?).map (·.2)).getD d
  | none => d
theorem getM_cons (m : Int × Value) (ms : List (Int × Value)) (k : Int) (d : Value) : getM (m :: ms) k d = if m.1 = k then m.2 else getM ms k d := by
  unfold getM idxM
  rw [List.findIdx?_cons]
  by_cases e : m.1 = k
  · simp [e]
  · have e2 : (m.1 == k) = false := by simp [e]
    rw [e2, if_neg e]
    cases ms.findIdx? (fun m => m.1 == k) <;> simp
theorem putM_cons (m : Int × Value) (ms : List (Int × Value)) (k : Int) (v : Value) : putM (m :: ms) k v = if m.1 = k then (k, v) :: ms else m :: putM ms k v := by
  unfold putM idxM
  rw [List.findIdx?_cons]
  by_cases e : m.1 = k
  · simp [e]
  · have e2 : (m.1 == k) = false := by simp [e]
    rw [e2, if_neg e]
    cases ms.findIdx? (fun m => m.1 == k) <;> simp
theorem get_put (k q : Int) (v d : Value) : ∀ ms : List (Int × Value), getM (putM ms k v) q d = if q = k then v else getM ms q d
  | [] => by
    show getM [(k, v)] q d = _
    rw [getM_cons]
    by_cases e : k = q
    · simp [e]
    · rw [if_neg e, if_neg (Ne.symm e)]
  | m :: ms => by
    rw [putM_cons]
    by_cases e : m.1 = k
    · rw [if_pos e, getM_cons, getM_cons]
      by_cases e2 : q = k
      · subst e2; simp
      · have e3 : m.1 ≠ q := fun h => e2 (h.symm.trans e)
        rw [if_neg (Ne.symm e2), if_neg e2, if_neg e3]
    · rw [if_neg e, getM_cons, getM_cons, get_put k q v d ms]
      by_cases e2 : q = k
      · subst e2; rw [if_neg e]; simp
      · rw [if_neg e2]; simp [e2]
/-- The map's numbers are these. -/
def MpF (ms : List (Int × Value)) (F : Int → Int) : Prop := ∀ k, getM ms k (.int .i64 0) = .int .i64 (F k)
theorem MpF.put {ms : List (Int × Value)} {F : Int → Int} (h : MpF ms F) (k v : Int) : MpF (putM ms k (.int .i64 v)) fun q => if q = k then v else F q := fun q => by
  rw [get_put]
  show _ = Value.int .i64 (if q = k then v else F q)
  by_cases e : q = k
  · rw [if_pos e, if_pos e]
  · rw [if_neg e, if_neg e]; exact h q
theorem MpF.congr {ms : List (Int × Value)} {F G : Int → Int} (h : MpF ms F) (he : ∀ k, F k = G k) : MpF ms G := fun k => by rw [← he]; exact h k
section
variable {P : Program} {S : Heap → Prop} {kd : Oper → Kd} {ops : Array Oper} {rest : List Oper} {K : Env → Heap → Prop} {L : List (Nat × Value)} {b : Env} {h : Heap}
variable {d : Nat} {t ty kt et : TypeId} {p : String} {af : Array Edge} {g : Option (Nat × Bool)} {x y z : Operand} {l : Nat} {ms : List (Int × Value)}
end
end Go.X
namespace Go.X
/-! ### Sets of keys -/
end Go.X
namespace Go.X
section
variable {P : Program} {S : Heap → Prop} {kd : Oper → Kd} {ops : Array Oper} {rest : List Oper} {K : Env → Heap → Prop} {L : List (Nat × Value)} {b : Env} {h : Heap}
variable {d : Nat} {t ty kt et : TypeId} {p : String} {af : Array Edge} {g : Option (Nat × Bool)} {x y z : Operand} {l : Nat} {ms : List (Int × Value)}
end
section
variable {n i s x : Nat} {f : Nat → Nat → Bool}
end
end Go.X
namespace Go.Proofs.Ytdokijbdnajhgaa
open Go Go.X

set_option maxRecDepth 10000 in
theorem ones64_spec (h : Heap) (x : Nat) (hp1 : x < 4096) : Fx Try.prog 135 [.int .u64 ((x : Nat) : Int)] h (fun v h' => v = .int .i64 ((popN x : Nat) : Int) ∧ h = h') := by
  refine fx_intro (n := 35) [(0, .int .u64 ((x : Nat) : Int))] Try.func135 rfl rfl (by simp) ⟨rfl, trivial⟩ fun g0 => ?_
  refine wi_seq <| wi_reg rfl <| lx_assign (.int .i64 0) rfl rfl <| lx_nil <| wi_seq <| wi_reg rfl <| ?_
  obtain ⟨b1, b2, b3, b4, b5, b6, b7⟩ := on_ok hp1
  have := Nat.div_le_self x (2 ^ 1)
  have : x / 2 ^ 1 &&& 6148914691236517205 ≤ x / 2 ^ 1 := Nat.and_le_left
  have : x &&& 6148914691236517205 ≤ x := Nat.and_le_left
  refine lx_move (.int .u64 ((x : Nat) : Int)) rfl rfl <| lx_shr (m := x) (n := 1) rfl rfl rfl (by show _ ≤ 64; omega) <| lx_and (m := x / 2 ^ 1) (n := 6148914691236517205) rfl rfl rfl (by show _ < 2 ^ 64; omega) (by show _ < 2 ^ 64; omega) (wrap_u64 (by omega) (by omega)) <| lx_move (.int .u64 ((x : Nat) : Int)) rfl rfl <| lx_and (m := x) (n := 6148914691236517205) rfl rfl rfl (by show _ < 2 ^ 64; omega) (by show _ < 2 ^ 64; omega) (wrap_u64 (by omega) (by omega)) <| lx_addU (((((x / 2 ^ 1) &&& 6148914691236517205) + (x &&& 6148914691236517205) : Nat) : Nat) : Int) rfl rfl rfl (by omega) (by omega) (by omega) <| ?_
  generalize hy1 : ((x / 2 ^ 1) &&& 6148914691236517205) + (x &&& 6148914691236517205) = y1
  replace hy1 : on1 x = y1 := hy1
  rw [hy1] at b1 b2 b3 b4 b5 b6 b7
  refine lx_assign (.int .u64 ((y1 : Nat) : Int)) rfl rfl <| lx_nil <| wi_seq <| wi_reg rfl <| ?_
  have := Nat.div_le_self y1 (2 ^ 2)
  have : y1 / 2 ^ 2 &&& 3689348814741910323 ≤ y1 / 2 ^ 2 := Nat.and_le_left
  have : y1 &&& 3689348814741910323 ≤ y1 := Nat.and_le_left
  refine lx_move (.int .u64 ((y1 : Nat) : Int)) rfl rfl <| lx_shr (m := y1) (n := 2) rfl rfl rfl (by show _ ≤ 64; omega) <| lx_and (m := y1 / 2 ^ 2) (n := 3689348814741910323) rfl rfl rfl (by show _ < 2 ^ 64; omega) (by show _ < 2 ^ 64; omega) (wrap_u64 (by omega) (by omega)) <| lx_move (.int .u64 ((y1 : Nat) : Int)) rfl rfl <| lx_and (m := y1) (n := 3689348814741910323) rfl rfl rfl (by show _ < 2 ^ 64; omega) (by show _ < 2 ^ 64; omega) (wrap_u64 (by omega) (by omega)) <| lx_addU (((((y1 / 2 ^ 2) &&& 3689348814741910323) + (y1 &&& 3689348814741910323) : Nat) : Nat) : Int) rfl rfl rfl (by omega) (by omega) (by omega) <| ?_
  generalize hy2 : ((y1 / 2 ^ 2) &&& 3689348814741910323) + (y1 &&& 3689348814741910323) = y2
  replace hy2 : on2 y1 = y2 := hy2
  rw [hy2] at b2 b3 b4 b5 b6 b7
  refine lx_assign (.int .u64 ((y2 : Nat) : Int)) rfl rfl <| lx_nil <| wi_seq <| wi_reg rfl <| ?_
  have := Nat.div_le_self y2 (2 ^ 4)
  have : (y2 / 2 ^ 4 + y2) &&& 1085102592571150095 ≤ (y2 / 2 ^ 4 + y2) := Nat.and_le_left
  refine lx_move (.int .u64 ((y2 : Nat) : Int)) rfl rfl <| lx_shr (m := y2) (n := 4) rfl rfl rfl (by show _ ≤ 64; omega) <| lx_move (.int .u64 ((y2 : Nat) : Int)) rfl rfl <| lx_addU ((((y2 / 2 ^ 4) + y2 : Nat) : Nat) : Int) rfl rfl rfl (by omega) (by omega) (by omega) <| lx_and (m := (y2 / 2 ^ 4) + y2) (n := 1085102592571150095) rfl rfl rfl (by show _ < 2 ^ 64; omega) (by show _ < 2 ^ 64; omega) (wrap_u64 (by omega) (by omega)) <| ?_
  generalize hy3 : ((y2 / 2 ^ 4) + y2) &&& 1085102592571150095 = y3
  replace hy3 : on3 y2 = y3 := hy3
  rw [hy3] at b3 b4 b5 b6 b7
  refine lx_assign (.int .u64 ((y3 : Nat) : Int)) rfl rfl <| lx_nil <| wi_seq <| wi_reg rfl <| ?_
  have := Nat.div_le_self y3 (2 ^ 8)
  refine lx_move (.int .u64 ((y3 : Nat) : Int)) rfl rfl <| lx_move (.int .u64 ((y3 : Nat) : Int)) rfl rfl <| lx_shr (m := y3) (n := 8) rfl rfl rfl (by show _ ≤ 64; omega) <| lx_addU (((y3 + (y3 / 2 ^ 8) : Nat) : Nat) : Int) rfl rfl rfl (by omega) (by omega) (by omega) <| ?_
  generalize hy4 : y3 + (y3 / 2 ^ 8) = y4
  replace hy4 : on4 y3 = y4 := hy4
  rw [hy4] at b4 b5 b6 b7
  refine lx_assign (.int .u64 ((y4 : Nat) : Int)) rfl rfl <| lx_nil <| wi_seq <| wi_reg rfl <| ?_
  have := Nat.div_le_self y4 (2 ^ 16)
  refine lx_move (.int .u64 ((y4 : Nat) : Int)) rfl rfl <| lx_move (.int .u64 ((y4 : Nat) : Int)) rfl rfl <| lx_shr (m := y4) (n := 16) rfl rfl rfl (by show _ ≤ 64; omega) <| lx_addU (((y4 + (y4 / 2 ^ 16) : Nat) : Nat) : Int) rfl rfl rfl (by omega) (by omega) (by omega) <| ?_
  generalize hy5 : y4 + (y4 / 2 ^ 16) = y5
  replace hy5 : on5 y4 = y5 := hy5
  rw [hy5] at b5 b6 b7
  refine lx_assign (.int .u64 ((y5 : Nat) : Int)) rfl rfl <| lx_nil <| wi_seq <| wi_reg rfl <| ?_
  have := Nat.div_le_self y5 (2 ^ 32)
  refine lx_move (.int .u64 ((y5 : Nat) : Int)) rfl rfl <| lx_move (.int .u64 ((y5 : Nat) : Int)) rfl rfl <| lx_shr (m := y5) (n := 32) rfl rfl rfl (by show _ ≤ 64; omega) <| lx_addU (((y5 + (y5 / 2 ^ 32) : Nat) : Nat) : Int) rfl rfl rfl (by omega) (by omega) (by omega) <| ?_
  generalize hy6 : y5 + (y5 / 2 ^ 32) = y6
  replace hy6 : on6 y5 = y6 := hy6
  rw [hy6] at b6 b7
  refine lx_assign (.int .u64 ((y6 : Nat) : Int)) rfl rfl <| lx_nil <| wi_seq <| wi_reg rfl <| ?_
  have : y6 &&& 127 ≤ y6 := Nat.and_le_left
  refine lx_move (.int .u64 ((y6 : Nat) : Int)) rfl rfl <| lx_conv ((y6 : Nat) : Int) rfl Try.underlying149 Try.underlying3 rfl (wrap_i64 (by omega) (by omega)) <| lx_and (m := y6) (n := 127) rfl rfl rfl (by show _ < 2 ^ 64; omega) (by show _ < 2 ^ 64; omega) (wrap_i64 (by omega) (by omega)) <| lx_assign (.int .i64 ((y6 &&& 127 : Nat) : Int)) rfl rfl <| lx_nil <| ?_
  -- R1
  refine wi_ret ⟨.int .i64 ((y6 &&& 127 : Nat) : Int), (res_one rfl rfl), ⟨?_, rfl⟩⟩
  · rw [b7]

set_option maxRecDepth 10000 in
theorem ones_spec (h : Heap) (x : Nat) (hp1 : x < 4096) : Fx Try.prog 104 [.int .u64 ((x : Nat) : Int)] h (fun v h' => v = .int .i64 ((popN x : Nat) : Int) ∧ h = h') := by
  refine fx_intro (n := 8) [(0, .int .u64 ((x : Nat) : Int))] Try.func104 rfl rfl (by simp) ⟨rfl, trivial⟩ fun g0 => ?_
  refine wi_seq <| wi_reg rfl <| lx_assign (.int .i64 0) rfl rfl <| lx_nil <| wi_seq <| wi_false rfl <| wi_skip <| wi_seq <| wi_reg rfl <| lx_move (.int .u64 ((x : Nat) : Int)) rfl rfl <| lx_call [.int .u64 ((x : Nat) : Int)] rfl rfl Try.call135 rfl (ones64_spec h x (by omega)) (fun _ _ _ => trivial) ?_
  rintro _ h1 ⟨rfl, rfl⟩
  refine lx_assign (.int .i64 ((popN x : Nat) : Int)) rfl rfl <| lx_nil <| ?_
  -- R1
  refine wi_ret ⟨.int .i64 ((popN x : Nat) : Int), (res_one rfl rfl), ⟨rfl, rfl⟩⟩

end Go.Proofs.Ytdokijbdnajhgaa
namespace Go.Proofs.Ytdokijbdnajhgaa
open Go Go.X

set_option maxRecDepth 10000 in
theorem oclosure_spec (h : Heap) (n : Int) (vl : Value) (ls : List (Int × Int)) (hr_vl : RdE encP h vl ls) (hp1 : ls.length ≤ 4611686018427387904) : Fx Try.prog 63 [.int .i64 n, vl] h (fun v h' => ∃ (s : Value) (hs : List Hdr) (p : List (List Bool)), v = .tuple #[s, .int .i64 (closE n ls)] ∧ OwE encHd h' h.size 70 s hs ∧ OT encB h' h.size 4 hs p ∧ ((closE n ls ≠ 0 ∧ p = []) ∨ (closE n ls = 0 ∧ p = tabF n.toNat (closW n.toNat ls))) ∧ Ext h.size h h') := by
  refine fx_intro (n := 53) [(0, .int .i64 n), (1, vl)] Try.func63 rfl rfl (by simp) ⟨rfl, rfl, trivial⟩ fun g0 => ?_
  refine wi_seq <| wi_reg rfl <| lx_assign (.slice none 0 0) rfl rfl <| lx_assign (.int .i64 0) rfl rfl <| lx_nil <| wi_seq <| wi_seq <| wi_reg rfl <| lx_move (.int .i64 n) rfl rfl <| lx_lssS rfl rfl rfl (fun c1 => ?_) (fun c1 => ?_)
  · refine lx_move (.bool true) rfl rfl <| lx_skip rfl <| lx_skip rfl <| lx_pick true (.bool true) rfl rfl rfl <| lx_nil <| wi_true rfl <| wi_seq <| wi_reg rfl <| lx_assign (.slice none 0 0) rfl rfl <| lx_assign (.int .i64 1) rfl rfl <| lx_nil <| ?_
    -- R1
    refine wi_ret ⟨.tuple #[.slice none 0 0, .int .i64 1], (res_two rfl rfl rfl), ⟨.slice none 0 0, [], [], ?_, (owE_nil encHd _ h.size 70), (OT.nil encB _ h.size 4), ?_, (Ext.refl _ _)⟩⟩
    · first
      | (rw [closE_size (by omega)]; done)
      | (rw [closE_out (i := i) (by omega) (by omega)]; done)
      | (rw [hce]; have hcc := chkT_cases r_1; first | (rw [hcc.resolve_left (by omega)]; done) | (rw [hcc.resolve_right (by omega)]; done))
    · first
      | exact .inl ⟨by rw [closE_size (by omega)]; decide, rfl⟩
      | exact .inl ⟨by rw [closE_out (i := i) (by omega) (by omega)]; decide, rfl⟩
      | exact .inl ⟨by omega, rfl⟩
      | exact .inr ⟨by omega, by rw [Int.toNat_natCast]; exact hrt⟩
  · refine lx_move (.bool false) rfl rfl <| lx_move (.int .i64 n) rfl rfl <| lx_gtrS rfl rfl rfl (fun c2 => ?_) (fun c2 => ?_)
    · refine lx_pick false (.bool true) rfl rfl rfl <| lx_nil <| wi_true rfl <| wi_seq <| wi_reg rfl <| lx_assign (.slice none 0 0) rfl rfl <| lx_assign (.int .i64 1) rfl rfl <| lx_nil <| ?_
      -- R2
      refine wi_ret ⟨.tuple #[.slice none 0 0, .int .i64 1], (res_two rfl rfl rfl), ⟨.slice none 0 0, [], [], ?_, (owE_nil encHd _ h.size 70), (OT.nil encB _ h.size 4), ?_, (Ext.refl _ _)⟩⟩
      · first
        | (rw [closE_size (by omega)]; done)
        | (rw [closE_out (i := i) (by omega) (by omega)]; done)
        | (rw [hce]; have hcc := chkT_cases r_1; first | (rw [hcc.resolve_left (by omega)]; done) | (rw [hcc.resolve_right (by omega)]; done))
      · first
        | exact .inl ⟨by rw [closE_size (by omega)]; decide, rfl⟩
        | exact .inl ⟨by rw [closE_out (i := i) (by omega) (by omega)]; decide, rfl⟩
        | exact .inl ⟨by omega, rfl⟩
        | exact .inr ⟨by omega, by rw [Int.toNat_natCast]; exact hrt⟩
    · refine lx_pick false (.bool false) rfl rfl rfl <| lx_nil <| wi_false rfl <| wi_skip <| wi_seq <| wi_reg rfl <| ?_
      have hn1 : ¬ (n < 1 ∨ 12 < n) := by omega
      obtain ⟨m, rfl⟩ : ∃ m : Nat, n = ((m : Nat) : Int) := ⟨n.toNat, by omega⟩
      refine lx_move (.int .i64 ((m : Nat) : Int)) rfl rfl <| lx_call [.int .i64 ((m : Nat) : Int)] rfl rfl Try.call115 rfl (obare_spec h m (by omega)) (fun _ _ _ => trivial) ?_
      rintro vp h1 ⟨_, hs, rfl, ho1, hot1, hx1⟩
      have ho2 := ho1.base (Nat.le_refl h.size)
      have hot2 := hot1.base (Nat.le_refl h.size)
      have hl_hot2 := hot2.1
      refine lx_assign (vp) rfl rfl <| lx_nil <| wi_seq <| wi_seq <| wi_reg rfl <| lx_move (vl) rfl rfl <| lx_len rfl Try.underlying22 hr_vl rfl <| lx_move (.int .i64 0) rfl rfl <| lx_nil <| wi_block <| ?_
      refine wi_loop (σ := Nat × (List Hdr) × (List (List Bool))) (rngB 19 47 [4, 5, 8]) (fun (ss : Nat × (List Hdr) × (List (List Bool))) => [(19, .int .i64 ((ss.1 : Nat) : Int))]) (fun (ss : Nat × (List Hdr) × (List (List Bool))) (hh : Heap) => OwE encHd hh h.size 70 vp ss.2.1 ∧ OT encB hh h.size 4 ss.2.1 ss.2.2 ∧ Ext h.size h hh ∧ (ss.1 ≤ ls.length) ∧ (Sq ss.2.2 m) ∧ (∀ j, j < ss.1 → inR m (gt ls j) = true) ∧ (∀ x y, x < m → y < m → pb ss.2.2 x y = pairW ls ss.1 x y)) (fun (ss : Nat × (List Hdr) × (List (List Bool))) => ls.length - ss.1) (0, hs, tabF m (fun x y => decide (x = y))) ⟨rfl, trivial⟩ ⟨?_, ?_, hx1, ?_, ?_, ?_, ?_⟩ ?_
      · first | exact ho2 | (simpa using ho2)
      · first | exact hot2 | (simpa using hot2)
      · try dsimp only
        omega
      · try dsimp only
        exact tabF_sq _ _
      · try dsimp only
        intro j hj; omega
      · try dsimp only
        intro x y hx hy; rw [pb_tabF hx hy, pairW_zero]
      rintro g1 ⟨i, hs, p⟩ hh1 ⟨ho3, hot3, hx0_1, hi, hq, hr, hp⟩ IH1
      dsimp only at *
      have hq1 := hq.1
      have hl_hot3 := hot3.1
      refine wi_seq <| wi_reg rfl <| lx_lssS rfl rfl rfl (fun c3 => ?_) (fun c3 => ?_)
      · refine lx_nil <| wi_seq <| wi_true rfl <| wi_skip <| wi_seq <| wi_block <| wi_seq <| wi_reg rfl <| lx_ix (i := i) rfl eT22 hr_vl rfl rfl (by omega) <| lx_ldA (i := i) [.int .i64 ((gt ls i).1), .int .i64 ((gt ls i).2)] rfl rfl wd85 (hr_vl.extS hx0_1) (by omega) rfl rfl <| lx_alloc rfl rfl Try.zeroValue85 (fun _ _ _ => trivial) fun bn1 h2 hbn1 hbk1 hx2 hsz1 => ?_
        have hbb1 : h.size ≤ bn1 := by have := hx0_1.size; omega
        have hdj1 : Value.ownBlock vp ≠ some bn1 := by intro e; have := (ho3.lt e).2; omega
        have hnb1 : Nbt hs bn1 := nbt_new hot3 (by omega)
        have hx0_2 := hx0_1.trans2 hx2 hx0_1.size
        have ho4 := ho3.extS hx2
        have hot4 := hot3.extS hx2
        have hbk1 : Blk h2 bn1 #[.int .i64 0, .int .i64 0] 85 := hbk1
        refine lx_stBA (#[.int .i64 ((gt ls i).1), .int .i64 ((gt ls i).2)]) rfl rfl Try.sizeOf85 hbk1 rfl rfl rfl rfl (by simp [Value.oneCell']) (fun _ _ _ _ => trivial) fun h3 hbk2 hc1 => ?_
        have hx0_3 := hx0_2.trans (hc1.ext hbb1)
        have ho5 := hc1.owE ho4 hdj1
        have hot5 := hot4.chgB hc1 hnb1
        refine lx_nil <| wi_seq <| wi_seq <| wi_reg rfl <| lx_ixB (i := 0) (0) rfl Try.underlying85 Try.sizeOf3 rfl rfl (by omega) rfl <| lx_ldB (.int .i64 ((gt ls i).1)) rfl rfl fl3 hbk2 rfl rfl <| lx_ixB (i := 1) (1) rfl Try.underlying85 Try.sizeOf3 rfl rfl (by omega) rfl <| lx_ldB (.int .i64 ((gt ls i).2)) rfl rfl fl3 hbk2 rfl rfl <| lx_min (min ((gt ls i).1) ((gt ls i).2)) rfl rfl rfl (by omega) <| lx_lssS rfl rfl rfl (fun c4 => ?_) (fun c4 => ?_)
        · refine lx_move (.bool true) rfl rfl <| lx_skip rfl <| lx_skip rfl <| lx_skip rfl <| lx_skip rfl <| lx_skip rfl <| lx_skip rfl <| lx_skip rfl <| lx_pick true (.bool true) rfl rfl rfl <| lx_nil <| wi_true rfl <| wi_seq <| wi_reg rfl <| lx_assign (.slice none 0 0) rfl rfl <| lx_assign (.int .i64 1) rfl rfl <| lx_nil <| ?_
          -- R3
          refine wi_ret ⟨.tuple #[.slice none 0 0, .int .i64 1], (res_two rfl rfl rfl), ⟨.slice none 0 0, [], [], ?_, (owE_nil encHd _ h.size 70), (OT.nil encB _ h.size 4), ?_, hx0_3⟩⟩
          · first
            | (rw [closE_size (by omega)]; done)
            | (rw [closE_out (i := i) (by omega) (by omega)]; done)
            | (rw [hce]; have hcc := chkT_cases r_1; first | (rw [hcc.resolve_left (by omega)]; done) | (rw [hcc.resolve_right (by omega)]; done))
          · first
            | exact .inl ⟨by rw [closE_size (by omega)]; decide, rfl⟩
            | exact .inl ⟨by rw [closE_out (i := i) (by omega) (by omega)]; decide, rfl⟩
            | exact .inl ⟨by omega, rfl⟩
            | exact .inr ⟨by omega, by rw [Int.toNat_natCast]; exact hrt⟩
        · refine lx_move (.bool false) rfl rfl <| lx_ixB (i := 0) (0) rfl Try.underlying85 Try.sizeOf3 rfl rfl (by omega) rfl <| lx_ldB (.int .i64 ((gt ls i).1)) rfl rfl fl3 hbk2 rfl rfl <| lx_ixB (i := 1) (1) rfl Try.underlying85 Try.sizeOf3 rfl rfl (by omega) rfl <| lx_ldB (.int .i64 ((gt ls i).2)) rfl rfl fl3 hbk2 rfl rfl <| lx_max (max ((gt ls i).1) ((gt ls i).2)) rfl rfl rfl (by omega) <| lx_move (.int .i64 ((m : Nat) : Int)) rfl rfl <| lx_geqS rfl rfl rfl (fun c5 => ?_) (fun c5 => ?_)
          · refine lx_pick false (.bool true) rfl rfl rfl <| lx_nil <| wi_true rfl <| wi_seq <| wi_reg rfl <| lx_assign (.slice none 0 0) rfl rfl <| lx_assign (.int .i64 1) rfl rfl <| lx_nil <| ?_
            -- R4
            refine wi_ret ⟨.tuple #[.slice none 0 0, .int .i64 1], (res_two rfl rfl rfl), ⟨.slice none 0 0, [], [], ?_, (owE_nil encHd _ h.size 70), (OT.nil encB _ h.size 4), ?_, hx0_3⟩⟩
            · first
              | (rw [closE_size (by omega)]; done)
              | (rw [closE_out (i := i) (by omega) (by omega)]; done)
              | (rw [hce]; have hcc := chkT_cases r_1; first | (rw [hcc.resolve_left (by omega)]; done) | (rw [hcc.resolve_right (by omega)]; done))
            · first
              | exact .inl ⟨by rw [closE_size (by omega)]; decide, rfl⟩
              | exact .inl ⟨by rw [closE_out (i := i) (by omega) (by omega)]; decide, rfl⟩
              | exact .inl ⟨by omega, rfl⟩
              | exact .inr ⟨by omega, by rw [Int.toNat_natCast]; exact hrt⟩
          · refine lx_pick false (.bool false) rfl rfl rfl <| lx_nil <| wi_false rfl <| wi_skip <| wi_draw mo rfl (by decide +kernel) <| ?_
            obtain ⟨a, b, hgc, ha, hb⟩ : ∃ a b : Nat, gt ls i = ((a : Int), (b : Int)) ∧ a < m ∧ b < m := ⟨(gt ls i).1.toNat, (gt ls i).2.toNat, Prod.ext (by show _ = ((_ : Nat) : Int); omega) (by show _ = ((_ : Nat) : Int); omega), by omega, by omega⟩
            refine lx_move (vp) rfl rfl <| lx_ixB (i := 0) (0) rfl Try.underlying85 Try.sizeOf3 rfl rfl (by omega) rfl <| lx_ldB (.int .i64 ((a : Nat) : Int)) rfl rfl fl3 hbk2 (by rw [hgc]; rfl) rfl <| lx_ix (i := a) rfl eT29 ho5.rd rfl rfl (by omega) <| lx_ld (i := a) (j := 0) ((gt hs a).v) rfl rfl fl70 ho5.rd (by omega) rfl rfl <| lx_ixB (i := 1) (1) rfl Try.underlying85 Try.sizeOf3 rfl rfl (by omega) rfl <| lx_ldB (.int .i64 ((b : Nat) : Int)) rfl rfl fl3 hbk2 (by rw [hgc]; rfl) rfl <| lx_ix (i := b) rfl eT70 (hot5.2.1 a (by omega)).rd rfl rfl (by rw [hq.2 a (by omega)]; omega) <| lx_st (i := b) true rfl rfl Try.sizeOf4 (hot5.2.1 a (by omega)) (by rw [hq.2 a (by omega)]; omega) rfl rfl (fun _ _ _ _ _ => trivial) fun h4 ho6 hc2 hsz2 => ?_
            have hx0_4 := hx0_3.trans ((hot5.2.1 a (by omega)).ext hc2 hx0_3.size)
            have ho7 := ho5.chg hc2 (Dj.symm ((djt_ty hot5 ho5 (by decide)) a (by rw [hot5.1]; exact (by omega))))
            have hb1 := hbk2.chg hc2 (hnb1 a (by rw [hot5.1]; exact (by omega)))
            have hot6 := OT.cell hot5 (by omega) hc2 ho6
            have hl_hot6 := hot6.1
            refine lx_nil <| wi_inBlock <| wi_reg rfl <| lx_add (((i + 1 : Nat) : Int)) rfl rfl rfl (by omega) (by omega) (by omega) <| lx_move (.int .i64 ((i + 1 : Nat) : Int)) rfl rfl <| lx_nil <| ?_
            -- L0.1
            refine IH1 _ _ (i + 1, hs, p.set a ((gt p a).set b true)) (agree_ups rfl agree_self) ⟨rfl, trivial⟩ ⟨?_, ?_, hx0_4, ?_, ?_, ?_, ?_⟩ ?_
            · first | exact ho7 | (simpa using ho7)
            · first | exact hot6 | (simpa using hot6)
            · try dsimp only
              omega
            · try dsimp only
              exact sq_set hq (by omega)
            · try dsimp only
              intro j hj; by_cases e : j = i
              · subst e; rw [hgc]; exact inR_iff.2 ⟨by show (0 : Int) ≤ (a : Int); omega, by show (0 : Int) ≤ (b : Int); omega, by show (a : Int) < m; omega, by show (b : Int) < m; omega⟩
              · exact hr j (by omega)
            · try dsimp only
              exact pairW_step (by omega) hq ha hb hgc hp
            · first | omega | (dsimp only; omega)
      · refine lx_nil <| wi_seq <| wi_false rfl <| wi_exit rfl <| wi_seq <| wi_seq <| wi_reg rfl <| ?_
        have hpl : p.length = m := hq.1
        refine lx_move (vp) rfl rfl <| lx_call [vp] rfl rfl Try.call116 rfl (oclosed_spec hh1 h.size vp hs p ho3 hot3 hx0_1.size (by omega) (by rw [hpl]; exact hq)) (fun _ _ _ => trivial) ?_
        rintro vp h5 ⟨r_1, rfl, ho8, hot7, hr_1, hx3⟩
        have hx0_5 := hx0_1.trans hx3
        have hl_hot7 := hot7.1
        refine lx_assign (vp) rfl rfl <| lx_nil <| wi_seq <| wi_reg rfl <| ?_
        have hrt : r_1 = tabF m (closW m ls) := by rw [hr_1]; exact clos_tab hq (by omega) hp
        have hce := closE_ok (by omega) (by omega) (fun j hj => hr j (by omega))
        rw [← chkT_tabF (by omega) (by omega), ← hrt] at hce
        have hqr : Sq r_1 m := by rw [hrt]; exact tabF_sq _ _
        refine lx_move (vp) rfl rfl <| lx_call [vp] rfl rfl Try.call62 rfl (ocheck_spec h5 vp hs r_1 ho8.rd hot7.rt (by rw [hqr.1]; omega) (fun i hi => by rw [hqr.2 i (by rw [← hqr.1]; exact hi)]; omega)) (fun _ _ _ => trivial) ?_
        rintro _ h6 ⟨rfl, hx4⟩
        have hx0_6 := hx0_5.trans2 hx4 hx0_5.size
        have ho9 := ho8.extS hx4
        have hot8 := hot7.extS hx4
        refine lx_neqS rfl rfl rfl (fun c6 => ?_) (fun c6 => ?_)
        · refine lx_nil <| wi_true rfl <| wi_seq <| wi_reg rfl <| lx_assign (.slice none 0 0) rfl rfl <| lx_assign (.int .i64 90) rfl rfl <| lx_nil <| ?_
          -- R5
          refine wi_ret ⟨.tuple #[.slice none 0 0, .int .i64 90], (res_two rfl rfl rfl), ⟨.slice none 0 0, [], [], ?_, (owE_nil encHd _ h.size 70), (OT.nil encB _ h.size 4), ?_, hx0_6⟩⟩
          · first
            | (rw [closE_size (by omega)]; done)
            | (rw [closE_out (i := i) (by omega) (by omega)]; done)
            | (rw [hce]; have hcc := chkT_cases r_1; first | (rw [hcc.resolve_left (by omega)]; done) | (rw [hcc.resolve_right (by omega)]; done))
          · first
            | exact .inl ⟨by rw [closE_size (by omega)]; decide, rfl⟩
            | exact .inl ⟨by rw [closE_out (i := i) (by omega) (by omega)]; decide, rfl⟩
            | exact .inl ⟨by omega, rfl⟩
            | exact .inr ⟨by omega, by rw [Int.toNat_natCast]; exact hrt⟩
        · refine lx_nil <| wi_false rfl <| wi_skip <| wi_seq <| wi_reg rfl <| lx_move (vp) rfl rfl <| lx_assign (vp) rfl rfl <| lx_assign (.int .i64 0) rfl rfl <| lx_nil <| ?_
          -- R6
          refine wi_ret ⟨.tuple #[vp, .int .i64 0], (res_two rfl rfl rfl), ⟨vp, hs, r_1, ?_, ho9, hot8, ?_, hx0_6⟩⟩
          · first
            | (rw [closE_size (by omega)]; done)
            | (rw [closE_out (i := i) (by omega) (by omega)]; done)
            | (rw [hce]; have hcc := chkT_cases r_1; first | (rw [hcc.resolve_left (by omega)]; done) | (rw [hcc.resolve_right (by omega)]; done))
          · first
            | exact .inl ⟨by rw [closE_size (by omega)]; decide, rfl⟩
            | exact .inl ⟨by rw [closE_out (i := i) (by omega) (by omega)]; decide, rfl⟩
            | exact .inl ⟨by omega, rfl⟩
            | exact .inr ⟨by omega, by rw [Int.toNat_natCast]; exact hrt⟩

end Go.Proofs.Ytdokijbdnajhgaa
namespace Go.Proofs.Ytdokijbdnajhgaa
open Go Go.X

end Go.Proofs.Ytdokijbdnajhgaa
namespace Go.Proofs.Ytdokijbdnajhgaa
open Go Go.X

end Go.Proofs.Ytdokijbdnajhgaa
namespace Go.X
end Go.X
namespace Go.Proofs.Ytdokijbdnajhgaa
open Go Go.X

set_option maxRecDepth 10000 in
theorem check1_spec (h : Heap) (x : Int) (y : Int) (n : Int) (bp : Nat) (hb_bp : Blk h bp (#[.int .i64 n]) 3) : Fx Try.prog 155 [.agg #[.int .i64 x, .int .i64 y], .pointer (some ⟨bp, 0, none⟩)] h (fun v h' => v = .bool (validC n (x, y)) ∧ Ext h.size h h') := by
  refine fx_intro (n := 20) [(0, .agg #[.int .i64 x, .int .i64 y]), (1, .pointer (some ⟨bp, 0, none⟩))] Try.func155 rfl rfl (by simp) ⟨rfl, rfl, trivial⟩ fun g0 => ?_
  refine wi_seq <| wi_reg rfl <| lx_box #[.int .i64 x, .int .i64 y] rfl rfl rfl (fun _ _ _ => trivial) fun bn1 h1 hbn1 hbk1 hx1 hsz1 => ?_
  have hbb1 : h.size ≤ bn1 := by have := (Nat.le_refl h.size); omega
  have hne1 : bn1 ≠ bp := by have := hb_bp.lt; omega
  have hb1 := hb_bp.extS hx1
  refine lx_assign (.bool false) rfl rfl <| lx_nil <| wi_seq <| wi_reg rfl <| lx_ixB (i := 0) (0) rfl Try.underlying85 Try.sizeOf3 rfl rfl (by omega) rfl <| lx_ldB (.int .i64 x) rfl rfl fl3 hbk1 rfl rfl <| lx_geqS rfl rfl rfl (fun c1 => ?_) (fun c1 => ?_)
  · refine lx_move (.bool true) rfl rfl <| lx_ixB (i := 0) (0) rfl Try.underlying85 Try.sizeOf3 rfl rfl (by omega) rfl <| lx_ldB (.int .i64 x) rfl rfl fl3 hbk1 rfl rfl <| lx_ixB (i := 1) (1) rfl Try.underlying85 Try.sizeOf3 rfl rfl (by omega) rfl <| lx_ldB (.int .i64 y) rfl rfl fl3 hbk1 rfl rfl <| lx_lssS rfl rfl rfl (fun c2 => ?_) (fun c2 => ?_)
    · refine lx_pick true (.bool true) rfl rfl rfl <| lx_move (.bool true) rfl rfl <| lx_ixB (i := 1) (1) rfl Try.underlying85 Try.sizeOf3 rfl rfl (by omega) rfl <| lx_ldB (.int .i64 y) rfl rfl fl3 hbk1 rfl rfl <| lx_ldB (.int .i64 n) rfl rfl fl3 hb1 rfl rfl <| lx_lssS rfl rfl rfl (fun c3 => ?_) (fun c3 => ?_)
      · refine lx_pick true (.bool true) rfl rfl rfl <| lx_assign (.bool true) rfl rfl <| lx_nil <| ?_
        -- R1
        refine wi_ret ⟨.bool true, (res_one rfl rfl), ⟨?_, hx1⟩⟩
        · first | rw [show validC n (x, y) = true from decide_eq_true (by dsimp only; omega)] | rw [show validC n (x, y) = false from decide_eq_false (by dsimp only; omega)]
      · refine lx_pick true (.bool false) rfl rfl rfl <| lx_assign (.bool false) rfl rfl <| lx_nil <| ?_
        -- R2
        refine wi_ret ⟨.bool false, (res_one rfl rfl), ⟨?_, hx1⟩⟩
        · first | rw [show validC n (x, y) = true from decide_eq_true (by dsimp only; omega)] | rw [show validC n (x, y) = false from decide_eq_false (by dsimp only; omega)]
    · refine lx_pick true (.bool false) rfl rfl rfl <| lx_move (.bool false) rfl rfl <| lx_skip rfl <| lx_skip rfl <| lx_skip rfl <| lx_skip rfl <| lx_pick false (.bool false) rfl rfl rfl <| lx_assign (.bool false) rfl rfl <| lx_nil <| ?_
      -- R3
      refine wi_ret ⟨.bool false, (res_one rfl rfl), ⟨?_, hx1⟩⟩
      · first | rw [show validC n (x, y) = true from decide_eq_true (by dsimp only; omega)] | rw [show validC n (x, y) = false from decide_eq_false (by dsimp only; omega)]
  · refine lx_move (.bool false) rfl rfl <| lx_skip rfl <| lx_skip rfl <| lx_skip rfl <| lx_skip rfl <| lx_skip rfl <| lx_pick false (.bool false) rfl rfl rfl <| lx_move (.bool false) rfl rfl <| lx_skip rfl <| lx_skip rfl <| lx_skip rfl <| lx_skip rfl <| lx_pick false (.bool false) rfl rfl rfl <| lx_assign (.bool false) rfl rfl <| lx_nil <| ?_
    -- R4
    refine wi_ret ⟨.bool false, (res_one rfl rfl), ⟨?_, hx1⟩⟩
    · first | rw [show validC n (x, y) = true from decide_eq_true (by dsimp only; omega)] | rw [show validC n (x, y) = false from decide_eq_false (by dsimp only; omega)]

set_option maxRecDepth 10000 in
theorem chk_check1_spec (h : Heap) (n : Int) (vl : Value) (ls : List (Int × Int)) (bp : Nat) (hb_bp : Blk h bp (#[.int .i64 n]) 3) (hr_vl : RdE encP h vl ls) (hp1 : ls.length ≤ 4611686018427387904) : Fx Try.prog 154 [.int .i64 n, vl, .func (.func 155) #[] #[.pointer (some ⟨bp, 0, none⟩)]] h (fun v h' => v = .int .i64 (chkNet validC n ls) ∧ Ext h.size h h') := by
  refine fx_intro (n := 31) [(0, .int .i64 n), (1, vl), (2, .func (.func 155) #[] #[.pointer (some ⟨bp, 0, none⟩)])] Try.func154 rfl rfl (by simp) ⟨rfl, rfl, rfl, trivial⟩ fun g0 => ?_
  refine wi_seq <| wi_reg rfl <| lx_assign (.int .i64 0) rfl rfl <| lx_nil <| wi_seq <| wi_block <| wi_seq <| wi_reg rfl <| lx_move (.int .i64 n) rfl rfl <| lx_lssS rfl rfl rfl (fun c1 => ?_) (fun c1 => ?_)
  · refine lx_move (.bool true) rfl rfl <| lx_skip rfl <| lx_skip rfl <| lx_pick true (.bool true) rfl rfl rfl <| lx_assign (.bool true) rfl rfl <| lx_nil <| wi_true rfl <| wi_seq <| wi_reg rfl <| lx_assign (.int .i64 1) rfl rfl <| lx_nil <| ?_
    -- R1
    refine wi_ret ⟨.int .i64 1, (res_one rfl rfl), ⟨?_, (Ext.refl _ _)⟩⟩
    · unfold chkNet; first | rw [if_pos (by omega)] | (rw [if_neg (by omega), if_pos (by omega)])
  · refine lx_move (.bool false) rfl rfl <| lx_move (.int .i64 n) rfl rfl <| lx_gtrS rfl rfl rfl (fun c2 => ?_) (fun c2 => ?_)
    · refine lx_pick false (.bool true) rfl rfl rfl <| lx_assign (.bool true) rfl rfl <| lx_nil <| wi_true rfl <| wi_seq <| wi_reg rfl <| lx_assign (.int .i64 1) rfl rfl <| lx_nil <| ?_
      -- R2
      refine wi_ret ⟨.int .i64 1, (res_one rfl rfl), ⟨?_, (Ext.refl _ _)⟩⟩
      · unfold chkNet; first | rw [if_pos (by omega)] | (rw [if_neg (by omega), if_pos (by omega)])
    · refine lx_pick false (.bool false) rfl rfl rfl <| lx_assign (.bool false) rfl rfl <| lx_nil <| wi_false rfl <| wi_seq <| wi_reg rfl <| lx_move (vl) rfl rfl <| lx_len rfl Try.underlying22 hr_vl rfl <| lx_gtrS rfl rfl rfl (fun c3 => ?_) (fun c3 => ?_)
      · refine lx_assign (.bool true) rfl rfl <| lx_nil <| wi_true rfl <| wi_seq <| wi_reg rfl <| lx_assign (.int .i64 2) rfl rfl <| lx_nil <| ?_
        -- R3
        refine wi_ret ⟨.int .i64 2, (res_one rfl rfl), ⟨?_, (Ext.refl _ _)⟩⟩
        · unfold chkNet; first | rw [if_pos (by omega)] | (rw [if_neg (by omega), if_pos (by omega)])
      · refine lx_assign (.bool false) rfl rfl <| lx_nil <| wi_false rfl <| wi_skip <| wi_inBlock <| wi_seq <| wi_seq <| wi_reg rfl <| lx_move (vl) rfl rfl <| lx_len rfl Try.underlying22 hr_vl rfl <| lx_move (.int .i64 0) rfl rfl <| lx_nil <| wi_block <| ?_
        refine wi_loop (σ := Nat) (rngB 22 31 [6, 8]) (fun (i : Nat) => [(22, .int .i64 ((i : Nat) : Int))]) (fun (i : Nat) (hh : Heap) => Ext h.size h hh ∧ Blk hh bp #[.int .i64 n] 3 ∧ (i ≤ ls.length) ∧ (∀ j, j < i → validC n (gt ls j) = true)) (fun (i : Nat) => ls.length - i) 0 ⟨rfl, trivial⟩ ⟨(Ext.refl _ _), ?_, ?_, ?_⟩ ?_
        · exact hb_bp
        · try dsimp only
          omega
        · try dsimp only
          intro j hj; omega
        rintro g1 i hh1 ⟨hx0_1, hbk1, hi, he⟩ IH1
        refine wi_seq <| wi_reg rfl <| lx_lssS rfl rfl rfl (fun c4 => ?_) (fun c4 => ?_)
        · refine lx_nil <| wi_seq <| wi_true rfl <| wi_skip <| wi_seq <| wi_block <| wi_seq <| wi_reg rfl <| lx_ix (i := i) rfl eT22 hr_vl rfl rfl (by omega) <| lx_ldA (i := i) [.int .i64 ((gt ls i).1), .int .i64 ((gt ls i).2)] rfl rfl wd85 (hr_vl.extS hx0_1) (by omega) rfl rfl <| lx_alloc rfl rfl Try.zeroValue85 (fun _ _ _ => trivial) fun bn1 h1 hbn1 hbk2 hx1 hsz1 => ?_
          have hbb1 : h.size ≤ bn1 := by have := hx0_1.size; omega
          have hne1 : bn1 ≠ bp := by have := hbk1.lt; omega
          have hx0_2 := hx0_1.trans2 hx1 hx0_1.size
          have hb1 := hbk1.extS hx1
          have hbk2 : Blk h1 bn1 #[.int .i64 0, .int .i64 0] 85 := hbk2
          refine lx_stBA (#[.int .i64 ((gt ls i).1), .int .i64 ((gt ls i).2)]) rfl rfl Try.sizeOf85 hbk2 rfl rfl rfl rfl (by simp [Value.oneCell']) (fun _ _ _ _ => trivial) fun h2 hbk3 hc1 => ?_
          have hx0_3 := hx0_2.trans (hc1.ext hbb1)
          have hb2 := hc1.blk hb1 (Ne.symm hne1)
          refine lx_nil <| wi_seq <| wi_reg rfl <| lx_move (.func (.func 155) #[] #[.pointer (some ⟨bp, 0, none⟩)]) rfl rfl <| lx_ldBA rfl rfl wd85 hbk3 rfl rfl <| lx_callV [] [.pointer (some ⟨bp, 0, none⟩)] [.agg #[.int .i64 ((gt ls i).1), .int .i64 ((gt ls i).2)]] rfl rfl Try.call155 rfl rfl (check1_spec h2 ((gt ls i).1) ((gt ls i).2) n bp hb2) (fun _ _ _ => trivial) ?_
          rintro _ h3 ⟨rfl, hx2⟩
          have hx0_4 := hx0_3.trans2 hx2 hx0_3.size
          have hb3 := hb2.extS hx2
          have hb4 := hbk3.extS hx2
          refine lx_not rfl rfl <| lx_nil <| wi_condS (t := !(validC n (((gt ls i).1), ((gt ls i).2)))) rfl (fun c5 => ?_) (fun c5 => ?_)
          · refine wi_seq <| wi_reg rfl <| lx_assign (.int .i64 100) rfl rfl <| lx_nil <| ?_
            -- R4
            refine wi_ret ⟨.int .i64 100, (res_one rfl rfl), ⟨?_, hx0_4⟩⟩
            · rw [chkNet_bad c1 c2 c3 (i := i) (by omega) (by simpa using c5)]
          · refine wi_skip <| wi_inBlock <| wi_reg rfl <| lx_add (((i + 1 : Nat) : Int)) rfl rfl rfl (by omega) (by omega) (by omega) <| lx_move (.int .i64 ((i + 1 : Nat) : Int)) rfl rfl <| lx_nil <| ?_
            -- L1.1
            refine IH1 _ _ (i + 1) (agree_ups rfl agree_self) ⟨rfl, trivial⟩ ⟨hx0_4, ?_, ?_, ?_⟩ ?_
            · exact hb3
            · try dsimp only
              omega
            · try dsimp only
              intro j hj; by_cases hji : j = i
              · subst hji; simpa using c5
              · exact he j (by omega)
            · first | omega | (dsimp only; omega)
        · refine lx_nil <| wi_seq <| wi_false rfl <| wi_exit rfl <| wi_seq <| wi_reg rfl <| lx_assign (.int .i64 0) rfl rfl <| lx_nil <| ?_
          -- R5
          refine wi_ret ⟨.int .i64 0, (res_one rfl rfl), ⟨?_, hx0_1⟩⟩
          · rw [chkNet_all c1 c2 c3 (fun j hj => he j (by omega))]

set_option maxRecDepth 10000 in
theorem check_spec (h : Heap) (n : Int) (vl : Value) (ls : List (Int × Int)) (hr_vl : RdE encP h vl ls) (hp1 : ls.length ≤ 4611686018427387904) : Fx Try.prog 120 [.int .i64 n, vl] h (fun v h' => v = .int .i64 (chkNet validC n ls) ∧ Ext h.size h h') := by
  refine fx_intro (n := 9) [(0, .int .i64 n), (1, vl)] Try.func120 rfl rfl (by simp) ⟨rfl, rfl, trivial⟩ fun g0 => ?_
  refine wi_seq <| wi_reg rfl <| lx_box #[.int .i64 n] rfl rfl rfl (fun _ _ _ => trivial) fun bn1 h1 hbn1 hbk1 hx1 hsz1 => ?_
  have hbb1 : h.size ≤ bn1 := by have := (Nat.le_refl h.size); omega
  refine lx_assign (.int .i64 0) rfl rfl <| lx_nil <| wi_seq <| wi_reg rfl <| lx_ldB (.int .i64 n) rfl rfl fl3 hbk1 rfl rfl <| lx_move (vl) rfl rfl <| lx_makeFunc [] [.pointer (some ⟨bn1, 0, none⟩)] rfl rfl rfl <| lx_call [.int .i64 n, vl, .func (.func 155) #[] #[.pointer (some ⟨bn1, 0, none⟩)]] rfl rfl Try.call154 rfl (chk_check1_spec h1 n vl ls bn1 hbk1 (hr_vl.extS hx1) (by omega)) (fun _ _ _ => trivial) ?_
  rintro _ h2 ⟨rfl, hx2⟩
  have hx0_1 := hx1.trans2 hx2 hx1.size
  have hb1 := hbk1.extS hx2
  refine lx_assign (.int .i64 (chkNet validC n ls)) rfl rfl <| lx_nil <| ?_
  -- R1
  refine wi_ret ⟨.int .i64 (chkNet validC n ls), (res_one rfl rfl), ⟨rfl, hx0_1⟩⟩

set_option maxRecDepth 10000 in
theorem patterns_spec (h : Heap) (n : Nat) (hp1 : n ≤ 10) : Fx Try.prog 156 [.int .i64 ((n : Nat) : Int)] h (fun v h' => ∃ (ws : List Nat), v = .agg (wc ws) ∧ (Wi (patF n) ws) ∧ Ext h.size h h') := by
  refine fx_intro (n := 38) [(0, .int .i64 ((n : Nat) : Int))] Try.func156 rfl rfl (by simp) ⟨rfl, trivial⟩ fun g0 => ?_
  refine wi_seq <| wi_reg rfl <| lx_alloc rfl rfl Try.zeroValue153 (fun _ _ _ => trivial) fun bn1 h1 hbn1 hbk1 hx1 hsz1 => ?_
  have hbb1 : h.size ≤ bn1 := by have := (Nat.le_refl h.size); omega
  have hbk1 : Blk h1 bn1 (wc (List.replicate 160 0)) 153 := by rw [← zc153]; exact hbk1
  refine lx_nil <| wi_seq <| wi_reg rfl <| lx_alloc rfl rfl Try.zeroValue153 (fun _ _ _ => trivial) fun bn2 h2 hbn2 hbk2 hx2 hsz2 => ?_
  have hbb2 : h.size ≤ bn2 := by have := hx1.size; omega
  have hne1 : bn2 ≠ bn1 := by have := hbk1.lt; omega
  have hx0_1 := hx1.trans2 hx2 hx1.size
  have hb1 := hbk1.extS hx2
  have hbk2 : Blk h2 bn2 (wc (List.replicate 160 0)) 153 := by rw [← zc153]; exact hbk2
  refine lx_nil <| wi_seq <| wi_seq <| wi_reg rfl <| ?_
  have hpw := pow10 hp1
  refine lx_move (.int .i64 ((n : Nat) : Int)) rfl rfl <| lx_conv ((n : Nat) : Int) rfl Try.underlying3 Try.underlying45 rfl (wrap_u64 (by omega) (by omega)) <| lx_shl (m := 1) (n := n) rfl rfl rfl (by show _ ≤ 64; omega) (wrap_i64 (by omega) (by omega)) <| lx_move (.int .i64 0) rfl rfl <| lx_nil <| wi_block <| ?_
  refine wi_loop (σ := Nat × (List Nat)) (rngB 9 37 [4, 5]) (fun (ss : Nat × (List Nat)) => [(9, .int .i64 ((ss.1 : Nat) : Int))]) (fun (ss : Nat × (List Nat)) (hh : Heap) => Ext h.size h hh ∧ Blk hh bn1 (wc (List.replicate 160 0)) 153 ∧ Blk hh bn2 (wc ss.2) 153 ∧ (ss.1 ≤ 2 ^ n) ∧ (Wi (fun k q => decide (k < n) && decide (q < ss.1) && q.testBit k) ss.2)) (fun (ss : Nat × (List Nat)) => 2 ^ n - ss.1) (0, List.replicate 160 0) ⟨rfl, trivial⟩ ⟨hx0_1, ?_, ?_, ?_, ?_⟩ ?_
  · exact hb1
  · exact hbk2
  · try dsimp only
    exact Nat.zero_le _
  · try dsimp only
    exact Wi_zero.congr (fun i _ p _ => by simp)
  rintro g1 ⟨p, ws⟩ hh1 ⟨hx0_2, hbk3, hbk4, hp, hw⟩ IH1
  dsimp only at *
  have hwl := hw.1
  refine wi_seq <| wi_reg rfl <| lx_lssS rfl rfl rfl (fun c1 => ?_) (fun c1 => ?_)
  · refine lx_nil <| wi_seq <| wi_true rfl <| wi_skip <| wi_seq <| wi_block <| wi_seq <| wi_reg rfl <| lx_move (.int .i64 ((p : Nat) : Int)) rfl rfl <| lx_assign (.int .i64 ((p : Nat) : Int)) rfl rfl <| lx_nil <| wi_seq <| wi_reg rfl <| lx_move (.int .i64 ((n : Nat) : Int)) rfl rfl <| lx_move (.int .i64 0) rfl rfl <| lx_nil <| wi_block <| ?_
    refine wi_loop (σ := Nat × (List Nat)) (rngB 13 36 [5]) (fun (ss : Nat × (List Nat)) => [(13, .int .i64 ((ss.1 : Nat) : Int))]) (fun (ss : Nat × (List Nat)) (hh : Heap) => Ext h.size h hh ∧ Blk hh bn1 (wc (List.replicate 160 0)) 153 ∧ Blk hh bn2 (wc ss.2) 153 ∧ (ss.1 ≤ n) ∧ (Wi (fun k q => decide (k < n) && (decide (q < p) || (decide (q = p) && decide (k < ss.1))) && q.testBit k) ss.2)) (fun (ss : Nat × (List Nat)) => n - ss.1) (0, ws) ⟨rfl, trivial⟩ ⟨hx0_2, ?_, ?_, ?_, ?_⟩ ?_
    · exact hbk3
    · exact hbk4
    · try dsimp only
      omega
    · try dsimp only
      exact hw.congr (fun i _ q _ => by simp)
    rintro g2 ⟨i, ws⟩ hh2 ⟨hx0_3, hbk5, hbk6, hi, hw2⟩ IH2
    dsimp only at *
    have hwl2 := hw2.1
    refine wi_seq <| wi_reg rfl <| lx_lssS rfl rfl rfl (fun c2 => ?_) (fun c2 => ?_)
    · refine lx_nil <| wi_seq <| wi_true rfl <| wi_skip <| wi_seq <| wi_block <| wi_seq <| wi_reg rfl <| lx_move (.int .i64 ((i : Nat) : Int)) rfl rfl <| lx_assign (.int .i64 ((i : Nat) : Int)) rfl rfl <| lx_nil <| wi_seq <| wi_reg rfl <| ?_
      have hdv : p / 2 ^ i ≤ p := Nat.div_le_self _ _
      have hbl : p / 2 ^ i &&& 1 ≤ 1 := Nat.and_le_right
      refine lx_move (.int .i64 ((p : Nat) : Int)) rfl rfl <| lx_move (.int .i64 ((i : Nat) : Int)) rfl rfl <| lx_conv ((i : Nat) : Int) rfl Try.underlying3 Try.underlying45 rfl (wrap_u64 (by omega) (by omega)) <| lx_shr (m := p) (n := i) rfl rfl rfl (by show _ ≤ 64; omega) <| lx_and (m := p / 2 ^ i) (n := 1) rfl rfl rfl (by show _ < 2 ^ 64; omega) (by show _ < 2 ^ 64; omega) (wrap_i64 (by omega) (by omega)) <| lx_eqlS rfl rfl rfl (fun c3 => ?_) (fun c3 => ?_)
      · refine lx_nil <| wi_true rfl <| wi_draw mo rfl (by decide +kernel) <| ?_
        have hp64 := pow64 (show p % 64 < 64 by omega)
        have hw1 := hw2.2.1 (i * 16 + p / 64) (by omega)
        have hor : gt ws (i * 16 + p / 64) ||| 1 * 2 ^ (p % 64) < 2 ^ 64 := or_lt64 hw1 (by omega)
        refine lx_move (.int .i64 ((i : Nat) : Int)) rfl rfl <| lx_move (.int .i64 ((p : Nat) : Int)) rfl rfl <| lx_quo (m := p) (n := 64) rfl rfl rfl (by omega) (wrap_quo_i64 (by omega)) <| lx_ixB (i := i) (i * 16) rfl Try.underlying153 Try.sizeOf151 rfl rfl (by omega) (by omega) <| lx_ixB (i := p / 64) (i * 16 + (p / 64)) rfl Try.underlying151 Try.sizeOf149 rfl rfl (by omega) (by omega) <| lx_ldB (.int .u64 ((gt ws (i * 16 + (p / 64)) : Nat) : Int)) rfl rfl fl149 hbk6 (wc_get (by omega)) rfl <| lx_move (.int .i64 ((p : Nat) : Int)) rfl rfl <| lx_rem (m := p) (n := 64) rfl rfl rfl (by omega) <| lx_conv ((p % 64 : Nat) : Int) rfl Try.underlying3 Try.underlying45 rfl (wrap_u64 (by omega) (by omega)) <| lx_shl (m := 1) (n := p % 64) rfl rfl rfl (by show _ ≤ 64; omega) (wrap_u64 (by omega) (by omega)) <| lx_or (m := gt ws (i * 16 + (p / 64))) (n := 1 * 2 ^ (p % 64)) rfl rfl rfl (by show _ < 2 ^ 64; omega) (by show _ < 2 ^ 64; omega) (wrap_u64 (by omega) (by omega)) <| lx_ixB (i := i) (i * 16) rfl Try.underlying153 Try.sizeOf151 rfl rfl (by omega) (by omega) <| lx_ixB (i := p / 64) (i * 16 + (p / 64)) rfl Try.underlying151 Try.sizeOf149 rfl rfl (by omega) (by omega) <| lx_stB (.int .u64 (((gt ws (i * 16 + (p / 64))) ||| (1 * 2 ^ (p % 64)) : Nat) : Int)) rfl rfl Try.sizeOf149 hbk6 (by rw [wc_size]; first | omega | (simp only [List.length_set, List.length_append, List.length_cons, List.length_nil, List.length_replicate, List.length_take, swp_length, exch_length]; omega)) rfl rfl rfl rfl (fun _ _ _ _ => trivial) fun h3 hbk7 hc1 => ?_
        have hx0_4 := hx0_3.trans (hc1.ext hbb2)
        have hb2 := hc1.blk hbk5 (Ne.symm hne1)
        rw [wc_set] at hbk7
        refine lx_nil <| wi_inBlock <| wi_reg rfl <| lx_add (((i + 1 : Nat) : Int)) rfl rfl rfl (by omega) (by omega) (by omega) <| lx_move (.int .i64 ((i + 1 : Nat) : Int)) rfl rfl <| lx_nil <| ?_
        -- L2.1
        refine IH2 _ _ (i + 1, ws.set (i * 16 + (p / 64)) ((gt ws (i * 16 + (p / 64))) ||| (1 * 2 ^ (p % 64)))) (agree_ups rfl agree_self) ⟨rfl, trivial⟩ ⟨hx0_4, ?_, ?_, ?_, ?_⟩ ?_
        · exact hb2
        · exact hbk7
        · try dsimp only
          omega
        · try dsimp only
          refine (Wi_set hw2 (i := i) (p := p) (by omega) (by omega)).congr (fun k hk q hq => ?_)
          exact pat_step (by omega) (by have := bit_and_one p i; by_cases hb : p.testBit i = true
                                        · exact hb
                                        · rw [if_neg hb] at this; omega) k q
        · first | omega | (dsimp only; omega)
      · refine lx_nil <| wi_false rfl <| wi_skip <| wi_inBlock <| wi_reg rfl <| lx_add (((i + 1 : Nat) : Int)) rfl rfl rfl (by omega) (by omega) (by omega) <| lx_move (.int .i64 ((i + 1 : Nat) : Int)) rfl rfl <| lx_nil <| ?_
        -- L2.2
        refine IH2 _ _ (i + 1, ws) (agree_ups rfl agree_self) ⟨rfl, trivial⟩ ⟨hx0_3, ?_, ?_, ?_, ?_⟩ ?_
        · exact hbk5
        · exact hbk6
        · try dsimp only
          omega
        · try dsimp only
          refine hw2.congr (fun k hk q hq => ?_)
          exact pat_skip (by have := bit_and_one p i; cases hb : p.testBit i
                             · rfl
                             · rw [if_pos hb] at this; omega) k q
        · first | omega | (dsimp only; omega)
    · refine lx_nil <| wi_seq <| wi_false rfl <| wi_exit rfl <| wi_inBlock <| wi_reg rfl <| lx_add (((p + 1 : Nat) : Int)) rfl rfl rfl (by omega) (by omega) (by omega) <| lx_move (.int .i64 ((p + 1 : Nat) : Int)) rfl rfl <| lx_nil <| ?_
      -- L0.1
      refine IH1 _ _ (p + 1, ws) (agree_ups rfl (agree_mix (rngB_sub (by decide) (by decide) rfl) (agree_ups rfl agree_self))) ⟨rfl, trivial⟩ ⟨hx0_3, ?_, ?_, ?_, ?_⟩ ?_
      · exact hbk5
      · exact hbk6
      · try dsimp only
        omega
      · try dsimp only
        refine hw2.congr (fun k hk q hq => ?_)
        exact pat_all (by omega) k q
      · first | omega | (dsimp only; omega)
  · refine lx_nil <| wi_seq <| wi_false rfl <| wi_exit rfl <| wi_seq <| wi_reg rfl <| lx_ldBA rfl rfl wd153 hbk4 (by rw [wc_size]; first | omega | (simp; done) | (simp; omega)) rfl <| lx_stBA (wc ws) rfl rfl Try.sizeOf153 hbk3 (by rw [wc_size]; first | omega | (simp; done) | (simp; omega)) (by rw [wc_size]; first | omega | (simp; done) | (simp; omega)) rfl rfl (wc_one _) (fun _ _ _ _ => trivial) fun h4 hbk8 hc2 => ?_
    have hx0_5 := hx0_2.trans (hc2.ext hbb1)
    have hb3 := hc2.blk hbk4 hne1
    refine lx_nil <| ?_
    -- R1
    refine wi_ret ⟨.agg (wc ws), (res_cell rfl rfl hbk8 wd153 (by rw [wc_size]; first | omega | (simp; done) | (simp; omega))), ⟨ws, rfl, ?_, hx0_5⟩⟩
    · refine hw.congr (fun k hk q hq => ?_)
      unfold patF
      rw [show p = 2 ^ n from by omega]

set_option maxRecDepth 10000 in
theorem wexch_spec (h : Heap) (i : Nat) (j : Nat) (ws : List Nat) (f : WF) (bn : Nat) (hb_bn : Blk h bn (wc ws) 153) (hp1 : Wi f ws) (hp2 : i < 10) (hp3 : j < 10) (hp4 : i ≠ j) : Fx Try.prog 157 [.pointer (some ⟨bn, 0, none⟩), .int .i64 ((i : Nat) : Int), .int .i64 ((j : Nat) : Int)] h (fun v h' => ∃ (us : List Nat), v = .bool (exC ws i j 16) ∧ Blk h' bn (wc us) 153 ∧ (Wi (exF f i j) us) ∧ ChgB bn h h') := by
  have hwl := hp1.1
  refine fx_intro (n := 54) [(0, .pointer (some ⟨bn, 0, none⟩)), (1, .int .i64 ((i : Nat) : Int)), (2, .int .i64 ((j : Nat) : Int))] Try.func157 rfl rfl (by simp) ⟨rfl, rfl, rfl, trivial⟩ fun g0 => ?_
  refine wi_seq <| wi_reg rfl <| lx_assign (.bool false) rfl rfl <| lx_nil <| wi_seq <| wi_reg rfl <| lx_assign (.bool false) rfl rfl <| lx_nil <| wi_seq <| wi_seq <| wi_reg rfl <| lx_move (.pointer (some ⟨bn, 0, none⟩)) rfl rfl <| lx_move (.int .i64 ((i : Nat) : Int)) rfl rfl <| lx_nilCheck ⟨bn, 0, none⟩ rfl rfl <| lx_ixB (i := i) (i * 16) rfl Try.underlying153 Try.sizeOf151 rfl rfl (by omega) (by omega) <| lx_ldBP (((ws.drop (i * 16)).take 16).map (fun x : Nat => Value.int .u64 (x : Int))) rfl rfl wd151 hb_bn (by simp; omega) wc_partc rfl <| lx_move (.int .i64 0) rfl rfl <| lx_nil <| wi_block <| ?_
  refine wi_loop (σ := Nat × (List Nat) × Bool) (rngB 16 53 [7, 8, 9, 10]) (fun (ss : Nat × (List Nat) × Bool) => [(16, .int .i64 ((ss.1 : Nat) : Int)), (7, .bool ss.2.2)]) (fun (ss : Nat × (List Nat) × Bool) (hh : Heap) => ChgB bn h hh ∧ Blk hh bn (wc ss.2.1) 153 ∧ (ss.1 ≤ 16) ∧ (exW ws i j ss.1 ss.2.1) ∧ (ss.2.2 = exC ws i j ss.1)) (fun (ss : Nat × (List Nat) × Bool) => 16 - ss.1) (0, ws, false) ⟨rfl, rfl, trivial⟩ ⟨(ChgB.refl _ _), ?_, ?_, ?_, ?_⟩ ?_
  · exact hb_bn
  · try dsimp only
    omega
  · try dsimp only
    exact exW_zero hwl
  · try dsimp only
    first | done | rfl
  rintro g1 ⟨k, us, c⟩ hh1 ⟨hcb1, hbk1, hk, hex, hc⟩ IH1
  dsimp only at *
  have hul := hex.1
  have hwu : ∀ q, q < 160 → gt us q < 2 ^ 64 := exW_lt hp1 hp2 hp3 hex
  refine wi_seq <| wi_reg rfl <| lx_lssS rfl rfl rfl (fun c1 => ?_) (fun c1 => ?_)
  · refine lx_nil <| wi_seq <| wi_true rfl <| wi_skip <| wi_seq <| wi_block <| wi_seq <| wi_reg rfl <| lx_move (.int .i64 ((k : Nat) : Int)) rfl rfl <| lx_index (i := k) (.int .u64 ((gt ws (i * 16 + k) : Nat) : Int)) rfl Try.underlying151 Try.sizeOf149 fl149 rfl rfl (by omega) (wc_part (by omega) (by omega)) <| lx_assign (.int .i64 ((k : Nat) : Int)) rfl rfl <| lx_assign (.int .u64 ((gt ws (i * 16 + k) : Nat) : Int)) rfl rfl <| lx_nil <| wi_seq <| wi_reg rfl <| lx_move (.pointer (some ⟨bn, 0, none⟩)) rfl rfl <| lx_move (.int .i64 ((j : Nat) : Int)) rfl rfl <| lx_move (.int .i64 ((k : Nat) : Int)) rfl rfl <| lx_nilCheck ⟨bn, 0, none⟩ rfl rfl <| lx_ixB (i := j) (j * 16) rfl Try.underlying153 Try.sizeOf151 rfl rfl (by omega) (by omega) <| lx_ixB (i := k) (j * 16 + k) rfl Try.underlying151 Try.sizeOf149 rfl rfl (by omega) (by omega) <| lx_ldB (.int .u64 ((gt us (j * 16 + k) : Nat) : Int)) rfl rfl fl149 hbk1 (wc_get (by omega)) rfl <| lx_assign (.int .u64 ((gt us (j * 16 + k) : Nat) : Int)) rfl rfl <| lx_nil <| wi_seq <| wi_reg rfl <| ?_
    have hb1 := hp1.2.1 (i * 16 + k) (by omega)
    have hb2 := hwu (j * 16 + k) (by omega)
    have hb3 := @andNot_lt _ (gt us (j * 16 + k)) hb1
    refine lx_move (.bool c) rfl rfl <| lx_move (.bool c) rfl rfl <| ?_
    cases c2 : c
    · refine lx_move (.int .u64 ((gt ws (i * 16 + k) : Nat) : Int)) rfl rfl <| lx_move (.int .u64 ((gt us (j * 16 + k) : Nat) : Int)) rfl rfl <| lx_andNot (m := gt ws (i * 16 + k)) (n := gt us (j * 16 + k)) rfl rfl rfl (by show _ < 2 ^ 64; omega) (by show _ < 2 ^ 64; omega) (wrap_u64 (by omega) (by omega)) <| lx_neq rfl rfl rfl <| lx_pick false (.bool (decide (((andNot (gt ws (i * 16 + k)) (gt us (j * 16 + k)) : Nat) : Int) ≠ (0 : Int)))) rfl rfl rfl <| lx_assign (.bool (decide (((andNot (gt ws (i * 16 + k)) (gt us (j * 16 + k)) : Nat) : Int) ≠ (0 : Int)))) rfl rfl <| lx_nil <| wi_draw mo rfl (by decide +kernel) <| ?_
      have hb4 := @and_lt64 _ (gt us (j * 16 + k)) hb1
      have hb5 := or_lt64 hb1 hb2
      refine lx_move (.pointer (some ⟨bn, 0, none⟩)) rfl rfl <| lx_move (.int .i64 ((i : Nat) : Int)) rfl rfl <| lx_move (.int .i64 ((k : Nat) : Int)) rfl rfl <| lx_move (.pointer (some ⟨bn, 0, none⟩)) rfl rfl <| lx_move (.int .i64 ((j : Nat) : Int)) rfl rfl <| lx_move (.int .i64 ((k : Nat) : Int)) rfl rfl <| lx_move (.int .u64 ((gt ws (i * 16 + k) : Nat) : Int)) rfl rfl <| lx_move (.int .u64 ((gt us (j * 16 + k) : Nat) : Int)) rfl rfl <| lx_and (m := gt ws (i * 16 + k)) (n := gt us (j * 16 + k)) rfl rfl rfl (by show _ < 2 ^ 64; omega) (by show _ < 2 ^ 64; omega) (wrap_u64 (by omega) (by omega)) <| lx_move (.int .u64 ((gt ws (i * 16 + k) : Nat) : Int)) rfl rfl <| lx_move (.int .u64 ((gt us (j * 16 + k) : Nat) : Int)) rfl rfl <| lx_or (m := gt ws (i * 16 + k)) (n := gt us (j * 16 + k)) rfl rfl rfl (by show _ < 2 ^ 64; omega) (by show _ < 2 ^ 64; omega) (wrap_u64 (by omega) (by omega)) <| lx_nilCheck ⟨bn, 0, none⟩ rfl rfl <| lx_ixB (i := i) (i * 16) rfl Try.underlying153 Try.sizeOf151 rfl rfl (by omega) (by omega) <| lx_ixB (i := k) (i * 16 + k) rfl Try.underlying151 Try.sizeOf149 rfl rfl (by omega) (by omega) <| lx_stB (.int .u64 (((gt ws (i * 16 + k)) &&& (gt us (j * 16 + k)) : Nat) : Int)) rfl rfl Try.sizeOf149 hbk1 (by rw [wc_size]; first | omega | (simp only [List.length_set, List.length_append, List.length_cons, List.length_nil, List.length_replicate, List.length_take, swp_length, exch_length]; omega)) rfl rfl rfl rfl (fun _ _ _ _ => trivial) fun h1 hbk2 hc1 => ?_
      have hx0_1 := hc1.ext (Nat.le_refl _)
      have hcb2 := hcb1.trans hc1
      rw [wc_set] at hbk2
      refine lx_nilCheck ⟨bn, 0, none⟩ rfl rfl <| lx_ixB (i := j) (j * 16) rfl Try.underlying153 Try.sizeOf151 rfl rfl (by omega) (by omega) <| lx_ixB (i := k) (j * 16 + k) rfl Try.underlying151 Try.sizeOf149 rfl rfl (by omega) (by omega) <| lx_stB (.int .u64 (((gt ws (i * 16 + k)) ||| (gt us (j * 16 + k)) : Nat) : Int)) rfl rfl Try.sizeOf149 hbk2 (by rw [wc_size]; first | omega | (simp only [List.length_set, List.length_append, List.length_cons, List.length_nil, List.length_replicate, List.length_take, swp_length, exch_length]; omega)) rfl rfl rfl rfl (fun _ _ _ _ => trivial) fun h2 hbk3 hc2 => ?_
      have hx0_2 := hx0_1.trans (hc2.ext (Nat.le_refl _))
      have hcb3 := hcb2.trans hc2
      rw [wc_set] at hbk3
      refine lx_nil <| wi_inBlock <| wi_reg rfl <| lx_add (((k + 1 : Nat) : Int)) rfl rfl rfl (by omega) (by omega) (by omega) <| lx_move (.int .i64 ((k + 1 : Nat) : Int)) rfl rfl <| lx_nil <| ?_
      -- L0.1
      refine IH1 _ _ (k + 1, (us.set (i * 16 + k) ((gt ws (i * 16 + k)) &&& (gt us (j * 16 + k)))).set (j * 16 + k) ((gt ws (i * 16 + k)) ||| (gt us (j * 16 + k))), decide (((andNot (gt ws (i * 16 + k)) (gt us (j * 16 + k)) : Nat) : Int) ≠ (0 : Int))) (agree_ups rfl agree_self) ⟨rfl, rfl, trivial⟩ ⟨hcb3, ?_, ?_, ?_, ?_⟩ ?_
      · exact hbk3
      · try dsimp only
        omega
      · try dsimp only
        exact exW_step hp4 hp2 hp3 (by omega) hex
      · try dsimp only
        have hej := exW_j hp4 hp3 (show k < 16 by omega) hex
        rw [exC_succ, ← hc, ← hej]
        clear hc
        simp [*]
      · first | omega | (dsimp only; omega)
    · refine lx_skip rfl <| lx_skip rfl <| lx_skip rfl <| lx_skip rfl <| lx_pick true (.bool true) rfl rfl rfl <| lx_assign (.bool true) rfl rfl <| lx_nil <| wi_draw mo rfl (by decide +kernel) <| ?_
      have hb4 := @and_lt64 _ (gt us (j * 16 + k)) hb1
      have hb5 := or_lt64 hb1 hb2
      refine lx_move (.pointer (some ⟨bn, 0, none⟩)) rfl rfl <| lx_move (.int .i64 ((i : Nat) : Int)) rfl rfl <| lx_move (.int .i64 ((k : Nat) : Int)) rfl rfl <| lx_move (.pointer (some ⟨bn, 0, none⟩)) rfl rfl <| lx_move (.int .i64 ((j : Nat) : Int)) rfl rfl <| lx_move (.int .i64 ((k : Nat) : Int)) rfl rfl <| lx_move (.int .u64 ((gt ws (i * 16 + k) : Nat) : Int)) rfl rfl <| lx_move (.int .u64 ((gt us (j * 16 + k) : Nat) : Int)) rfl rfl <| lx_and (m := gt ws (i * 16 + k)) (n := gt us (j * 16 + k)) rfl rfl rfl (by show _ < 2 ^ 64; omega) (by show _ < 2 ^ 64; omega) (wrap_u64 (by omega) (by omega)) <| lx_move (.int .u64 ((gt ws (i * 16 + k) : Nat) : Int)) rfl rfl <| lx_move (.int .u64 ((gt us (j * 16 + k) : Nat) : Int)) rfl rfl <| lx_or (m := gt ws (i * 16 + k)) (n := gt us (j * 16 + k)) rfl rfl rfl (by show _ < 2 ^ 64; omega) (by show _ < 2 ^ 64; omega) (wrap_u64 (by omega) (by omega)) <| lx_nilCheck ⟨bn, 0, none⟩ rfl rfl <| lx_ixB (i := i) (i * 16) rfl Try.underlying153 Try.sizeOf151 rfl rfl (by omega) (by omega) <| lx_ixB (i := k) (i * 16 + k) rfl Try.underlying151 Try.sizeOf149 rfl rfl (by omega) (by omega) <| lx_stB (.int .u64 (((gt ws (i * 16 + k)) &&& (gt us (j * 16 + k)) : Nat) : Int)) rfl rfl Try.sizeOf149 hbk1 (by rw [wc_size]; first | omega | (simp only [List.length_set, List.length_append, List.length_cons, List.length_nil, List.length_replicate, List.length_take, swp_length, exch_length]; omega)) rfl rfl rfl rfl (fun _ _ _ _ => trivial) fun h3 hbk4 hc3 => ?_
      have hx0_3 := hc3.ext (Nat.le_refl _)
      have hcb4 := hcb1.trans hc3
      rw [wc_set] at hbk4
      refine lx_nilCheck ⟨bn, 0, none⟩ rfl rfl <| lx_ixB (i := j) (j * 16) rfl Try.underlying153 Try.sizeOf151 rfl rfl (by omega) (by omega) <| lx_ixB (i := k) (j * 16 + k) rfl Try.underlying151 Try.sizeOf149 rfl rfl (by omega) (by omega) <| lx_stB (.int .u64 (((gt ws (i * 16 + k)) ||| (gt us (j * 16 + k)) : Nat) : Int)) rfl rfl Try.sizeOf149 hbk4 (by rw [wc_size]; first | omega | (simp only [List.length_set, List.length_append, List.length_cons, List.length_nil, List.length_replicate, List.length_take, swp_length, exch_length]; omega)) rfl rfl rfl rfl (fun _ _ _ _ => trivial) fun h4 hbk5 hc4 => ?_
      have hx0_4 := hx0_3.trans (hc4.ext (Nat.le_refl _))
      have hcb5 := hcb4.trans hc4
      rw [wc_set] at hbk5
      refine lx_nil <| wi_inBlock <| wi_reg rfl <| lx_add (((k + 1 : Nat) : Int)) rfl rfl rfl (by omega) (by omega) (by omega) <| lx_move (.int .i64 ((k + 1 : Nat) : Int)) rfl rfl <| lx_nil <| ?_
      -- L0.2
      refine IH1 _ _ (k + 1, (us.set (i * 16 + k) ((gt ws (i * 16 + k)) &&& (gt us (j * 16 + k)))).set (j * 16 + k) ((gt ws (i * 16 + k)) ||| (gt us (j * 16 + k))), true) (agree_ups rfl agree_self) ⟨rfl, rfl, trivial⟩ ⟨hcb5, ?_, ?_, ?_, ?_⟩ ?_
      · exact hbk5
      · try dsimp only
        omega
      · try dsimp only
        exact exW_step hp4 hp2 hp3 (by omega) hex
      · try dsimp only
        have hej := exW_j hp4 hp3 (show k < 16 by omega) hex
        rw [exC_succ, ← hc, ← hej]
        clear hc
        simp [*]
      · first | omega | (dsimp only; omega)
  · refine lx_nil <| wi_seq <| wi_false rfl <| wi_exit rfl <| wi_seq <| wi_reg rfl <| lx_move (.bool c) rfl rfl <| lx_assign (.bool c) rfl rfl <| lx_nil <| ?_
    -- R1
    refine wi_ret ⟨.bool c, (res_one rfl rfl), ⟨us, ?_, ?_, ?_, hcb1⟩⟩
    · rw [hc, show k = 16 from by omega]
    · exact hbk1
    · exact Wi_ex hp4 hp2 hp3 hp1 (by rw [show 16 = k from by omega]; exact hex)

set_option maxRecDepth 10000 in
theorem wpat_spec (h : Heap) (n : Nat) (p : Nat) (ws : List Nat) (f : WF) (bn : Nat) (hb_bn : Blk h bn (wc ws) 153) (hp1 : Wi f ws) (hp2 : n ≤ 10) (hp3 : p < 1024) : Fx Try.prog 122 [.pointer (some ⟨bn, 0, none⟩), .int .i64 ((n : Nat) : Int), .int .i64 ((p : Nat) : Int)] h (fun v h' => v = .int .i64 ((colN n (fun i => f i p) : Nat) : Int) ∧ h = h') := by
  have hwl := hp1.1
  refine fx_intro (n := 34) [(0, .pointer (some ⟨bn, 0, none⟩)), (1, .int .i64 ((n : Nat) : Int)), (2, .int .i64 ((p : Nat) : Int))] Try.func122 rfl rfl (by simp) ⟨rfl, rfl, rfl, trivial⟩ fun g0 => ?_
  refine wi_seq <| wi_reg rfl <| lx_assign (.int .i64 0) rfl rfl <| lx_nil <| wi_seq <| wi_reg rfl <| lx_assign (.int .i64 0) rfl rfl <| lx_nil <| wi_seq <| wi_seq <| wi_reg rfl <| lx_move (.int .i64 ((n : Nat) : Int)) rfl rfl <| lx_move (.int .i64 0) rfl rfl <| lx_nil <| wi_block <| ?_
  refine wi_loop (σ := Nat × Nat) (rngB 10 33 [7, 8]) (fun (ss : Nat × Nat) => [(10, .int .i64 ((ss.1 : Nat) : Int)), (7, .int .i64 ((ss.2 : Nat) : Int))]) (fun (ss : Nat × Nat) (hh : Heap) => h = hh ∧ (ss.1 ≤ n) ∧ (ss.2 = colN ss.1 (fun k => f k p))) (fun (ss : Nat × Nat) => n - ss.1) (0, 0) ⟨rfl, rfl, trivial⟩ ⟨rfl, ?_, ?_⟩ ?_
  · try dsimp only
    omega
  · try dsimp only
    first | done | rfl
  rintro g1 ⟨i, o⟩ hh1 ⟨rfl, hi, ho⟩ IH1
  dsimp only at *
  refine wi_seq <| wi_reg rfl <| lx_lssS rfl rfl rfl (fun c1 => ?_) (fun c1 => ?_)
  · refine lx_nil <| wi_seq <| wi_true rfl <| wi_skip <| wi_seq <| wi_block <| wi_seq <| wi_reg rfl <| lx_move (.int .i64 ((i : Nat) : Int)) rfl rfl <| lx_assign (.int .i64 ((i : Nat) : Int)) rfl rfl <| lx_nil <| wi_reg rfl <| ?_
    have hb1 := hp1.2.1 (i * 16 + p / 64) (by omega)
    have hd := Nat.div_le_self (gt ws (i * 16 + p / 64)) (2 ^ (p % 64))
    have hb2 : gt ws (i * 16 + p / 64) / 2 ^ (p % 64) &&& 1 ≤ 1 := Nat.and_le_right
    have hpi := pow10 (show i ≤ 10 by omega)
    have hb3 := bit_and_one (gt ws (i * 16 + p / 64)) (p % 64)
    rw [hp1.2.2 i (by omega) p (by omega)] at hb3
    have h2i := Nat.two_pow_pos i
    have hb4 : (gt ws (i * 16 + p / 64) / 2 ^ (p % 64) &&& 1) * 2 ^ i ≤ 2 ^ i := by rw [hb3]; split <;> omega
    have hc1 := colN_lt i (fun i => f i p)
    have hor := @colN_or i (fun i => f i p) (gt ws (i * 16 + p / 64) / 2 ^ (p % 64) &&& 1)
    rw [← ho] at hor hc1
    refine lx_move (.int .i64 ((o : Nat) : Int)) rfl rfl <| lx_move (.pointer (some ⟨bn, 0, none⟩)) rfl rfl <| lx_move (.int .i64 ((i : Nat) : Int)) rfl rfl <| lx_move (.int .i64 ((p : Nat) : Int)) rfl rfl <| lx_quo (m := p) (n := 64) rfl rfl rfl (by omega) (wrap_quo_i64 (by omega)) <| lx_nilCheck ⟨bn, 0, none⟩ rfl rfl <| lx_ixB (i := i) (i * 16) rfl Try.underlying153 Try.sizeOf151 rfl rfl (by omega) (by omega) <| lx_ixB (i := p / 64) (i * 16 + (p / 64)) rfl Try.underlying151 Try.sizeOf149 rfl rfl (by omega) (by omega) <| lx_ldB (.int .u64 ((gt ws (i * 16 + (p / 64)) : Nat) : Int)) rfl rfl fl149 hb_bn (wc_get (by omega)) rfl <| lx_move (.int .i64 ((p : Nat) : Int)) rfl rfl <| lx_rem (m := p) (n := 64) rfl rfl rfl (by omega) <| lx_conv ((p % 64 : Nat) : Int) rfl Try.underlying3 Try.underlying45 rfl (wrap_u64 (by omega) (by omega)) <| lx_shr (m := gt ws (i * 16 + (p / 64))) (n := p % 64) rfl rfl rfl (by show _ ≤ 64; omega) <| lx_and (m := (gt ws (i * 16 + (p / 64))) / 2 ^ (p % 64)) (n := 1) rfl rfl rfl (by show _ < 2 ^ 64; omega) (by show _ < 2 ^ 64; omega) (wrap_u64 (by omega) (by omega)) <| lx_conv ((((gt ws (i * 16 + (p / 64))) / 2 ^ (p % 64)) &&& 1 : Nat) : Int) rfl Try.underlying149 Try.underlying3 rfl (wrap_i64 (by omega) (by omega)) <| lx_move (.int .i64 ((i : Nat) : Int)) rfl rfl <| lx_conv ((i : Nat) : Int) rfl Try.underlying3 Try.underlying45 rfl (wrap_u64 (by omega) (by omega)) <| lx_shl (m := ((gt ws (i * 16 + (p / 64))) / 2 ^ (p % 64)) &&& 1) (n := i) rfl rfl rfl (by show _ ≤ 64; omega) (wrap_i64 (by omega) (by omega)) <| lx_or (m := o) (n := (((gt ws (i * 16 + (p / 64))) / 2 ^ (p % 64)) &&& 1) * 2 ^ i) rfl rfl rfl (by show _ < 2 ^ 64; omega) (by show _ < 2 ^ 64; omega) (wrap_i64 (by omega) (by omega)) <| lx_assign (.int .i64 ((o ||| ((((gt ws (i * 16 + (p / 64))) / 2 ^ (p % 64)) &&& 1) * 2 ^ i) : Nat) : Int)) rfl rfl <| lx_nil <| wi_inBlock <| wi_reg rfl <| lx_add (((i + 1 : Nat) : Int)) rfl rfl rfl (by omega) (by omega) (by omega) <| lx_move (.int .i64 ((i + 1 : Nat) : Int)) rfl rfl <| lx_nil <| ?_
    -- L0.1
    refine IH1 _ _ (i + 1, o ||| ((((gt ws (i * 16 + (p / 64))) / 2 ^ (p % 64)) &&& 1) * 2 ^ i)) (agree_ups rfl agree_self) ⟨rfl, rfl, trivial⟩ ⟨rfl, ?_, ?_⟩ ?_
    · try dsimp only
      omega
    · try dsimp only
      rw [hor, hb3, ho]; rfl
    · first | omega | (dsimp only; omega)
  · refine lx_nil <| wi_seq <| wi_false rfl <| wi_exit rfl <| wi_seq <| wi_reg rfl <| lx_move (.int .i64 ((o : Nat) : Int)) rfl rfl <| lx_assign (.int .i64 ((o : Nat) : Int)) rfl rfl <| lx_nil <| ?_
    -- R1
    refine wi_ret ⟨.int .i64 ((o : Nat) : Int), (res_one rfl rfl), ⟨?_, rfl⟩⟩
    · rw [ho, show i = n from by omega]

set_option maxRecDepth 10000 in
theorem run_spec (h : Heap) (n : Nat) (vl : Value) (ls : List (Int × Int)) (hr_vl : RdE encP h vl ls) (hp1 : n ≤ 10) (hp2 : ls.length ≤ 200) (hp3 : ∀ i, i < ls.length → validC n (gt ls i) = true) : Fx Try.prog 121 [.int .i64 ((n : Nat) : Int), vl] h (fun v h' => ∃ (ws : List Nat), v = .agg (wc ws) ∧ (Wi (runF ls (patF n)) ws) ∧ Ext h.size h h') := by
  refine fx_intro (n := 23) [(0, .int .i64 ((n : Nat) : Int)), (1, vl)] Try.func121 rfl rfl (by simp) ⟨rfl, rfl, trivial⟩ fun g0 => ?_
  refine wi_seq <| wi_reg rfl <| lx_alloc rfl rfl Try.zeroValue153 (fun _ _ _ => trivial) fun bn1 h1 hbn1 hbk1 hx1 hsz1 => ?_
  have hbb1 : h.size ≤ bn1 := by have := (Nat.le_refl h.size); omega
  have hbk1 : Blk h1 bn1 (wc (List.replicate 160 0)) 153 := by rw [← zc153]; exact hbk1
  refine lx_nil <| wi_seq <| wi_reg rfl <| lx_move (.int .i64 ((n : Nat) : Int)) rfl rfl <| lx_call [.int .i64 ((n : Nat) : Int)] rfl rfl Try.call156 rfl (patterns_spec h1 n (by omega)) (fun _ _ _ => trivial) ?_
  rintro _ h2 ⟨ws_1, rfl, hw_1, hx2⟩
  have hx0_1 := hx1.trans2 hx2 hx1.size
  have hb1 := hbk1.extS hx2
  have hwl_1 := hw_1.1
  refine lx_alloc rfl rfl Try.zeroValue153 (fun _ _ _ => trivial) fun bn2 h3 hbn2 hbk2 hx3 hsz2 => ?_
  have hbb2 : h.size ≤ bn2 := by have := hx0_1.size; omega
  have hne1 : bn2 ≠ bn1 := by have := hb1.lt; omega
  have hx0_2 := hx0_1.trans2 hx3 hx0_1.size
  have hb2 := hb1.extS hx3
  have hbk2 : Blk h3 bn2 (wc (List.replicate 160 0)) 153 := by rw [← zc153]; exact hbk2
  refine lx_stBA (wc ws_1) rfl rfl Try.sizeOf153 hbk2 (by rw [wc_size]; first | omega | (simp; done) | (simp; omega)) (by rw [wc_size]; first | omega | (simp; done) | (simp; omega)) rfl rfl (wc_one _) (fun _ _ _ _ => trivial) fun h4 hbk3 hc1 => ?_
  have hx0_3 := hx0_2.trans (hc1.ext hbb2)
  have hb3 := hc1.blk hb2 (Ne.symm hne1)
  refine lx_nil <| wi_seq <| wi_seq <| wi_reg rfl <| lx_move (vl) rfl rfl <| lx_len rfl Try.underlying22 hr_vl rfl <| lx_move (.int .i64 0) rfl rfl <| lx_nil <| wi_block <| ?_
  refine wi_loop (σ := Nat × (List Nat)) (rngB 12 22 [7]) (fun (ss : Nat × (List Nat)) => [(12, .int .i64 ((ss.1 : Nat) : Int))]) (fun (ss : Nat × (List Nat)) (hh : Heap) => Ext h.size h hh ∧ Blk hh bn1 (wc (List.replicate 160 0)) 153 ∧ Blk hh bn2 (wc ss.2) 153 ∧ (ss.1 ≤ ls.length) ∧ (Wi (runF (ls.take ss.1) (patF n)) ss.2)) (fun (ss : Nat × (List Nat)) => ls.length - ss.1) (0, ws_1) ⟨rfl, trivial⟩ ⟨hx0_3, ?_, ?_, ?_, ?_⟩ ?_
  · exact hb3
  · exact hbk3
  · try dsimp only
    omega
  · try dsimp only
    rw [List.take_zero]; exact hw_1
  rintro g1 ⟨i, ws⟩ hh1 ⟨hx0_4, hbk4, hbk5, hi, hw⟩ IH1
  dsimp only at *
  have hwl := hw.1
  refine wi_seq <| wi_reg rfl <| lx_lssS rfl rfl rfl (fun c1 => ?_) (fun c1 => ?_)
  · refine lx_nil <| wi_seq <| wi_true rfl <| wi_skip <| wi_seq <| wi_block <| wi_seq <| wi_reg rfl <| ?_
    obtain ⟨hv1, hv2, hv3, hv4⟩ := validC_nat (hp3 i (by omega))
    refine lx_ix (i := i) rfl eT22 hr_vl rfl rfl (by omega) <| lx_ldA (i := i) [.int .i64 (((gt ls i).1.toNat : Nat) : Int), .int .i64 (((gt ls i).2.toNat : Nat) : Int)] rfl rfl wd85 (hr_vl.extS hx0_4) (by omega) (by show [Value.int .i64 (gt ls i).1, .int .i64 (gt ls i).2] = _; rw [← hv1, ← hv2]) rfl <| lx_alloc rfl rfl Try.zeroValue85 (fun _ _ _ => trivial) fun bn3 h5 hbn3 hbk6 hx4 hsz3 => ?_
    have hbb3 : h.size ≤ bn3 := by have := hx0_4.size; omega
    have hne2 : bn3 ≠ bn1 := by have := hbk4.lt; omega
    have hne3 : bn3 ≠ bn2 := by have := hbk5.lt; omega
    have hx0_5 := hx0_4.trans2 hx4 hx0_4.size
    have hb4 := hbk4.extS hx4
    have hb5 := hbk5.extS hx4
    have hbk6 : Blk h5 bn3 #[.int .i64 0, .int .i64 0] 85 := hbk6
    refine lx_stBA (#[.int .i64 (((gt ls i).1.toNat : Nat) : Int), .int .i64 (((gt ls i).2.toNat : Nat) : Int)]) rfl rfl Try.sizeOf85 hbk6 rfl rfl rfl rfl (by simp [Value.oneCell']) (fun _ _ _ _ => trivial) fun h6 hbk7 hc2 => ?_
    have hx0_6 := hx0_5.trans (hc2.ext hbb3)
    have hb6 := hc2.blk hb4 (Ne.symm hne2)
    have hb7 := hc2.blk hb5 (Ne.symm hne3)
    refine lx_nil <| wi_reg rfl <| lx_ixB (i := 0) (0) rfl Try.underlying85 Try.sizeOf3 rfl rfl (by omega) rfl <| lx_ldB (.int .i64 (((gt ls i).1.toNat : Nat) : Int)) rfl rfl fl3 hbk7 rfl rfl <| lx_ixB (i := 1) (1) rfl Try.underlying85 Try.sizeOf3 rfl rfl (by omega) rfl <| lx_ldB (.int .i64 (((gt ls i).2.toNat : Nat) : Int)) rfl rfl fl3 hbk7 rfl rfl <| lx_call [.pointer (some ⟨bn2, 0, none⟩), .int .i64 (((gt ls i).1.toNat : Nat) : Int), .int .i64 (((gt ls i).2.toNat : Nat) : Int)] rfl rfl Try.call157 rfl (wexch_spec h6 ((gt ls i).1.toNat) ((gt ls i).2.toNat) ws (runF (ls.take i) (patF n)) bn2 hb7 hw (by omega) (by omega) (by omega)) (fun _ _ _ => trivial) ?_
    rintro _ h7 ⟨us_1, rfl, ho1, hw_2, hx5⟩
    have hx0_7 := hx0_6.trans (hx5.ext hbb2)
    have hb8 := hx5.blk hb6 (Ne.symm hne1)
    have hb9 := hx5.blk hbk7 hne3
    refine lx_nil <| wi_inBlock <| wi_reg rfl <| lx_add (((i + 1 : Nat) : Int)) rfl rfl rfl (by omega) (by omega) (by omega) <| lx_move (.int .i64 ((i + 1 : Nat) : Int)) rfl rfl <| lx_nil <| ?_
    -- L0.1
    refine IH1 _ _ (i + 1, us_1) (agree_ups rfl agree_self) ⟨rfl, trivial⟩ ⟨hx0_7, ?_, ?_, ?_, ?_⟩ ?_
    · exact hb8
    · exact ho1
    · try dsimp only
      omega
    · try dsimp only
      rw [runF_take (by omega)]; exact hw_2
    · first | omega | (dsimp only; omega)
  · refine lx_nil <| wi_seq <| wi_false rfl <| wi_exit rfl <| wi_seq <| wi_reg rfl <| lx_ldBA rfl rfl wd153 hbk5 (by rw [wc_size]; first | omega | (simp; done) | (simp; omega)) rfl <| lx_stBA (wc ws) rfl rfl Try.sizeOf153 hbk4 (by rw [wc_size]; first | omega | (simp; done) | (simp; omega)) (by rw [wc_size]; first | omega | (simp; done) | (simp; omega)) rfl rfl (wc_one _) (fun _ _ _ _ => trivial) fun h8 hbk8 hc3 => ?_
    have hx0_8 := hx0_4.trans (hc3.ext hbb1)
    have hb10 := hc3.blk hbk5 hne1
    refine lx_nil <| ?_
    -- R1
    refine wi_ret ⟨.agg (wc ws), (res_cell rfl rfl hbk8 wd153 (by rw [wc_size]; first | omega | (simp; done) | (simp; omega))), ⟨ws, rfl, ?_, hx0_8⟩⟩
    · rw [show i = ls.length from by omega, List.take_length] at hw; exact hw

end Go.Proofs.Ytdokijbdnajhgaa
namespace Go.X
def bI (b : Bool) : Int := if b then 1 else 0
def trS (bit x : Nat) (ys : List Int) : List Int := if x &&& bit = 0 then (ys.set x (gt ys x)).set (x ||| bit) (gt ys (x ||| bit) - gt ys x) else ys
def trX (bit k : Nat) (ys : List Int) : List Int := (List.range k).foldl (fun ys x => trS bit x ys) ys
def tr0 : List Int := [0, 1, 1, 0]
def trT : Nat → Nat → List Int
  | 0, x => trX 1 x tr0
  | e + 1, x => trX (2 ^ (e + 1)) x (trT e 4)
theorem trX_succ (bit k : Nat) (ys : List Int) : trX bit (k + 1) ys = trS bit k (trX bit k ys) := by simp [trX, List.range_succ]
theorem trT_succ (e x : Nat) : trT e (x + 1) = trS (2 ^ e) x (trT e x) := by
  cases e with
  | zero => exact trX_succ 1 x tr0
  | succ e => exact trX_succ (2 ^ (e + 1)) x (trT e 4)
theorem trT_next (e : Nat) : trT (e + 1) 0 = trT e 4 := rfl
theorem trT_all : ((List.range 3).all fun e => (List.range 5).all fun x => (List.range 4).all fun j => decide ((trT e x).length = 4 ∧ -100 ≤ gt (trT e x) j ∧ gt (trT e x) j ≤ 100)) = true := by decide +kernel
theorem trT_ok {e x j : Nat} (he : e < 3) (hx : x < 5) (hj : j < 4) : (trT e x).length = 4 ∧ -100 ≤ gt (trT e x) j ∧ gt (trT e x) j ≤ 100 := by
  have := rall_iff.1 (rall_iff.1 (rall_iff.1 trT_all e he) x hx) j hj
  rwa [decide_eq_true_iff] at this
theorem or_all : ((List.range 2).all fun e => (List.range 4).all fun x => decide (x &&& 2 ^ e = 0 → x ||| 2 ^ e < 4)) = true := by decide +kernel
theorem or_ok {e x : Nat} (he : e < 2) (hx : x < 4) (h : x &&& 2 ^ e = 0) : x ||| 2 ^ e < 4 := by
  have := rall_iff.1 (rall_iff.1 or_all e he) x hx
  rw [decide_eq_true_iff] at this
  exact this h
def dgF (k : Nat) : Nat := (List.range k).foldl (fun n m => if gt (trT 2 0) m ≠ 0 then max n (popN m) else n) 0
theorem dgF_succ (k : Nat) : dgF (k + 1) = if gt (trT 2 0) k ≠ 0 then max (dgF k) (popN k) else dgF k := by simp [dgF, List.range_succ]
theorem dg_all : dgF 4 = 2 ∧ ((List.range 5).all fun k => decide (dgF k ≤ 12)) = true ∧ ((List.range 5).all fun k => decide (popN k ≤ 12)) = true := by decide +kernel
theorem dgF_le {k : Nat} (h : k < 5) : dgF k ≤ 12 := by have := rall_iff.1 dg_all.2.1 k h; rwa [decide_eq_true_iff] at this
theorem popN_le4 {k : Nat} (h : k < 5) : popN k ≤ 12 := by have := rall_iff.1 dg_all.2.2 k h; rwa [decide_eq_true_iff] at this
theorem len4 : Lib.bitLen 4 = 3 := by decide +kernel
end Go.X
