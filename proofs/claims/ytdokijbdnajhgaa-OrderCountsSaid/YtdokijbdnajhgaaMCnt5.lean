/-
  Texts in one: XTwo, XPop, XLin, XMapO, XComp, XLinM, OK, OC, OD, OE, XCross, OM, XDeg, XEul, XDiff, XHall, XCut, XSeqO, XTarski.
-/
import Derived.Test.YtdokijbdnajhgaaMCnt4
import Derived.Maps.RangeRun
import Derived.MapKept
import Derived.Lib.BitFns
set_option linter.unusedSimpArgs false
set_option linter.unusedVariables false
namespace Go.X
section
variable {P : Program} {S : Heap → Prop} {kd : Oper → Kd} {ops : Array Oper}

/-- A free operation may come before 'i'. -/
theorem push_free {K : Env → Heap → Prop} {i m fuel : Nat} {oi om : Oper} {listed : Array Bool} {e : Env} {h : Heap} (hi : ops[i]? = some oi) (hm : ops[m]? = some om) (hsel : ∀ (j : Nat) (o : Oper) cs b, ops[j]? = some o → o.op ≠ .select cs b)
    (hmi : m ≠ i) (hap : oi.apart ops om = true) (hfr : kd om = .free) (hrm : m ∈ Region.ready .any ops listed) (hS : S h)
    (H : obAt P S kd ops i (anyX P S kd ops K (fuel + 1) (listed.setIfInBounds i true)) e h) :
    ∃ v, FreeAt P S ops om e v ∧ obAt P S kd ops i (anyX P S kd ops K fuel ((listed.setIfInBounds m true).setIfInBounds i true)) (putE e om.dst v) h := by
  have hsi := fun cs b => hsel i oi cs b hi
  have hsj := fun cs b => hsel m om cs b hm
  obtain ⟨h1, h2, h3⟩ := Oper.apart_spec hap
  have hrj := ready_mono hrm hmi
  have hcomm : (listed.setIfInBounds i true).setIfInBounds m true = (listed.setIfInBounds m true).setIfInBounds i true := Array.setIfInBounds_comm _ _ (Ne.symm hmi)
  by_cases hA : kd oi = .free ∨ Region.wanted oi (yieldE ops e) = false
  · obtain ⟨v, hv, hK⟩ := freeAt_of_obAt hi hA H
    obtain ⟨vm, hvm, hK2⟩ := freeAt_of_obAt hm (.inl hfr) (hK.2 m hrj)
    have hvm' : FreeAt P S ops om e vm := hvm.of_same (execOp_putE om hsj e oi.dst v h1).symm (wanted_putE om e oi.dst v h1).symm
    refine ⟨vm, hvm', FreeAt.obAt hi (hv.of_same (execOp_putE oi hsi e om.dst vm h3) (wanted_putE oi e om.dst vm h3)) ?_⟩
    rw [← hcomm, ← putE_comm e v vm h2]
    exact hK2
  · have hwi : Region.wanted oi (yieldE ops e) = true := by
      cases hw : Region.wanted oi (yieldE ops e) with
      | true => rfl
      | false => exact absurd (Or.inr hw) hA
    have H0 : Ob P S (kd oi) oi e h (fun v h' => anyX P S kd ops K (fuel + 1) (listed.setIfInBounds i true) (putE e oi.dst v) h') := by
      unfold obAt at H
      simp only [hi, hwi, if_true] at H
      exact H
    have hwj : ∀ v, Region.wanted om (yieldE ops (putE e oi.dst v)) = Region.wanted om (yieldE ops e) := fun v => wanted_putE om e oi.dst v h1
    obtain ⟨v0, h0, hs0, H1⟩ := ob_exists hS H0
    obtain ⟨vj, hvj, _⟩ := freeAt_of_obAt hm (.inl hfr) (H1.2 m hrj)
    have hvj' : FreeAt P S ops om e vj := hvj.of_same (execOp_putE om hsj e oi.dst v0 h1).symm (hwj v0).symm
    refine ⟨vj, hvj', ?_⟩
    unfold obAt
    simp only [hi, wanted_putE oi e om.dst vj h3, hwi, if_true]
    refine ob_mono hS ?_ (ob_same (execOp_putE oi hsi e om.dst vj h3) H0)
    intro v h' hs' hk
    obtain ⟨v', hv', hK'⟩ := freeAt_of_obAt hm (.inl hfr) (hk.2 m hrj)
    have : vj = v' := FreeAt.det hs' (hvj'.of_same (execOp_putE om hsj e oi.dst v h1) (hwj v)) hv'
    subst this
    rw [← hcomm, ← putE_comm e v vj h2]
    exact hK'

theorem anyX_either {K : Env → Heap → Prop} {i j : Nat} {oi oj : Oper} (F : Nat) (hi : ops[i]? = some oi) (hj : ops[j]? = some oj) (hsel : ∀ (j : Nat) (o : Oper) cs b, ops[j]? = some o → o.op ≠ .select cs b) (hij : i ≠ j) :
    ∀ (fuel : Nat) (listed : Array Bool) (e : Env) (h : Heap),
      (∀ m om, ops[m]? = some om → m ≠ i → m ≠ j → listed.getD m true = false → (beforeB ops F i m = true ∨ beforeB ops F j m = true) ∨ (oi.apart ops om = true ∧ oj.apart ops om = true ∧ kd om = .free)) →
      Closed ops listed → i ∈ Region.ready .any ops listed → j ∈ Region.ready .any ops listed → S h →
      obAt P S kd ops i (anyX P S kd ops K fuel (listed.setIfInBounds i true)) e h → obAt P S kd ops j (anyX P S kd ops K fuel (listed.setIfInBounds j true)) e h → anyX P S kd ops K (fuel + 1) listed e h := by
  intro fuel
  induction fuel with
  | zero =>
    intro listed e h _ _ hri hrj hS H1 H2
    refine ⟨fun h0 => (by rw [h0] at hri; cases hri), fun m hm => ?_⟩
    by_cases hmi : m = i
    · subst hmi; exact H1
    · obtain ⟨_, _, _, H'⟩ := obAt_exists hS H1
      have := ready_mono hm hmi
      rw [H'.1] at this
      cases this
  | succ fuel ih =>
    intro listed e h hfree hc hri hrj hS H1 H2
    refine ⟨fun h0 => (by rw [h0] at hri; cases hri), fun m hm => ?_⟩
    by_cases hmi : m = i
    · subst hmi; exact H1
    by_cases hmj : m = j
    · subst hmj; exact H2
    obtain ⟨hmun, om, hom, _⟩ := mem_ready.1 hm
    rcases hfree m om hom hmi hmj hmun with (hb | hb) | ⟨hap1, hap2, hfr⟩
    · exact absurd hb (ready_listed hc hri hm F)
    · exact absurd hb (ready_listed hc hrj hm F)
    obtain ⟨v1, hv1, K1⟩ := push_free hi hom hsel hmi hap1 hfr hm hS H1
    obtain ⟨v2, hv2, K2⟩ := push_free hj hom hsel hmj hap2 hfr hm hS H2
    have : v1 = v2 := FreeAt.det hS hv1 hv2
    subst this
    refine hv1.obAt hom (ih _ _ h (fun k ok hk hki hkj hun => hfree k ok hk hki hkj ?_) (hc.set hm) (ready_mono hri (Ne.symm hmi)) (ready_mono hrj (Ne.symm hmj)) hS K1 K2)
    by_cases hmk : m = k
    · subst hmk; exact hmun
    · rw [getD_set_ne true hmk] at hun; exact hun

/-- What must hold where operation 'k' is drawn first. -/
def okAt (kd : Oper → Kd) (ops : Array Oper) (F k : Nat) (listed : Array Bool) : Bool :=
  (Region.ready .any ops listed).contains k &&
  ((List.range ops.size).all fun j => j == k || listed.getD j true || (match ops[k]?, ops[j]? with | some ok, some oj => ok.apart ops oj && commB kd ok oj | _, _ => false) || beforeB ops F k j)
def isFree : Kd → Bool
  | .free => true
  | _ => false
theorem isFree_eq {k : Kd} (h : isFree k = true) : k = .free := by cases k <;> simp_all [isFree]
/-- The two. -/
def okPair (kd : Oper → Kd) (ops : Array Oper) (F i : Nat) (listed : Array Bool) : Bool :=
  (Region.ready .any ops listed).contains i && (Region.ready .any ops listed).contains (i + 1) &&
  ((List.range ops.size).all fun m => m == i || m == i + 1 || listed.getD m true || (beforeB ops F i m || beforeB ops F (i + 1) m) || (match ops[i]?, ops[i + 1]?, ops[m]? with | some oi, some oj, some om => oi.apart ops om && oj.apart ops om && isFree (kd om) | _, _, _ => false)) &&
  okAt kd ops F (i + 1) (listed.setIfInBounds i true) && okAt kd ops F i (listed.setIfInBounds (i + 1) true) &&
  okFrom kd ops F (ops.size - (i + 2)) (i + 2) ((listed.setIfInBounds i true).setIfInBounds (i + 1) true)
def okTwo (kd : Oper → Kd) (ops : Array Oper) (F i : Nat) : Nat → Nat → Array Bool → Bool
  | 0, k, listed => k == i && okPair kd ops F i listed
  | n + 1, k, listed => okAt kd ops F k listed && okTwo kd ops F i n (k + 1) (listed.setIfInBounds k true)
theorem okAt_first {K : Env → Heap → Prop} {F k : Nat} {ok : Oper} (hs : Region.noSelect ops = true) (h0 : ops[k]? = some ok) {listed : Array Bool} (hB : okAt kd ops F k listed = true) (hc : Closed ops listed) {e : Env} {h : Heap} {fuel : Nat} (hS : S h)
    (H : obAt P S kd ops k (anyX P S kd ops K fuel (listed.setIfInBounds k true)) e h) : anyX P S kd ops K (fuel + 1) listed e h := by
  simp only [okAt, Bool.and_eq_true] at hB
  obtain ⟨hr, hf⟩ := hB
  refine anyX_first F h0 (Region.noSelect_spec hs) fuel listed e h ?_ hc (by simpa using hr) hS H
  intro j oj hj hjk hun
  have hlt : j < ops.size := (Array.getElem?_eq_some_iff.1 hj).1
  have h1 := List.all_eq_true.1 hf j (List.mem_range.2 hlt)
  simp only [h0, hj, Bool.or_eq_true, beq_iff_eq, Bool.and_eq_true] at h1
  rcases h1 with ((h1 | h1) | h1) | h1
  · exact absurd h1 hjk
  · rw [hun] at h1; cases h1
  · exact .inr h1
  · exact .inl h1
theorem obAt_lx {K : Env → Heap → Prop} {k : Nat} {o : Oper} {l : List Oper} (h0 : ops[k]? = some o) {e : Env} {h : Heap} (H : Lx P S kd ops (o :: l) K e h) : obAt P S kd ops k (Lx P S kd ops l K) e h := by unfold obAt; simp only [h0]; exact H
theorem anyX_two {K : Env → Heap → Prop} {F i : Nat} {oi oj : Oper} {post : List Oper} (hs : Region.noSelect ops = true) (hi : ops[i]? = some oi) (hj : ops[i + 1]? = some oj) (hpost : ∀ q, post[q]? = ops[i + 2 + q]?) (hlen : post.length = ops.size - (i + 2)) :
    ∀ (l : List Oper) (k : Nat) (listed : Array Bool) (e : Env) (h : Heap), (∀ q, q < l.length → l[q]? = ops[k + q]?) → okTwo kd ops F i l.length k listed = true → Closed ops listed → S h →
    Lx P S kd ops l (fun e h => Lx P S kd ops (oi :: oj :: post) K e h ∧ Lx P S kd ops (oj :: oi :: post) K e h) e h → anyX P S kd ops K (l.length + (post.length + 2)) listed e h
  | [], k, listed, e, h, _, hB, hc, hS, H => by
    simp only [List.length_nil, okTwo, Bool.and_eq_true, beq_iff_eq] at hB
    obtain ⟨rfl, hB⟩ := hB
    simp only [okPair, Bool.and_eq_true] at hB
    obtain ⟨⟨⟨⟨⟨hri, hrj⟩, hall⟩, hj1⟩, hi1⟩, hpo⟩ := hB
    have hri' : k ∈ Region.ready .any ops listed := by simpa using hri
    have hrj' : k + 1 ∈ Region.ready .any ops listed := by simpa using hrj
    have hci := hc.set hri'
    have hcj := hc.set hrj'
    have hrj2 : k + 1 ∈ Region.ready .any ops (listed.setIfInBounds k true) := ready_mono hrj' (by omega)
    have hcij := hci.set hrj2
    have hcomm : (listed.setIfInBounds k true).setIfInBounds (k + 1) true = (listed.setIfInBounds (k + 1) true).setIfInBounds k true := Array.setIfInBounds_comm _ _ (by omega)
    have hend : ∀ e' h', S h' → Lx P S kd ops post K e' h' → anyX P S kd ops K post.length ((listed.setIfInBounds k true).setIfInBounds (k + 1) true) e' h' := fun e' h' hs' h5 =>
      anyX_lex F hs post (k + 2) _ e' h' hpost (by rw [hlen]; exact hpo) hcij hs' h5
    rw [show ([] : List Oper).length + (post.length + 2) = post.length + 1 + 1 from by simp]
    refine anyX_either F hi hj (Region.noSelect_spec hs) (by omega) (post.length + 1) listed e h ?_ hc hri' hrj' hS ?_ ?_
    · intro m om hm hmi hmj hun
      have hlt : m < ops.size := (Array.getElem?_eq_some_iff.1 hm).1
      have h1 := List.all_eq_true.1 hall m (List.mem_range.2 hlt)
      simp only [hi, hj, hm, Bool.or_eq_true, beq_iff_eq, Bool.and_eq_true] at h1
      rcases h1 with (((h1 | h1) | h1) | h1) | h1
      · exact absurd h1 hmi
      · exact absurd h1 hmj
      · rw [hun] at h1; cases h1
      · exact .inl h1
      · exact .inr ⟨h1.1.1, h1.1.2, isFree_eq h1.2⟩
    · refine obAt_mono hS (fun e' h' hs' h5 => ?_) (obAt_lx hi H.1)
      exact okAt_first hs hj hj1 hci hs' (obAt_mono hs' (fun e'' h'' hs'' h6 => hend e'' h'' hs'' h6) (obAt_lx hj h5))
    · refine obAt_mono hS (fun e' h' hs' h5 => ?_) (obAt_lx hj H.2)
      exact okAt_first hs hi hi1 hcj hs' (obAt_mono hs' (fun e'' h'' hs'' h6 => by rw [← hcomm]; exact hend e'' h'' hs'' h6) (obAt_lx hi h5))
  | o :: l, k, listed, e, h, hl, hB, hc, hS, H => by
    have h0 : ops[k]? = some o := by have := hl 0 (by simp); simpa using this.symm
    simp only [List.length_cons, okTwo, Bool.and_eq_true] at hB
    have hr : k ∈ Region.ready .any ops listed := by have := hB.1; simp only [okAt, Bool.and_eq_true] at this; simpa using this.1
    rw [show (o :: l).length + (post.length + 2) = l.length + (post.length + 2) + 1 from by simp; omega]
    exact okAt_first hs h0 hB.1 hc hS (obAt_mono hS (fun e' h' hs' h5 => anyX_two hs hi hj hpost hlen l (k + 1) _ e' h' (fun q hq => by have := hl (q + 1) (by simpa using hq); simpa [Nat.add_assoc, Nat.add_comm 1 q] using this) hB.2 (hc.set hr) hs' h5) (obAt_lx h0 H))
end
def swap2 : List Oper → List Oper
  | x :: y :: r => y :: x :: r
  | l => l
section
variable {M : Mo} {P : Program} {n : Nat} {k : List Item} {R : Option Code → Env → Heap → Prop} {e : Env} {h : Heap}
theorem two_split {l : List Oper} {i : Nat} (hi : i + 1 < l.length) : ∃ oi oj post, l.drop i = oi :: oj :: post ∧ l[i]? = some oi ∧ l[i + 1]? = some oj ∧ (∀ q, post[q]? = l[i + 2 + q]?) ∧ post.length = l.length - (i + 2) := by
  refine ⟨l[i], l[i + 1], l.drop (i + 2), ?_, List.getElem?_eq_getElem (by omega), List.getElem?_eq_getElem hi, fun q => by rw [List.getElem?_drop], by simp⟩
  rw [List.drop_eq_getElem_cons (by omega : i < l.length), List.drop_eq_getElem_cons hi]
theorem wi_draw2 {id : Nat} {l : List Oper} (i : Nat) (S : Heap → Prop) (kd : Oper → Kd) (hm : P.follows .mixedOrders = true) (hb : boundsB n l = true) (hok : (decide (i + 1 < l.length) && Region.noSelect l.toArray && okTwo kd l.toArray l.length i i 0 (Array.replicate l.toArray.size false)) = true) (hS : S h)
    (hw : Lx P S kd l.toArray (l.take i) (fun e h => Lx P S kd l.toArray (l.drop i) (WpI M P n k R) e h ∧ Lx P S kd l.toArray (swap2 (l.drop i)) (WpI M P n k R) e h) e h) : WpI M P n (.code (.region id l.toArray true) :: k) R e h :=
  wi_of_wp fun a w hf hh => by
    subst hh
    simp only [Bool.and_eq_true, decide_eq_true_iff] at hok
    obtain ⟨⟨hil, hsel⟩, hok⟩ := hok
    obtain ⟨oi, oj, post, hd, hi, hj, hpost, hlen⟩ := two_split hil
    rw [hd] at hw
    have htl : (l.take i).length = i := by rw [List.length_take]; omega
    have hx := anyX_two (P := P) (S := S) (kd := kd) (ops := l.toArray) (K := WpI M P n k R) (F := l.length) (i := i) (oi := oi) (oj := oj) (post := post) hsel (by simpa using hi) (by simpa using hj) (by intro q; simpa using hpost q) (by simpa using hlen)
      (l.take i) 0 (Array.replicate l.toArray.size false) e w.heap (fun q hq => by rw [List.getElem?_take, if_pos (by omega)]; simp) (by rw [htl]; exact hok) closed_start hS hw
    rw [show (l.take i).length + (post.length + 2) = l.length from by omega] at hx
    refine wpIn_region_any hm ?_
    have := wpAny_of_anyX (ro := M.ro) (P := P) (S := S) hb (w0 := { w with drawn := w.drawn + 1 }) (Q := fun x a' w' => x = .normal ∧ Qt w w' ∧ ∃ e', Fits n M.ds e' a' ∧ WpI M P n k R e' w'.heap) (K := WpI M P n k R)
      (fun e a' w' hf' hq hk => ⟨rfl, ⟨hq.os, hq.tape, hq.output⟩, e, hf', hk⟩) l.length (Array.replicate l.toArray.size false) e a { w with drawn := w.drawn + 1 } hf (Qt.refl _) hS hx
    simpa using this
end
end Go.X
namespace Go.X
section
variable {P : Program} {S : Heap → Prop} {kd : Oper → Kd} {ops : Array Oper} {rest : List Oper} {K : Env → Heap → Prop} {L : List (Nat × Value)} {b : Env} {h : Heap}
variable {d : Nat} {tx ty t : TypeId} {p : String} {af : Array Edge} {g : Option (Nat × Bool)} {x y : Operand}
theorem lx_addU {m n : Int} (r : Int) (hw : Region.wanted ⟨some d, .binOp .add tx x y ty, t, p, af, g⟩ (yieldE ops (ups L b)) = true) (hx : ev (ups L b) x = .int .u64 m) (hy : ev (ups L b) y = .int .u64 n) (hr : m + n = r) (hlo : 0 ≤ r) (hhi : r < 18446744073709551616)
    (hn : Lx P S kd ops rest K (ups ((d, .int .u64 r) :: L) b) h) : Lx P S kd ops (⟨some d, .binOp .add tx x y ty, t, p, af, g⟩ :: rest) K (ups L b) h :=
  lx_free _ hw (fo_int hx hy fun w => by subst hr; simp [binOp, Op.intArith, wrap_u64 hlo hhi]) hn
end
/-- How the library counts bits, step by step. -/
def on1 (x : Nat) : Nat := (x / 2 ^ 1 &&& 6148914691236517205) + (x &&& 6148914691236517205)
def on2 (x : Nat) : Nat := (x / 2 ^ 2 &&& 3689348814741910323) + (x &&& 3689348814741910323)
def on3 (x : Nat) : Nat := (x / 2 ^ 4 + x) &&& 1085102592571150095
def on4 (x : Nat) : Nat := x + x / 2 ^ 8
def on5 (x : Nat) : Nat := x + x / 2 ^ 16
def on6 (x : Nat) : Nat := x + x / 2 ^ 32
def popN (x : Nat) : Nat := (List.range 12).countP fun i => x.testBit i
theorem on_all : ((List.range 4096).all fun x => on1 x ≤ 4096 && on2 (on1 x) ≤ 4096 && on3 (on2 (on1 x)) ≤ 4096 && on4 (on3 (on2 (on1 x))) ≤ 8192 && on5 (on4 (on3 (on2 (on1 x)))) ≤ 8192 && on6 (on5 (on4 (on3 (on2 (on1 x))))) ≤ 8192 && (on6 (on5 (on4 (on3 (on2 (on1 x))))) &&& 127) == popN x) = true := by decide +kernel
theorem on_ok {x : Nat} (h : x < 4096) : on1 x ≤ 4096 ∧ on2 (on1 x) ≤ 4096 ∧ on3 (on2 (on1 x)) ≤ 4096 ∧ on4 (on3 (on2 (on1 x))) ≤ 8192 ∧ on5 (on4 (on3 (on2 (on1 x)))) ≤ 8192 ∧ on6 (on5 (on4 (on3 (on2 (on1 x))))) ≤ 8192 ∧ (on6 (on5 (on4 (on3 (on2 (on1 x))))) &&& 127) = popN x := by
  have := rall_iff.1 on_all x h
  simp only [Bool.and_eq_true, decide_eq_true_iff, beq_iff_eq] at this
  obtain ⟨⟨⟨⟨⟨⟨a, b⟩, c⟩, d⟩, e⟩, f⟩, g⟩ := this
  exact ⟨a, b, c, d, e, f, g⟩
end Go.X
namespace Go.X
theorem countP_drop {P Q : Nat → Bool} {x : Nat} (hx : P x = true) (hq : Q x = false) (h : ∀ i, i ≠ x → P i = Q i) : ∀ {N : Nat}, x < N → (List.range N).countP P = (List.range N).countP Q + 1
  | 0, h0 => by omega
  | N + 1, h0 => by
    rw [List.range_succ, List.countP_append, List.countP_append]
    by_cases e : x = N
    · subst e
      have : (List.range x).countP P = (List.range x).countP Q := List.countP_congr fun i hi => by rw [h i (by have := List.mem_range.1 hi; omega)]
      rw [this]
      simp [hx, hq]
    · rw [countP_drop hx hq h (show x < N by omega)]
      have : List.countP P [N] = List.countP Q [N] := List.countP_congr fun i hi => by rw [List.mem_singleton] at hi; subst hi; rw [h _ (Ne.symm e)]
      omega
theorem bit_off {s x y : Nat} : (andNot s (2 ^ x)).testBit y = (s.testBit y && !decide (x = y)) := by rw [testBit_andNot, Nat.testBit_two_pow]
theorem popN_off {s x : Nat} (hx : x < 12) (h : s.testBit x = true) : popN s = popN (andNot s (2 ^ x)) + 1 :=
  countP_drop (P := fun i => s.testBit i) (Q := fun i => (andNot s (2 ^ x)).testBit i) h (by rw [bit_off]; simp) (fun i hi => by show s.testBit i = _; rw [bit_off]; simp [Ne.symm hi]) hx
theorem popN_zero : popN 0 = 0 := by decide
theorem popN_nz {s : Nat} (hs : s < 4096) (h : s ≠ 0) : popN s ≠ 0 := fun e => h (Nat.eq_of_testBit_eq fun i => by
  rw [Nat.zero_testBit]
  by_cases hi : i < 12
  · unfold popN at e
    rw [List.countP_eq_zero] at e
    have := e i (List.mem_range.2 hi)
    simpa using this
  · exact Nat.testBit_lt_two_pow (Nat.lt_of_lt_of_le hs (by have : 2 ^ 12 ≤ 2 ^ i := Nat.pow_le_pow_right (by omega) (by omega); exact this)))
theorem popN_le (s : Nat) : popN s ≤ 12 := by
  unfold popN
  have := List.countP_le_length (p := fun i => s.testBit i) (l := List.range 12)
  simpa using this
def lastB (n : Nat) (f : Nat → Nat → Bool) (s x : Nat) : Bool := s.testBit x && decide (popN (upF n f x &&& s) = 1)
def linK (n : Nat) (f : Nat → Nat → Bool) : Nat → Nat → Int
  | 0, s => if s = 0 then 1 else 0
  | k + 1, s => if s = 0 then 1 else sumI n fun x => if lastB n f s x then linK n f k (andNot s (2 ^ x)) else 0
def linN (n : Nat) (f : Nat → Nat → Bool) (s : Nat) : Int := linK n f (popN s) s
/-- The sum so far. -/
def linS (n : Nat) (f : Nat → Nat → Bool) (s x : Nat) : Int := sumI x fun q => if lastB n f s q then linN n f (andNot s (2 ^ q)) else 0
theorem linN_zero (n : Nat) (f : Nat → Nat → Bool) : linN n f 0 = 1 := by unfold linN; rw [popN_zero]; rfl
theorem linN_sum {n s : Nat} {f : Nat → Nat → Bool} (hn : n ≤ 12) (hs : s < 4096) (h : s ≠ 0) : linN n f s = linS n f s n := by
  unfold linN linS
  obtain ⟨k, hk⟩ := Nat.exists_eq_succ_of_ne_zero (popN_nz hs h)
  rw [hk]
  unfold linK
  rw [if_neg h]
  refine sumI_congr fun i hi => ?_
  cases c : lastB n f s i
  · rfl
  · have hb : s.testBit i = true := by unfold lastB at c; rw [Bool.and_eq_true] at c; exact c.1
    rw [if_pos rfl, if_pos rfl]
    unfold linN
    rw [show popN (andNot s (2 ^ i)) = k from by have := popN_off (by omega) hb; omega]
theorem linK_bound {n : Nat} {f : Nat → Nat → Bool} : ∀ (k s : Nat), 0 ≤ linK n f k s ∧ linK n f k s ≤ (((n + 1) ^ k : Nat) : Int)
  | 0, s => by unfold linK; split <;> simp
  | k + 1, s => by
    unfold linK
    have hp : (1 : Int) ≤ (((n + 1) ^ (k + 1) : Nat) : Int) := by have : 0 < (n + 1) ^ (k + 1) := Nat.pow_pos (Nat.succ_pos n); omega
    split
    · omega
    · have h1 : ∀ i, i < n → 0 ≤ (if lastB n f s i then linK n f k (andNot s (2 ^ i)) else 0) ∧ (if lastB n f s i then linK n f k (andNot s (2 ^ i)) else 0) ≤ (((n + 1) ^ k : Nat) : Int) := fun i _ => by
        have := linK_bound k (andNot s (2 ^ i)) (n := n) (f := f)
        split
        · exact this
        · omega
      have hpos : ∀ (m : Nat) (g : Nat → Int), (∀ i, i < m → 0 ≤ g i) → 0 ≤ sumI m g := by
        intro m
        induction m with
        | zero => intro g _; exact Int.le_refl _
        | succ m ih => intro g hg; unfold sumI; have := ih g (fun i hi => hg i (by omega)); have := hg m (by omega); omega
      refine ⟨hpos n _ fun i hi => (h1 i hi).1, ?_⟩
      have h2 := (sumI_bound (B := (((n + 1) ^ k : Nat) : Int)) (by omega) (fun i hi => ⟨by have := (h1 i hi).1; omega, (h1 i hi).2⟩)).2
      refine Int.le_trans h2 ?_
      rw [← Int.natCast_mul]
      apply Int.ofNat_le.2
      rw [Nat.pow_succ, Nat.mul_comm]
      exact Nat.mul_le_mul_left _ (Nat.le_succ n)
theorem linN_bound {n s : Nat} {f : Nat → Nat → Bool} (hn : n ≤ 12) : 0 ≤ linN n f s ∧ linN n f s ≤ 23298085122481 := by
  have h := linK_bound (n := n) (f := f) (popN s) s
  have h2 : (n + 1) ^ popN s ≤ 13 ^ 12 := Nat.le_trans (Nat.pow_le_pow_left (by omega) _) (Nat.pow_le_pow_right (by omega) (popN_le s))
  have h3 : (13 : Nat) ^ 12 = 23298085122481 := by decide
  unfold linN
  omega
theorem linS_succ (n s x : Nat) (f : Nat → Nat → Bool) : linS n f s (x + 1) = linS n f s x + if lastB n f s x then linN n f (andNot s (2 ^ x)) else 0 := rfl
theorem linS_bound {n s : Nat} {f : Nat → Nat → Bool} (hn : n ≤ 12) : ∀ {x : Nat}, x ≤ 12 → 0 ≤ linS n f s x ∧ linS n f s x ≤ x * 23298085122481
  | 0, _ => by unfold linS sumI; omega
  | x + 1, hx => by
    have ih := linS_bound (f := f) (s := s) hn (show x ≤ 12 by omega)
    have h := linN_bound (s := andNot s (2 ^ x)) (f := f) hn
    rw [linS_succ]
    split <;> omega
theorem linS_yes {n s x : Nat} {f : Nat → Nat → Bool} (h : lastB n f s x = true) : linS n f s x + linN n f (andNot s (2 ^ x)) = linS n f s (x + 1) := by
  rw [linS_succ, h, if_pos rfl]
theorem linS_no {n s x : Nat} {f : Nat → Nat → Bool} (h : lastB n f s x = false) : linS n f s x = linS n f s (x + 1) := by
  rw [linS_succ, h, if_neg (by simp), Int.add_zero]
/-- The set without a greatest element of it is an ideal as well. -/
theorem idl_off {n s x : Nat} {f : Nat → Nat → Bool} (ho : IsO n f) (hn : n ≤ 12) (hs : s < 2 ^ n) (hi : idlB n f s = true) (hl : lastB n f s x = true) : idlB n f (andNot s (2 ^ x)) = true ∧ andNot s (2 ^ x) < s := by
  unfold lastB at hl
  rw [Bool.and_eq_true, decide_eq_true_iff] at hl
  obtain ⟨hb, hp⟩ := hl
  have hxn := bit_lt hs hb
  have hself : (upF n f x &&& s).testBit x = true := by rw [Nat.testBit_and, upF_bit, decide_eq_true hxn, ho.refl hxn, hb]; rfl
  have huniq : ∀ y, y < n → s.testBit y = true → f x y = true → y = x := fun y hy hby hxy => by
    refine Classical.byContradiction fun hne => ?_
    have h1 := popN_off (by omega) hself
    have hy2 : (andNot (upF n f x &&& s) (2 ^ x)).testBit y = true := by rw [bit_off, Nat.testBit_and, upF_bit, decide_eq_true hy, hxy, hby]; simp [Ne.symm hne]
    have h2 := popN_off (by omega) hy2
    omega
  constructor
  · rw [idlB_iff]
    intro a b ha hbn h1 h2
    rw [bit_off, Bool.and_eq_true, Bool.not_eq_true', decide_eq_false_iff_not] at h1 ⊢
    refine ⟨idlB_iff.1 hi a b ha hbn h1.1 h2, fun e => ?_⟩
    subst e
    exact h1.2 (huniq a ha h1.1 h2).symm
  · have h1 := andNot_le s (2 ^ x)
    rcases Nat.lt_or_eq_of_le h1 with h | h
    · exact h
    · have := bit_off (s := s) (x := x) (y := x)
      rw [h, hb] at this
      simp at this
end Go.X
namespace Go.X
open Go.MapKept
def mapEs (ms : List (Int × Value)) : Array MapEntry := (ms.zipIdx.map fun q => ({ key := .int .i64 q.1.1, val := q.1.2, born := q.2 } : MapEntry)).toArray
def mapObj (ms : List (Int × Value)) : Obj := .map (mapEs ms) ms.length
/-- Block 'l' is a map with these entries, in the order in which they came. -/
def MpO (h : Heap) (l : Nat) (ms : List (Int × Value)) : Prop := h[l]? = some (mapObj ms)
theorem MpO.lt {h : Heap} {l : Nat} {ms : List (Int × Value)} (hm : MpO h l ms) : l < h.size := (Array.getElem?_eq_some_iff.1 hm).1
theorem MpO.extS {h h' : Heap} {l : Nat} {ms : List (Int × Value)} (hm : MpO h l ms) (hx : Ext h.size h h') : MpO h' l ms := (hx.block l hm.lt).trans hm
theorem MpO.nc {h h' : Heap} {l : Nat} {ms : List (Int × Value)} (hm : MpO h l ms) (hx : Nc h h') : MpO h' l ms := hx.2 l _ hm (by intro c t f e; cases e)
/-- Block 'r' is an iterator over the map in block 'l', of 'N' entries, some of which have come. -/
def ItO (h : Heap) (r l N : Nat) (seen : List Nat) : Prop := h[r]? = some (.mapIter (some l) N seen.toArray N)
theorem ItO.lt {h : Heap} {r l N : Nat} {seen : List Nat} (hm : ItO h r l N seen) : r < h.size := (Array.getElem?_eq_some_iff.1 hm).1
theorem ItO.extS {h h' : Heap} {r l N : Nat} {seen : List Nat} (hm : ItO h r l N seen) (hx : Ext h.size h h') : ItO h' r l N seen := (hx.block r hm.lt).trans hm
theorem ItO.nc {h h' : Heap} {r l N : Nat} {seen : List Nat} (hm : ItO h r l N seen) (hx : Nc h h') : ItO h' r l N seen := hx.2 r _ hm (by intro c t f e; cases e)

theorem nb_obj {α : Type} {E : Enc α} {h : Heap} {B : Nat} {e : TypeId} {v : Value} {xs : List α} {l : Nat} {o : Obj} (ho : OwE E h B e v xs) (hm : h[l]? = some o) (hn : ∀ c t f, o ≠ .cells c t f) : v.ownBlock ≠ some l := fun h1 => by
  rcases ho.2 with ⟨rfl, _⟩ | ⟨g, cap, cur, rfl, _, hg, _⟩
  · cases h1
  · simp only [Value.ownBlock, Option.some.injEq] at h1
    subst h1
    rw [hm] at hg
    exact hn _ _ _ (Option.some.inj hg)
theorem nb_map {α : Type} {E : Enc α} {h : Heap} {B : Nat} {e : TypeId} {v : Value} {xs : List α} {l : Nat} {ms : List (Int × Value)} (ho : OwE E h B e v xs) (hm : MpO h l ms) : v.ownBlock ≠ some l := nb_obj ho hm (by intro c t f e; cases e)
theorem mapEs_get {ms : List (Int × Value)} {i : Nat} (hi : i < ms.length) : (mapEs ms)[i]? = some { key := .int .i64 (ms[i]).1, val := (ms[i]).2, born := i } := by
  simp [mapEs, List.getElem?_eq_getElem, hi]
theorem mapEs_push (ms : List (Int × Value)) (k : Int) (v : Value) : (mapEs ms).push { key := .int .i64 k, val := v, born := ms.length } = mapEs (ms ++ [(k, v)]) := by
  apply Array.toList_inj.1
  simp [mapEs, List.zipIdx_append]
theorem mapEs_modify {ms : List (Int × Value)} {i : Nat} (hi : i < ms.length) (k : Int) (v : Value) : (mapEs ms).modify i (fun e => { e with key := .int .i64 k, val := v }) = mapEs (ms.set i (k, v)) := by
  apply Array.ext (by simp [mapEs])
  intro j h1 h2
  have hj : j < ms.length := by simpa [mapEs] using h2
  simp only [Array.getElem_modify, mapEs, List.getElem_toArray, List.getElem_map, List.getElem_zipIdx, List.getElem_set]
  by_cases e : i = j
  · subst e; simp
  · simp [e]
/-- Where a key stands. -/
def idxM (ms : List (Int × Value)) (k : Int) : Option Nat := ms.findIdx? fun m => m.1 == k
def putM (ms : List (Int × Value)) (k : Int) (v : Value) : List (Int × Value) := match idxM ms k with
  | some i => ms.set i (k, v)
  | none => ms ++ [(k, v)]
def getM (ms : List (Int × Value)) (k : Int) (d : Value) : Value := match idxM ms k with
  | some i => ((ms[i]?).map (·.2)).getD d
  | none => d
theorem findNow_map (k : Int) : ∀ (ms : List (Int × Value)) (i : Nat), Instr.findNow (.int .i64) (.int .i64 k) ((ms.zipIdx i).map fun q => ({ key := .int .i64 q.1.1, val := q.1.2, born := q.2 } : MapEntry)) i = some ((ms.findIdx? fun m => m.1 == k).map fun j => (i + j, ((ms[j]?).map (·.2)).getD undef))
  | [], i => rfl
  | m :: ms, i => by
    simp only [List.zipIdx_cons, List.map_cons, Instr.findNow, Instr.sameNow, if_pos]
    by_cases e : m.1 = k
    · have e2 : (m.1 == k) = true := by simp [e]
      rw [List.findIdx?_cons, e2]; simp [e]
    · have e' : (k == m.1) = false := by simp [Ne.symm e]
      have e2 : (m.1 == k) = false := by simp [e]
      rw [e', List.findIdx?_cons, e2]
      simp only [findNow_map k ms (i + 1)]
      cases ms.findIdx? (fun m => m.1 == k) with
      | none => rfl
      | some j => simp; omega
theorem idxM_some {ms : List (Int × Value)} {k : Int} {i : Nat} (h : idxM ms k = some i) : i < ms.length ∧ ∃ v, ms[i]? = some (k, v) := by
  unfold idxM at h
  rw [List.findIdx?_eq_some_iff_getElem] at h
  obtain ⟨hi, h1, _⟩ := h
  refine ⟨hi, (ms[i]).2, ?_⟩
  rw [List.getElem?_eq_getElem hi]
  have : (ms[i]).1 = k := by simpa using h1
  rw [← this]
theorem getM_cons (m : Int × Value) (ms : List (Int × Value)) (k : Int) (d : Value) : getM (m :: ms) k d = if m.1 = k then m.2 else getM ms k d := by
  unfold getM idxM
  rw [List.findIdx?_cons]
  by_cases e : m.1 = k
  · simp [e]
  · have e2 : (m.1 == k) = false := by simp [e]
    rw [e2, if_neg e]
    cases ms.findIdx? (fun m => m.1 == k) <;> simp
theorem putM_cons (m : Int × Value) (ms : List (Int × Value)) (k : Int) (v : Value) : putM (m :: ms) k v = if m.1 = k then (k, v) :: ms else m :: putM ms k v := by
  unfold putM idxM
  rw [List.findIdx?_cons]
  by_cases e : m.1 = k
  · simp [e]
  · have e2 : (m.1 == k) = false := by simp [e]
    rw [e2, if_neg e]
    cases ms.findIdx? (fun m => m.1 == k) <;> simp
theorem get_put (k q : Int) (v d : Value) : ∀ ms : List (Int × Value), getM (putM ms k v) q d = if q = k then v else getM ms q d
  | [] => by
    show getM [(k, v)] q d = _
    rw [getM_cons]
    by_cases e : k = q
    · simp [e]
    · rw [if_neg e, if_neg (Ne.symm e)]
  | m :: ms => by
    rw [putM_cons]
    by_cases e : m.1 = k
    · rw [if_pos e, getM_cons, getM_cons]
      by_cases e2 : q = k
      · subst e2; simp
      · have e3 : m.1 ≠ q := fun h => e2 (h.symm.trans e)
        rw [if_neg (Ne.symm e2), if_neg e2, if_neg e3]
    · rw [if_neg e, getM_cons, getM_cons, get_put k q v d ms]
      by_cases e2 : q = k
      · subst e2; rw [if_neg e]; simp
      · rw [if_neg e2]; simp [e2]
/-- The map's numbers are these. -/
def MpF (ms : List (Int × Value)) (F : Int → Int) : Prop := ∀ k, getM ms k (.int .i64 0) = .int .i64 (F k)
theorem mpF_nil : MpF [] fun _ => 0 := fun _ => rfl
theorem MpF.put {ms : List (Int × Value)} {F : Int → Int} (h : MpF ms F) (k v : Int) : MpF (putM ms k (.int .i64 v)) fun q => if q = k then v else F q := fun q => by
  rw [get_put]
  show _ = Value.int .i64 (if q = k then v else F q)
  by_cases e : q = k
  · rw [if_pos e, if_pos e]
  · rw [if_neg e, if_neg e]; exact h q
theorem MpF.congr {ms : List (Int × Value)} {F G : Int → Int} (h : MpF ms F) (he : ∀ k, F k = G k) : MpF ms G := fun k => by rw [← he]; exact h k
section
variable {P : Program} {S : Heap → Prop} {kd : Oper → Kd} {ops : Array Oper} {rest : List Oper} {K : Env → Heap → Prop} {L : List (Nat × Value)} {b : Env} {h : Heap}
variable {d : Nat} {t ty kt et : TypeId} {p : String} {af : Array Edge} {g : Option (Nat × Bool)} {x y z : Operand} {l : Nat} {ms : List (Int × Value)}
theorem lx_makeMap (hw : Region.wanted ⟨some d, .makeMap t none, ty, p, af, g⟩ (yieldE ops (ups L b)) = true) (hk : kd ⟨some d, .makeMap t none, ty, p, af, g⟩ = .eff)
    (hS : S h → ∀ h', Ext h.size h h' → S h')
    (hn : ∀ (l : Nat) (h' : Heap), l = h.size → MpO h' l [] → Ext h.size h h' → Lx P S kd ops rest K (ups ((d, .map (some l)) :: L) b) h') :
    Lx P S kd ops (⟨some d, .makeMap t none, ty, p, af, g⟩ :: rest) K (ups L b) h :=
  lx_eff hw hk fun hSh w hh => by
    subst hh
    have hrun : (execOp (ev (ups L b)) ⟨some d, .makeMap t none, ty, p, af, g⟩).run P w = .ok (.value (.map (some w.heap.size))) { w with heap := w.heap.push (.map #[] 0) } := by
      simp [execOp, Instr.makeMap, newObj, Sem.run]
    rw [hrun]
    have hx : Ext w.heap.size w.heap (w.heap.push (.map #[] 0)) := ext_push _ _
    exact ⟨⟨rfl, rfl, rfl⟩, hS hSh _ hx, hn _ _ rfl (by show (w.heap.push _)[w.heap.size]? = _; simp [mapObj, mapEs]) hx⟩
theorem lx_mapUpdate (k : Int) (u : Value) (hw : Region.wanted ⟨none, .mapUpdate t x y z, ty, p, af, g⟩ (yieldE ops (ups L b)) = true) (hk : kd ⟨none, .mapUpdate t x y z, ty, p, af, g⟩ = .eff)
    (ht : P.underlying t = some (.map kt et)) (hkt : P.underlying kt = some (.int .i64)) (hm : MpO h l ms) (hx : ev (ups L b) x = .map (some l)) (hy : ev (ups L b) y = .int .i64 k) (hz : ev (ups L b) z = u)
    (hS : ∀ h', ChgB l h h' → S h')
    (hn : ∀ h', MpO h' l (putM ms k u) → ChgB l h h' → Lx P S kd ops rest K (ups L b) h') : Lx P S kd ops (⟨none, .mapUpdate t x y z, ty, p, af, g⟩ :: rest) K (ups L b) h :=
  lx_eff hw hk fun hSh w hh => by
    subst hh; subst hz
    have hm' : w.heap[l]? = some (.map (mapEs ms) ms.length) := hm
    have hf := findNow_map k ms 0
    have hkey : IsKey (.int .i64) (.int .i64 k) := by simp [IsKey]
    have hgo : ∀ o : Obj, ChgB l w.heap (w.heap.setIfInBounds l o) := fun o => ⟨by simp, fun i hi => by rw [Array.getElem?_setIfInBounds_ne (Ne.symm hi)]⟩
    have hrun : ∃ o, o = mapObj (putM ms k (ev (ups L b) z)) ∧ (execOp (ev (ups L b)) ⟨none, .mapUpdate t x y z, ty, p, af, g⟩).run P w = .ok .skip { w with heap := w.heap.setIfInBounds l o } := by
      cases hi : ms.findIdx? (fun m => m.1 == k) with
      | none =>
        rw [hi] at hf
        have hf' : Instr.findNow (.int .i64) (.int .i64 k) (mapEs ms).toList 0 = some none := hf
        have hput : putM ms k (ev (ups L b) z) = ms ++ [(k, ev (ups L b) z)] := by unfold putM idxM; rw [hi]
        refine ⟨_, by rw [hput], ?_⟩
        simp [execOp, Instr.mapUpdate, hx, hy, run_underlying ht, MapKept.run_getObj_map hm', run_checkKey hkt hkey, run_findKey hkt hf', MapKept.run_setObj_map _ hm', Result.andThen, mapEs_push, mapObj]
      | some i =>
        obtain ⟨hil, v0, hv0⟩ := idxM_some (ms := ms) (k := k) (show idxM ms k = some i from hi)
        rw [hi] at hf
        have hf' : Instr.findNow (.int .i64) (.int .i64 k) (mapEs ms).toList 0 = some (some (i, ((ms[i]?).map (·.2)).getD undef)) := by rw [show (mapEs ms).toList = (ms.zipIdx.map fun q => ({ key := .int .i64 q.1.1, val := q.1.2, born := q.2 } : MapEntry)) from rfl, hf]; simp
        have hput : putM ms k (ev (ups L b) z) = ms.set i (k, ev (ups L b) z) := by unfold putM idxM; rw [hi]
        have hg : (mapEs ms)[i]? = some { key := .int .i64 k, val := v0, born := i } := by
          rw [mapEs_get hil]
          rw [List.getElem?_eq_getElem hil] at hv0
          rw [Option.some.inj hv0]
        refine ⟨_, by rw [hput], ?_⟩
        simp [execOp, Instr.mapUpdate, hx, hy, run_underlying ht, MapKept.run_getObj_map hm', run_checkKey hkt hkey, run_findKey hkt hf', MapKept.run_setObj_map _ hm', Result.andThen, hg, run_keyThatStays hkey, mapEs_modify hil, mapObj]
    obtain ⟨o, ho, hrun⟩ := hrun
    rw [hrun]
    have hlt := hm.lt
    exact ⟨⟨rfl, rfl, rfl⟩, hS _ (hgo o), hn _ (by subst ho; show (w.heap.setIfInBounds l _)[l]? = _; simp [hlt]) (hgo o)⟩
theorem lx_insert (k : Int) (u : Value) (hw : Region.wanted ⟨none, .insert t x y z, ty, p, af, g⟩ (yieldE ops (ups L b)) = true) (hk : kd ⟨none, .insert t x y z, ty, p, af, g⟩ = .eff)
    (ht : P.underlying t = some (.map kt et)) (hkt : P.underlying kt = some (.int .i64)) (hm : MpO h l ms) (hx : ev (ups L b) x = .map (some l)) (hy : ev (ups L b) y = .int .i64 k) (hz : ev (ups L b) z = u)
    (hS : ∀ h', ChgB l h h' → S h')
    (hn : ∀ h', MpO h' l (putM ms k u) → ChgB l h h' → Lx P S kd ops rest K (ups L b) h') : Lx P S kd ops (⟨none, .insert t x y z, ty, p, af, g⟩ :: rest) K (ups L b) h :=
  lx_eff hw hk fun hSh w hh => by
    subst hh; subst hz
    have hm' : w.heap[l]? = some (.map (mapEs ms) ms.length) := hm
    have hf := findNow_map k ms 0
    have hkey : IsKey (.int .i64) (.int .i64 k) := by simp [IsKey]
    have hgo : ∀ o : Obj, ChgB l w.heap (w.heap.setIfInBounds l o) := fun o => ⟨by simp, fun i hi => by rw [Array.getElem?_setIfInBounds_ne (Ne.symm hi)]⟩
    have hrun : ∃ o, o = mapObj (putM ms k (ev (ups L b) z)) ∧ (execOp (ev (ups L b)) ⟨none, .insert t x y z, ty, p, af, g⟩).run P w = .ok .skip { w with heap := w.heap.setIfInBounds l o } := by
      cases hi : ms.findIdx? (fun m => m.1 == k) with
      | none =>
        rw [hi] at hf
        have hf' : Instr.findNow (.int .i64) (.int .i64 k) (mapEs ms).toList 0 = some none := hf
        have hput : putM ms k (ev (ups L b) z) = ms ++ [(k, ev (ups L b) z)] := by unfold putM idxM; rw [hi]
        refine ⟨_, by rw [hput], ?_⟩
        simp [execOp, Instr.mapUpdate, hx, hy, run_underlying ht, MapKept.run_getObj_map hm', run_checkKey hkt hkey, run_findKey hkt hf', MapKept.run_setObj_map _ hm', Result.andThen, mapEs_push, mapObj]
      | some i =>
        obtain ⟨hil, v0, hv0⟩ := idxM_some (ms := ms) (k := k) (show idxM ms k = some i from hi)
        rw [hi] at hf
        have hf' : Instr.findNow (.int .i64) (.int .i64 k) (mapEs ms).toList 0 = some (some (i, ((ms[i]?).map (·.2)).getD undef)) := by rw [show (mapEs ms).toList = (ms.zipIdx.map fun q => ({ key := .int .i64 q.1.1, val := q.1.2, born := q.2 } : MapEntry)) from rfl, hf]; simp
        have hput : putM ms k (ev (ups L b) z) = ms.set i (k, ev (ups L b) z) := by unfold putM idxM; rw [hi]
        have hg : (mapEs ms)[i]? = some { key := .int .i64 k, val := v0, born := i } := by
          rw [mapEs_get hil]
          rw [List.getElem?_eq_getElem hil] at hv0
          rw [Option.some.inj hv0]
        refine ⟨_, by rw [hput], ?_⟩
        simp [execOp, Instr.mapUpdate, hx, hy, run_underlying ht, MapKept.run_getObj_map hm', run_checkKey hkt hkey, run_findKey hkt hf', MapKept.run_setObj_map _ hm', Result.andThen, hg, run_keyThatStays hkey, mapEs_modify hil, mapObj]
    obtain ⟨o, ho, hrun⟩ := hrun
    rw [hrun]
    have hlt := hm.lt
    exact ⟨⟨rfl, rfl, rfl⟩, hS _ (hgo o), hn _ (by subst ho; show (w.heap.setIfInBounds l _)[l]? = _; simp [hlt]) (hgo o)⟩
/-- Looking a key up. -/
theorem lx_lookup (k : Int) (zv : Value) (hw : Region.wanted ⟨some d, .lookup t x y false, ty, p, af, g⟩ (yieldE ops (ups L b)) = true) (hk : kd ⟨some d, .lookup t x y false, ty, p, af, g⟩ = .read)
    (ht : P.underlying t = some (.map kt et)) (hkt : P.underlying kt = some (.int .i64)) (hz : ∀ w, (zeroValue et).run P w = .ok zv w) (hm : MpO h l ms) (hx : ev (ups L b) x = .map (some l)) (hy : ev (ups L b) y = .int .i64 k)
    (hn : Lx P S kd ops rest K (ups ((d, getM ms k zv) :: L) b) h) : Lx P S kd ops (⟨some d, .lookup t x y false, ty, p, af, g⟩ :: rest) K (ups L b) h :=
  lx_read (getM ms k zv) hw (.inl hk) (fun w _ hg => by
    have hm2 := hm.extS hg.ext
    have hm' : w.heap[l]? = some (.map (mapEs ms) ms.length) := hm2
    have hf := findNow_map k ms 0
    have hkey : IsKey (.int .i64) (.int .i64 k) := by simp [IsKey]
    have hck : (Instr.checkKey (mapEs ms).isEmpty 10000 kt (.int .i64 k)).run P w = .ok () w := run_checkKey hkt hkey _ _
    cases hi : ms.findIdx? (fun m => m.1 == k) with
    | none =>
      rw [hi] at hf
      have hf' : Instr.findNow (.int .i64) (.int .i64 k) (mapEs ms).toList 0 = some none := hf
      have hget : getM ms k zv = zv := by unfold getM idxM; rw [hi]
      simp [execOp, Instr.lookup, hx, hy, run_underlying ht, MapKept.run_getObj_map hm', hck, run_findKey hkt hf', Result.andThen, hz, hget]
    | some i =>
      obtain ⟨hil, v0, hv0⟩ := idxM_some (ms := ms) (k := k) (show idxM ms k = some i from hi)
      rw [hi] at hf
      have hf' : Instr.findNow (.int .i64) (.int .i64 k) (mapEs ms).toList 0 = some (some (i, v0)) := by rw [show (mapEs ms).toList = (ms.zipIdx.map fun q => ({ key := .int .i64 q.1.1, val := q.1.2, born := q.2 } : MapEntry)) from rfl, hf]; simp [hv0]
      have hget : getM ms k zv = v0 := by unfold getM idxM; rw [hi]; simp [hv0]
      simp [execOp, Instr.lookup, hx, hy, run_underlying ht, MapKept.run_getObj_map hm', hck, run_findKey hkt hf', Result.andThen, hget]) hn
end
end Go.X
namespace Go.X
/-! ### Sets of keys -/
end Go.X
namespace Go.X
section
variable {P : Program} {S : Heap → Prop} {kd : Oper → Kd} {ops : Array Oper} {rest : List Oper} {K : Env → Heap → Prop} {L : List (Nat × Value)} {b : Env} {h : Heap}
variable {d : Nat} {t ty kt et : TypeId} {p : String} {af : Array Edge} {g : Option (Nat × Bool)} {x y z : Operand} {l : Nat} {ms : List (Int × Value)}
theorem lx_lookupF {F : Int → Int} (k r : Int) (hw : Region.wanted ⟨some d, .lookup t x y false, ty, p, af, g⟩ (yieldE ops (ups L b)) = true) (hk : kd ⟨some d, .lookup t x y false, ty, p, af, g⟩ = .read)
    (ht : P.underlying t = some (.map kt et)) (hkt : P.underlying kt = some (.int .i64)) (hz : ∀ w, (zeroValue et).run P w = .ok (.int .i64 0) w) (hm : MpO h l ms) (hF : MpF ms F) (hr : F k = r) (hx : ev (ups L b) x = .map (some l)) (hy : ev (ups L b) y = .int .i64 k)
    (hn : Lx P S kd ops rest K (ups ((d, .int .i64 r) :: L) b) h) : Lx P S kd ops (⟨some d, .lookup t x y false, ty, p, af, g⟩ :: rest) K (ups L b) h :=
  lx_lookup k (.int .i64 0) hw hk ht hkt hz hm hx hy (by rw [hF k, hr]; exact hn)
end
theorem asc_take {xs : List Int} (h : xs.Pairwise (· < ·)) {i : Nat} (hi : i < xs.length) {q : Int} : q ∈ xs.take i ↔ q ∈ xs ∧ q < gt xs i := by
  rw [List.pairwise_iff_getElem] at h
  rw [gt_eq hi]
  constructor
  · intro hq
    obtain ⟨j, hj, rfl⟩ := List.mem_iff_getElem.1 hq
    rw [List.length_take] at hj
    rw [List.getElem_take]
    exact ⟨List.getElem_mem _, h j i (by omega) hi (by omega)⟩
  · rintro ⟨hq, hlt⟩
    obtain ⟨j, hj, rfl⟩ := List.mem_iff_getElem.1 hq
    rcases Nat.lt_or_ge j i with h1 | h1
    · exact List.mem_iff_getElem.2 ⟨j, by rw [List.length_take]; omega, by rw [List.getElem_take]⟩
    · rcases Nat.lt_or_eq_of_le h1 with h2 | h2
      · have := h i j hi hj h2; omega
      · subst h2; omega
def cntF (n : Nat) (f : Nat → Nat → Bool) (i : Nat) (k : Int) : Int := if k = 0 then 1 else if k ∈ (idealsF n f).take i then linN n f k.toNat else 0
def cntG (n : Nat) (f : Nat → Nat → Bool) (i s x : Nat) (k : Int) : Int := if k = (s : Int) ∧ s ≠ 0 then linS n f s x else cntF n f i k
theorem cnt_start (n : Nat) (f : Nat → Nat → Bool) (k : Int) : (if k = 0 then 1 else 0) = cntF n f 0 k := by unfold cntF; simp
theorem idl_mem {n : Nat} {f : Nat → Nat → Bool} {x : Int} : x ∈ idealsF n f ↔ ∃ q : Nat, q < 2 ^ n ∧ idlB n f q = true ∧ (q : Int) = x := by unfold idealsF; exact filtF_mem
theorem idl_asc (n : Nat) (f : Nat → Nat → Bool) : (idealsF n f).Pairwise (· < ·) := filtF_asc _ _
section
variable {n i s x : Nat} {f : Nat → Nat → Bool}
theorem idl_at (hi : i < (idealsF n f).length) (hs : gt (idealsF n f) i = (s : Int)) : s < 2 ^ n ∧ idlB n f s = true := by
  have h1 : (s : Int) ∈ idealsF n f := by rw [← hs, gt_eq hi]; exact List.getElem_mem _
  obtain ⟨q, h2, h3, h4⟩ := idl_mem.1 h1
  obtain rfl : q = s := by omega
  exact ⟨h2, h3⟩
theorem cntG_zero (hi : i < (idealsF n f).length) (hs : gt (idealsF n f) i = (s : Int)) (k : Int) : cntF n f i k = cntG n f i s 0 k := by
  unfold cntG
  by_cases e : k = (s : Int) ∧ s ≠ 0
  · rw [if_pos e]
    obtain ⟨rfl, h0⟩ := e
    unfold cntF
    rw [if_neg (by omega), if_neg (by rw [asc_take (idl_asc n f) hi, hs]; omega)]; rfl
  · rw [if_neg e]
theorem last_bit (h : lastB n f s x = true) : s.testBit x = true := by unfold lastB at h; rw [Bool.and_eq_true] at h; exact h.1
theorem last_nz (h : lastB n f s x = true) : s ≠ 0 := fun e => by have := last_bit h; rw [e, Nat.zero_testBit] at this; cases this
theorem cntG_self (h0 : s ≠ 0) : cntG n f i s x (s : Int) = linS n f s x := if_pos ⟨rfl, h0⟩
theorem cntG_off (ho : IsO n f) (hn : n ≤ 12) (hi : i < (idealsF n f).length) (hs : gt (idealsF n f) i = (s : Int)) (hl : lastB n f s x = true) : cntG n f i s x ((andNot s (2 ^ x) : Nat) : Int) = linN n f (andNot s (2 ^ x)) := by
  obtain ⟨h1, h2⟩ := idl_at hi hs
  obtain ⟨h3, h4⟩ := idl_off ho hn h1 h2 hl
  unfold cntG
  rw [if_neg (by omega)]
  unfold cntF
  by_cases e : ((andNot s (2 ^ x) : Nat) : Int) = 0
  · rw [if_pos e, show andNot s (2 ^ x) = 0 by omega, linN_zero]
  · rw [if_neg e, if_pos]
    · rfl
    · rw [asc_take (idl_asc n f) hi, hs, idl_mem]
      exact ⟨⟨_, by omega, h3, rfl⟩, by omega⟩
theorem cntG_yes (hl : lastB n f s x = true) (k : Int) : (if k = (s : Int) then linS n f s x + linN n f (andNot s (2 ^ x)) else cntG n f i s x k) = cntG n f i s (x + 1) k := by
  have h0 := last_nz hl
  unfold cntG
  by_cases e : k = (s : Int)
  · rw [if_pos e, if_pos ⟨e, h0⟩, linS_yes hl]
  · rw [if_neg e, if_neg (fun h => e h.1), if_neg (fun h => e h.1)]
theorem cntG_no (hl : lastB n f s x = false) (k : Int) : cntG n f i s x k = cntG n f i s (x + 1) k := by
  unfold cntG
  rw [linS_no hl]
theorem take_succ' {xs : List Int} {i : Nat} (hi : i < xs.length) : xs.take (i + 1) = xs.take i ++ [gt xs i] := by rw [gt_eq hi, List.take_add_one, List.getElem?_eq_getElem hi]; rfl
theorem cntG_end (hn : n ≤ 12) (hi : i < (idealsF n f).length) (hs : gt (idealsF n f) i = (s : Int)) (k : Int) : cntG n f i s n k = cntF n f (i + 1) k := by
  obtain ⟨h1, h2⟩ := idl_at hi hs
  have hp := pow12 hn
  unfold cntG
  by_cases e : k = (s : Int) ∧ s ≠ 0
  · rw [if_pos e]
    obtain ⟨rfl, h0⟩ := e
    unfold cntF
    rw [if_neg (by omega), if_pos (by rw [take_succ' hi, hs]; simp), Int.toNat_natCast, linN_sum hn (by omega) h0]
  · rw [if_neg e]
    unfold cntF
    by_cases e0 : k = 0
    · rw [if_pos e0, if_pos e0]
    · rw [if_neg e0, if_neg e0, take_succ' hi, hs]
      have : k ≠ (s : Int) := fun h => e ⟨h, fun h3 => e0 (by omega)⟩
      simp [this]
theorem cnt_all (f : Nat → Nat → Bool) (hn1 : 1 ≤ n) (hi : i = (idealsF n f).length) : cntF n f i (((2 ^ n - 1 : Nat)) : Int) = linN n f (2 ^ n - 1) := by
  have hp : 2 ^ 1 ≤ 2 ^ n := Nat.pow_le_pow_right (by omega) hn1
  unfold cntF
  rw [if_neg (by omega), hi, List.take_length, if_pos]
  · rfl
  · rw [idl_mem]
    refine ⟨2 ^ n - 1, by omega, ?_, rfl⟩
    rw [idlB_iff]
    intro x y hx hy _ _
    rw [Nat.testBit_two_pow_sub_one]; exact decide_eq_true hy
end
end Go.X
namespace Go.Proofs.Ytdokijbdnajhgaa
open Go Go.X

set_option maxRecDepth 10000 in
theorem ones64_spec (h : Heap) (x : Nat) (hp1 : x < 4096) : Fx Try.prog 135 [.int .u64 ((x : Nat) : Int)] h (fun v h' => v = .int .i64 ((popN x : Nat) : Int) ∧ h = h') := by
  refine fx_intro (n := 35) [(0, .int .u64 ((x : Nat) : Int))] Try.func135 rfl rfl (by simp) ⟨rfl, trivial⟩ fun g0 => ?_
  refine wi_seq <| wi_reg rfl <| lx_assign (.int .i64 0) rfl rfl <| lx_nil <| wi_seq <| wi_reg rfl <| ?_
  obtain ⟨b1, b2, b3, b4, b5, b6, b7⟩ := on_ok hp1
  have := Nat.div_le_self x (2 ^ 1)
  have : x / 2 ^ 1 &&& 6148914691236517205 ≤ x / 2 ^ 1 := Nat.and_le_left
  have : x &&& 6148914691236517205 ≤ x := Nat.and_le_left
  refine lx_move (.int .u64 ((x : Nat) : Int)) rfl rfl <| lx_shr (m := x) (n := 1) rfl rfl rfl (by show _ ≤ 64; omega) <| lx_and (m := x / 2 ^ 1) (n := 6148914691236517205) rfl rfl rfl (by show _ < 2 ^ 64; omega) (by show _ < 2 ^ 64; omega) (wrap_u64 (by omega) (by omega)) <| lx_move (.int .u64 ((x : Nat) : Int)) rfl rfl <| lx_and (m := x) (n := 6148914691236517205) rfl rfl rfl (by show _ < 2 ^ 64; omega) (by show _ < 2 ^ 64; omega) (wrap_u64 (by omega) (by omega)) <| lx_addU (((((x / 2 ^ 1) &&& 6148914691236517205) + (x &&& 6148914691236517205) : Nat) : Nat) : Int) rfl rfl rfl (by omega) (by omega) (by omega) <| ?_
  generalize hy1 : ((x / 2 ^ 1) &&& 6148914691236517205) + (x &&& 6148914691236517205) = y1
  replace hy1 : on1 x = y1 := hy1
  rw [hy1] at b1 b2 b3 b4 b5 b6 b7
  refine lx_assign (.int .u64 ((y1 : Nat) : Int)) rfl rfl <| lx_nil <| wi_seq <| wi_reg rfl <| ?_
  have := Nat.div_le_self y1 (2 ^ 2)
  have : y1 / 2 ^ 2 &&& 3689348814741910323 ≤ y1 / 2 ^ 2 := Nat.and_le_left
  have : y1 &&& 3689348814741910323 ≤ y1 := Nat.and_le_left
  refine lx_move (.int .u64 ((y1 : Nat) : Int)) rfl rfl <| lx_shr (m := y1) (n := 2) rfl rfl rfl (by show _ ≤ 64; omega) <| lx_and (m := y1 / 2 ^ 2) (n := 3689348814741910323) rfl rfl rfl (by show _ < 2 ^ 64; omega) (by show _ < 2 ^ 64; omega) (wrap_u64 (by omega) (by omega)) <| lx_move (.int .u64 ((y1 : Nat) : Int)) rfl rfl <| lx_and (m := y1) (n := 3689348814741910323) rfl rfl rfl (by show _ < 2 ^ 64; omega) (by show _ < 2 ^ 64; omega) (wrap_u64 (by omega) (by omega)) <| lx_addU (((((y1 / 2 ^ 2) &&& 3689348814741910323) + (y1 &&& 3689348814741910323) : Nat) : Nat) : Int) rfl rfl rfl (by omega) (by omega) (by omega) <| ?_
  generalize hy2 : ((y1 / 2 ^ 2) &&& 3689348814741910323) + (y1 &&& 3689348814741910323) = y2
  replace hy2 : on2 y1 = y2 := hy2
  rw [hy2] at b2 b3 b4 b5 b6 b7
  refine lx_assign (.int .u64 ((y2 : Nat) : Int)) rfl rfl <| lx_nil <| wi_seq <| wi_reg rfl <| ?_
  have := Nat.div_le_self y2 (2 ^ 4)
  have : (y2 / 2 ^ 4 + y2) &&& 1085102592571150095 ≤ (y2 / 2 ^ 4 + y2) := Nat.and_le_left
  refine lx_move (.int .u64 ((y2 : Nat) : Int)) rfl rfl <| lx_shr (m := y2) (n := 4) rfl rfl rfl (by show _ ≤ 64; omega) <| lx_move (.int .u64 ((y2 : Nat) : Int)) rfl rfl <| lx_addU ((((y2 / 2 ^ 4) + y2 : Nat) : Nat) : Int) rfl rfl rfl (by omega) (by omega) (by omega) <| lx_and (m := (y2 / 2 ^ 4) + y2) (n := 1085102592571150095) rfl rfl rfl (by show _ < 2 ^ 64; omega) (by show _ < 2 ^ 64; omega) (wrap_u64 (by omega) (by omega)) <| ?_
  generalize hy3 : ((y2 / 2 ^ 4) + y2) &&& 1085102592571150095 = y3
  replace hy3 : on3 y2 = y3 := hy3
  rw [hy3] at b3 b4 b5 b6 b7
  refine lx_assign (.int .u64 ((y3 : Nat) : Int)) rfl rfl <| lx_nil <| wi_seq <| wi_reg rfl <| ?_
  have := Nat.div_le_self y3 (2 ^ 8)
  refine lx_move (.int .u64 ((y3 : Nat) : Int)) rfl rfl <| lx_move (.int .u64 ((y3 : Nat) : Int)) rfl rfl <| lx_shr (m := y3) (n := 8) rfl rfl rfl (by show _ ≤ 64; omega) <| lx_addU (((y3 + (y3 / 2 ^ 8) : Nat) : Nat) : Int) rfl rfl rfl (by omega) (by omega) (by omega) <| ?_
  generalize hy4 : y3 + (y3 / 2 ^ 8) = y4
  replace hy4 : on4 y3 = y4 := hy4
  rw [hy4] at b4 b5 b6 b7
  refine lx_assign (.int .u64 ((y4 : Nat) : Int)) rfl rfl <| lx_nil <| wi_seq <| wi_reg rfl <| ?_
  have := Nat.div_le_self y4 (2 ^ 16)
  refine lx_move (.int .u64 ((y4 : Nat) : Int)) rfl rfl <| lx_move (.int .u64 ((y4 : Nat) : Int)) rfl rfl <| lx_shr (m := y4) (n := 16) rfl rfl rfl (by show _ ≤ 64; omega) <| lx_addU (((y4 + (y4 / 2 ^ 16) : Nat) : Nat) : Int) rfl rfl rfl (by omega) (by omega) (by omega) <| ?_
  generalize hy5 : y4 + (y4 / 2 ^ 16) = y5
  replace hy5 : on5 y4 = y5 := hy5
  rw [hy5] at b5 b6 b7
  refine lx_assign (.int .u64 ((y5 : Nat) : Int)) rfl rfl <| lx_nil <| wi_seq <| wi_reg rfl <| ?_
  have := Nat.div_le_self y5 (2 ^ 32)
  refine lx_move (.int .u64 ((y5 : Nat) : Int)) rfl rfl <| lx_move (.int .u64 ((y5 : Nat) : Int)) rfl rfl <| lx_shr (m := y5) (n := 32) rfl rfl rfl (by show _ ≤ 64; omega) <| lx_addU (((y5 + (y5 / 2 ^ 32) : Nat) : Nat) : Int) rfl rfl rfl (by omega) (by omega) (by omega) <| ?_
  generalize hy6 : y5 + (y5 / 2 ^ 32) = y6
  replace hy6 : on6 y5 = y6 := hy6
  rw [hy6] at b6 b7
  refine lx_assign (.int .u64 ((y6 : Nat) : Int)) rfl rfl <| lx_nil <| wi_seq <| wi_reg rfl <| ?_
  have : y6 &&& 127 ≤ y6 := Nat.and_le_left
  refine lx_move (.int .u64 ((y6 : Nat) : Int)) rfl rfl <| lx_conv ((y6 : Nat) : Int) rfl Try.underlying149 Try.underlying3 rfl (wrap_i64 (by omega) (by omega)) <| lx_and (m := y6) (n := 127) rfl rfl rfl (by show _ < 2 ^ 64; omega) (by show _ < 2 ^ 64; omega) (wrap_i64 (by omega) (by omega)) <| lx_assign (.int .i64 ((y6 &&& 127 : Nat) : Int)) rfl rfl <| lx_nil <| ?_
  -- R1
  refine wi_ret ⟨.int .i64 ((y6 &&& 127 : Nat) : Int), (res_one rfl rfl), ⟨?_, rfl⟩⟩
  · rw [b7]

set_option maxRecDepth 10000 in
theorem ones_spec (h : Heap) (x : Nat) (hp1 : x < 4096) : Fx Try.prog 104 [.int .u64 ((x : Nat) : Int)] h (fun v h' => v = .int .i64 ((popN x : Nat) : Int) ∧ h = h') := by
  refine fx_intro (n := 8) [(0, .int .u64 ((x : Nat) : Int))] Try.func104 rfl rfl (by simp) ⟨rfl, trivial⟩ fun g0 => ?_
  refine wi_seq <| wi_reg rfl <| lx_assign (.int .i64 0) rfl rfl <| lx_nil <| wi_seq <| wi_false rfl <| wi_skip <| wi_seq <| wi_reg rfl <| lx_move (.int .u64 ((x : Nat) : Int)) rfl rfl <| lx_call [.int .u64 ((x : Nat) : Int)] rfl rfl Try.call135 rfl (ones64_spec h x (by omega)) (fun _ _ _ => trivial) ?_
  rintro _ h1 ⟨rfl, rfl⟩
  refine lx_assign (.int .i64 ((popN x : Nat) : Int)) rfl rfl <| lx_nil <| ?_
  -- R1
  refine wi_ret ⟨.int .i64 ((popN x : Nat) : Int), (res_one rfl rfl), ⟨rfl, rfl⟩⟩

end Go.Proofs.Ytdokijbdnajhgaa
namespace Go.Proofs.Ytdokijbdnajhgaa
open Go Go.X

set_option maxRecDepth 10000 in
theorem oclosure_spec (h : Heap) (n : Int) (vl : Value) (ls : List (Int × Int)) (hr_vl : RdE encP h vl ls) (hp1 : ls.length ≤ 4611686018427387904) : Fx Try.prog 63 [.int .i64 n, vl] h (fun v h' => ∃ (s : Value) (hs : List Hdr) (p : List (List Bool)), v = .tuple #[s, .int .i64 (closE n ls)] ∧ OwE encHd h' h.size 70 s hs ∧ OT encB h' h.size 4 hs p ∧ ((closE n ls ≠ 0 ∧ p = []) ∨ (closE n ls = 0 ∧ p = tabF n.toNat (closW n.toNat ls))) ∧ Ext h.size h h') := by
  refine fx_intro (n := 53) [(0, .int .i64 n), (1, vl)] Try.func63 rfl rfl (by simp) ⟨rfl, rfl, trivial⟩ fun g0 => ?_
  refine wi_seq <| wi_reg rfl <| lx_assign (.slice none 0 0) rfl rfl <| lx_assign (.int .i64 0) rfl rfl <| lx_nil <| wi_seq <| wi_seq <| wi_reg rfl <| lx_move (.int .i64 n) rfl rfl <| lx_lssS rfl rfl rfl (fun c1 => ?_) (fun c1 => ?_)
  · refine lx_move (.bool true) rfl rfl <| lx_skip rfl <| lx_skip rfl <| lx_pick true (.bool true) rfl rfl rfl <| lx_nil <| wi_true rfl <| wi_seq <| wi_reg rfl <| lx_assign (.slice none 0 0) rfl rfl <| lx_assign (.int .i64 1) rfl rfl <| lx_nil <| ?_
    -- R1
    refine wi_ret ⟨.tuple #[.slice none 0 0, .int .i64 1], (res_two rfl rfl rfl), ⟨.slice none 0 0, [], [], ?_, (owE_nil encHd _ h.size 70), (OT.nil encB _ h.size 4), ?_, (Ext.refl _ _)⟩⟩
    · first
      | (rw [closE_size (by omega)]; done)
      | (rw [closE_out (i := i) (by omega) (by omega)]; done)
      | (rw [hce]; have hcc := chkT_cases r_1; first | (rw [hcc.resolve_left (by omega)]; done) | (rw [hcc.resolve_right (by omega)]; done))
    · first
      | exact .inl ⟨by rw [closE_size (by omega)]; decide, rfl⟩
      | exact .inl ⟨by rw [closE_out (i := i) (by omega) (by omega)]; decide, rfl⟩
      | exact .inl ⟨by omega, rfl⟩
      | exact .inr ⟨by omega, by rw [Int.toNat_natCast]; exact hrt⟩
  · refine lx_move (.bool false) rfl rfl <| lx_move (.int .i64 n) rfl rfl <| lx_gtrS rfl rfl rfl (fun c2 => ?_) (fun c2 => ?_)
    · refine lx_pick false (.bool true) rfl rfl rfl <| lx_nil <| wi_true rfl <| wi_seq <| wi_reg rfl <| lx_assign (.slice none 0 0) rfl rfl <| lx_assign (.int .i64 1) rfl rfl <| lx_nil <| ?_
      -- R2
      refine wi_ret ⟨.tuple #[.slice none 0 0, .int .i64 1], (res_two rfl rfl rfl), ⟨.slice none 0 0, [], [], ?_, (owE_nil encHd _ h.size 70), (OT.nil encB _ h.size 4), ?_, (Ext.refl _ _)⟩⟩
      · first
        | (rw [closE_size (by omega)]; done)
        | (rw [closE_out (i := i) (by omega) (by omega)]; done)
        | (rw [hce]; have hcc := chkT_cases r_1; first | (rw [hcc.resolve_left (by omega)]; done) | (rw [hcc.resolve_right (by omega)]; done))
      · first
        | exact .inl ⟨by rw [closE_size (by omega)]; decide, rfl⟩
        | exact .inl ⟨by rw [closE_out (i := i) (by omega) (by omega)]; decide, rfl⟩
        | exact .inl ⟨by omega, rfl⟩
        | exact .inr ⟨by omega, by rw [Int.toNat_natCast]; exact hrt⟩
    · refine lx_pick false (.bool false) rfl rfl rfl <| lx_nil <| wi_false rfl <| wi_skip <| wi_seq <| wi_reg rfl <| ?_
      have hn1 : ¬ (n < 1 ∨ 12 < n) := by omega
      obtain ⟨m, rfl⟩ : ∃ m : Nat, n = ((m : Nat) : Int) := ⟨n.toNat, by omega⟩
      refine lx_move (.int .i64 ((m : Nat) : Int)) rfl rfl <| lx_call [.int .i64 ((m : Nat) : Int)] rfl rfl Try.call115 rfl (obare_spec h m (by omega)) (fun _ _ _ => trivial) ?_
      rintro vp h1 ⟨_, hs, rfl, ho1, hot1, hx1⟩
      have ho2 := ho1.base (Nat.le_refl h.size)
      have hot2 := hot1.base (Nat.le_refl h.size)
      have hl_hot2 := hot2.1
      refine lx_assign (vp) rfl rfl <| lx_nil <| wi_seq <| wi_seq <| wi_reg rfl <| lx_move (vl) rfl rfl <| lx_len rfl Try.underlying22 hr_vl rfl <| lx_move (.int .i64 0) rfl rfl <| lx_nil <| wi_block <| ?_
      refine wi_loop (σ := Nat × (List Hdr) × (List (List Bool))) (rngB 19 47 [4, 5, 8]) (fun (ss : Nat × (List Hdr) × (List (List Bool))) => [(19, .int .i64 ((ss.1 : Nat) : Int))]) (fun (ss : Nat × (List Hdr) × (List (List Bool))) (hh : Heap) => OwE encHd hh h.size 70 vp ss.2.1 ∧ OT encB hh h.size 4 ss.2.1 ss.2.2 ∧ Ext h.size h hh ∧ (ss.1 ≤ ls.length) ∧ (Sq ss.2.2 m) ∧ (∀ j, j < ss.1 → inR m (gt ls j) = true) ∧ (∀ x y, x < m → y < m → pb ss.2.2 x y = pairW ls ss.1 x y)) (fun (ss : Nat × (List Hdr) × (List (List Bool))) => ls.length - ss.1) (0, hs, tabF m (fun x y => decide (x = y))) ⟨rfl, trivial⟩ ⟨?_, ?_, hx1, ?_, ?_, ?_, ?_⟩ ?_
      · first | exact ho2 | (simpa using ho2)
      · first | exact hot2 | (simpa using hot2)
      · try dsimp only
        omega
      · try dsimp only
        exact tabF_sq _ _
      · try dsimp only
        intro j hj; omega
      · try dsimp only
        intro x y hx hy; rw [pb_tabF hx hy, pairW_zero]
      rintro g1 ⟨i, hs, p⟩ hh1 ⟨ho3, hot3, hx0_1, hi, hq, hr, hp⟩ IH1
      dsimp only at *
      have hq1 := hq.1
      have hl_hot3 := hot3.1
      refine wi_seq <| wi_reg rfl <| lx_lssS rfl rfl rfl (fun c3 => ?_) (fun c3 => ?_)
      · refine lx_nil <| wi_seq <| wi_true rfl <| wi_skip <| wi_seq <| wi_block <| wi_seq <| wi_reg rfl <| lx_ix (i := i) rfl eT22 hr_vl rfl rfl (by omega) <| lx_ldA (i := i) [.int .i64 ((gt ls i).1), .int .i64 ((gt ls i).2)] rfl rfl wd85 (hr_vl.extS hx0_1) (by omega) rfl rfl <| lx_alloc rfl rfl Try.zeroValue85 (fun _ _ _ => trivial) fun bn1 h2 hbn1 hbk1 hx2 hsz1 => ?_
        have hbb1 : h.size ≤ bn1 := by have := hx0_1.size; omega
        have hdj1 : Value.ownBlock vp ≠ some bn1 := by intro e; have := (ho3.lt e).2; omega
        have hnb1 : Nbt hs bn1 := nbt_new hot3 (by omega)
        have hx0_2 := hx0_1.trans2 hx2 hx0_1.size
        have ho4 := ho3.extS hx2
        have hot4 := hot3.extS hx2
        have hbk1 : Blk h2 bn1 #[.int .i64 0, .int .i64 0] 85 := hbk1
        refine lx_stBA (#[.int .i64 ((gt ls i).1), .int .i64 ((gt ls i).2)]) rfl rfl Try.sizeOf85 hbk1 rfl rfl rfl rfl (by simp [Value.oneCell']) (fun _ _ _ _ => trivial) fun h3 hbk2 hc1 => ?_
        have hx0_3 := hx0_2.trans (hc1.ext hbb1)
        have ho5 := hc1.owE ho4 hdj1
        have hot5 := hot4.chgB hc1 hnb1
        refine lx_nil <| wi_seq <| wi_seq <| wi_reg rfl <| lx_ixB (i := 0) (0) rfl Try.underlying85 Try.sizeOf3 rfl rfl (by omega) rfl <| lx_ldB (.int .i64 ((gt ls i).1)) rfl rfl fl3 hbk2 rfl rfl <| lx_ixB (i := 1) (1) rfl Try.underlying85 Try.sizeOf3 rfl rfl (by omega) rfl <| lx_ldB (.int .i64 ((gt ls i).2)) rfl rfl fl3 hbk2 rfl rfl <| lx_min (min ((gt ls i).1) ((gt ls i).2)) rfl rfl rfl (by omega) <| lx_lssS rfl rfl rfl (fun c4 => ?_) (fun c4 => ?_)
        · refine lx_move (.bool true) rfl rfl <| lx_skip rfl <| lx_skip rfl <| lx_skip rfl <| lx_skip rfl <| lx_skip rfl <| lx_skip rfl <| lx_skip rfl <| lx_pick true (.bool true) rfl rfl rfl <| lx_nil <| wi_true rfl <| wi_seq <| wi_reg rfl <| lx_assign (.slice none 0 0) rfl rfl <| lx_assign (.int .i64 1) rfl rfl <| lx_nil <| ?_
          -- R3
          refine wi_ret ⟨.tuple #[.slice none 0 0, .int .i64 1], (res_two rfl rfl rfl), ⟨.slice none 0 0, [], [], ?_, (owE_nil encHd _ h.size 70), (OT.nil encB _ h.size 4), ?_, hx0_3⟩⟩
          · first
            | (rw [closE_size (by omega)]; done)
            | (rw [closE_out (i := i) (by omega) (by omega)]; done)
            | (rw [hce]; have hcc := chkT_cases r_1; first | (rw [hcc.resolve_left (by omega)]; done) | (rw [hcc.resolve_right (by omega)]; done))
          · first
            | exact .inl ⟨by rw [closE_size (by omega)]; decide, rfl⟩
            | exact .inl ⟨by rw [closE_out (i := i) (by omega) (by omega)]; decide, rfl⟩
            | exact .inl ⟨by omega, rfl⟩
            | exact .inr ⟨by omega, by rw [Int.toNat_natCast]; exact hrt⟩
        · refine lx_move (.bool false) rfl rfl <| lx_ixB (i := 0) (0) rfl Try.underlying85 Try.sizeOf3 rfl rfl (by omega) rfl <| lx_ldB (.int .i64 ((gt ls i).1)) rfl rfl fl3 hbk2 rfl rfl <| lx_ixB (i := 1) (1) rfl Try.underlying85 Try.sizeOf3 rfl rfl (by omega) rfl <| lx_ldB (.int .i64 ((gt ls i).2)) rfl rfl fl3 hbk2 rfl rfl <| lx_max (max ((gt ls i).1) ((gt ls i).2)) rfl rfl rfl (by omega) <| lx_move (.int .i64 ((m : Nat) : Int)) rfl rfl <| lx_geqS rfl rfl rfl (fun c5 => ?_) (fun c5 => ?_)
          · refine lx_pick false (.bool true) rfl rfl rfl <| lx_nil <| wi_true rfl <| wi_seq <| wi_reg rfl <| lx_assign (.slice none 0 0) rfl rfl <| lx_assign (.int .i64 1) rfl rfl <| lx_nil <| ?_
            -- R4
            refine wi_ret ⟨.tuple #[.slice none 0 0, .int .i64 1], (res_two rfl rfl rfl), ⟨.slice none 0 0, [], [], ?_, (owE_nil encHd _ h.size 70), (OT.nil encB _ h.size 4), ?_, hx0_3⟩⟩
            · first
              | (rw [closE_size (by omega)]; done)
              | (rw [closE_out (i := i) (by omega) (by omega)]; done)
              | (rw [hce]; have hcc := chkT_cases r_1; first | (rw [hcc.resolve_left (by omega)]; done) | (rw [hcc.resolve_right (by omega)]; done))
            · first
              | exact .inl ⟨by rw [closE_size (by omega)]; decide, rfl⟩
              | exact .inl ⟨by rw [closE_out (i := i) (by omega) (by omega)]; decide, rfl⟩
              | exact .inl ⟨by omega, rfl⟩
              | exact .inr ⟨by omega, by rw [Int.toNat_natCast]; exact hrt⟩
          · refine lx_pick false (.bool false) rfl rfl rfl <| lx_nil <| wi_false rfl <| wi_skip <| wi_draw mo rfl (by decide +kernel) <| ?_
            obtain ⟨a, b, hgc, ha, hb⟩ : ∃ a b : Nat, gt ls i = ((a : Int), (b : Int)) ∧ a < m ∧ b < m := ⟨(gt ls i).1.toNat, (gt ls i).2.toNat, Prod.ext (by show _ = ((_ : Nat) : Int); omega) (by show _ = ((_ : Nat) : Int); omega), by omega, by omega⟩
            refine lx_move (vp) rfl rfl <| lx_ixB (i := 0) (0) rfl Try.underlying85 Try.sizeOf3 rfl rfl (by omega) rfl <| lx_ldB (.int .i64 ((a : Nat) : Int)) rfl rfl fl3 hbk2 (by rw [hgc]; rfl) rfl <| lx_ix (i := a) rfl eT29 ho5.rd rfl rfl (by omega) <| lx_ld (i := a) (j := 0) ((gt hs a).v) rfl rfl fl70 ho5.rd (by omega) rfl rfl <| lx_ixB (i := 1) (1) rfl Try.underlying85 Try.sizeOf3 rfl rfl (by omega) rfl <| lx_ldB (.int .i64 ((b : Nat) : Int)) rfl rfl fl3 hbk2 (by rw [hgc]; rfl) rfl <| lx_ix (i := b) rfl eT70 (hot5.2.1 a (by omega)).rd rfl rfl (by rw [hq.2 a (by omega)]; omega) <| lx_st (i := b) true rfl rfl Try.sizeOf4 (hot5.2.1 a (by omega)) (by rw [hq.2 a (by omega)]; omega) rfl rfl (fun _ _ _ _ _ => trivial) fun h4 ho6 hc2 hsz2 => ?_
            have hx0_4 := hx0_3.trans ((hot5.2.1 a (by omega)).ext hc2 hx0_3.size)
            have ho7 := ho5.chg hc2 (Dj.symm ((djt_ty hot5 ho5 (by decide)) a (by rw [hot5.1]; exact (by omega))))
            have hb1 := hbk2.chg hc2 (hnb1 a (by rw [hot5.1]; exact (by omega)))
            have hot6 := OT.cell hot5 (by omega) hc2 ho6
            have hl_hot6 := hot6.1
            refine lx_nil <| wi_inBlock <| wi_reg rfl <| lx_add (((i + 1 : Nat) : Int)) rfl rfl rfl (by omega) (by omega) (by omega) <| lx_move (.int .i64 ((i + 1 : Nat) : Int)) rfl rfl <| lx_nil <| ?_
            -- L0.1
            refine IH1 _ _ (i + 1, hs, p.set a ((gt p a).set b true)) (agree_ups rfl agree_self) ⟨rfl, trivial⟩ ⟨?_, ?_, hx0_4, ?_, ?_, ?_, ?_⟩ ?_
            · first | exact ho7 | (simpa using ho7)
            · first | exact hot6 | (simpa using hot6)
            · try dsimp only
              omega
            · try dsimp only
              exact sq_set hq (by omega)
            · try dsimp only
              intro j hj; by_cases e : j = i
              · subst e; rw [hgc]; exact inR_iff.2 ⟨by show (0 : Int) ≤ (a : Int); omega, by show (0 : Int) ≤ (b : Int); omega, by show (a : Int) < m; omega, by show (b : Int) < m; omega⟩
              · exact hr j (by omega)
            · try dsimp only
              exact pairW_step (by omega) hq ha hb hgc hp
            · first | omega | (dsimp only; omega)
      · refine lx_nil <| wi_seq <| wi_false rfl <| wi_exit rfl <| wi_seq <| wi_seq <| wi_reg rfl <| ?_
        have hpl : p.length = m := hq.1
        refine lx_move (vp) rfl rfl <| lx_call [vp] rfl rfl Try.call116 rfl (oclosed_spec hh1 h.size vp hs p ho3 hot3 hx0_1.size (by omega) (by rw [hpl]; exact hq)) (fun _ _ _ => trivial) ?_
        rintro vp h5 ⟨r_1, rfl, ho8, hot7, hr_1, hx3⟩
        have hx0_5 := hx0_1.trans hx3
        have hl_hot7 := hot7.1
        refine lx_assign (vp) rfl rfl <| lx_nil <| wi_seq <| wi_reg rfl <| ?_
        have hrt : r_1 = tabF m (closW m ls) := by rw [hr_1]; exact clos_tab hq (by omega) hp
        have hce := closE_ok (by omega) (by omega) (fun j hj => hr j (by omega))
        rw [← chkT_tabF (by omega) (by omega), ← hrt] at hce
        have hqr : Sq r_1 m := by rw [hrt]; exact tabF_sq _ _
        refine lx_move (vp) rfl rfl <| lx_call [vp] rfl rfl Try.call62 rfl (ocheck_spec h5 vp hs r_1 ho8.rd hot7.rt (by rw [hqr.1]; omega) (fun i hi => by rw [hqr.2 i (by rw [← hqr.1]; exact hi)]; omega)) (fun _ _ _ => trivial) ?_
        rintro _ h6 ⟨rfl, hx4⟩
        have hx0_6 := hx0_5.trans2 hx4 hx0_5.size
        have ho9 := ho8.extS hx4
        have hot8 := hot7.extS hx4
        refine lx_neqS rfl rfl rfl (fun c6 => ?_) (fun c6 => ?_)
        · refine lx_nil <| wi_true rfl <| wi_seq <| wi_reg rfl <| lx_assign (.slice none 0 0) rfl rfl <| lx_assign (.int .i64 90) rfl rfl <| lx_nil <| ?_
          -- R5
          refine wi_ret ⟨.tuple #[.slice none 0 0, .int .i64 90], (res_two rfl rfl rfl), ⟨.slice none 0 0, [], [], ?_, (owE_nil encHd _ h.size 70), (OT.nil encB _ h.size 4), ?_, hx0_6⟩⟩
          · first
            | (rw [closE_size (by omega)]; done)
            | (rw [closE_out (i := i) (by omega) (by omega)]; done)
            | (rw [hce]; have hcc := chkT_cases r_1; first | (rw [hcc.resolve_left (by omega)]; done) | (rw [hcc.resolve_right (by omega)]; done))
          · first
            | exact .inl ⟨by rw [closE_size (by omega)]; decide, rfl⟩
            | exact .inl ⟨by rw [closE_out (i := i) (by omega) (by omega)]; decide, rfl⟩
            | exact .inl ⟨by omega, rfl⟩
            | exact .inr ⟨by omega, by rw [Int.toNat_natCast]; exact hrt⟩
        · refine lx_nil <| wi_false rfl <| wi_skip <| wi_seq <| wi_reg rfl <| lx_move (vp) rfl rfl <| lx_assign (vp) rfl rfl <| lx_assign (.int .i64 0) rfl rfl <| lx_nil <| ?_
          -- R6
          refine wi_ret ⟨.tuple #[vp, .int .i64 0], (res_two rfl rfl rfl), ⟨vp, hs, r_1, ?_, ho9, hot8, ?_, hx0_6⟩⟩
          · first
            | (rw [closE_size (by omega)]; done)
            | (rw [closE_out (i := i) (by omega) (by omega)]; done)
            | (rw [hce]; have hcc := chkT_cases r_1; first | (rw [hcc.resolve_left (by omega)]; done) | (rw [hcc.resolve_right (by omega)]; done))
          · first
            | exact .inl ⟨by rw [closE_size (by omega)]; decide, rfl⟩
            | exact .inl ⟨by rw [closE_out (i := i) (by omega) (by omega)]; decide, rfl⟩
            | exact .inl ⟨by omega, rfl⟩
            | exact .inr ⟨by omega, by rw [Int.toNat_natCast]; exact hrt⟩

end Go.Proofs.Ytdokijbdnajhgaa
namespace Go.Proofs.Ytdokijbdnajhgaa
open Go Go.X

set_option maxRecDepth 10000 in
theorem risorder_spec (h : Heap) (vp : Value) (hs : List Hdr) (p : List (List Bool)) (hr_vp : RdE encHd h vp hs) (ht_vp : RT encB h hs p) (hp1 : p.length ≤ 1000000) (hp2 : ∀ i, i < p.length → (gt p i).length ≤ 1000000) : Fx Try.prog 112 [vp] h (fun v h' => v = .bool (isT p) ∧ h = h') := by
  have hl_vp := ht_vp.1
  refine fx_intro (n := 92) [(0, vp)] Try.func112 rfl rfl (by simp) ⟨rfl, trivial⟩ fun g0 => ?_
  refine wi_seq <| wi_reg rfl <| lx_assign (.bool false) rfl rfl <| lx_nil <| wi_seq <| wi_reg rfl <| lx_move (vp) rfl rfl <| lx_len rfl Try.underlying23 hr_vp rfl <| lx_assign (.int .i64 ((hs.length : Nat) : Int)) rfl rfl <| lx_nil <| wi_seq <| wi_seq <| wi_reg rfl <| lx_assign (.int .i64 0) rfl rfl <| lx_nil <| wi_block <| ?_
  refine wi_loop (σ := Nat) (rngB 10 22 [2, 4]) (fun (w : Nat) => [(4, .int .i64 ((w : Nat) : Int))]) (fun (w : Nat) (hh : Heap) => h = hh ∧ (w ≤ p.length) ∧ (∀ j, j < w → (gt p j).length = p.length)) (fun (w : Nat) => p.length - w) 0 ⟨rfl, trivial⟩ ⟨rfl, ?_, ?_⟩ ?_
  · try dsimp only
    omega
  · try dsimp only
    intro j hj; omega
  rintro g1 w hh1 ⟨rfl, hw, he⟩ IH1
  refine wi_seq <| wi_seq <| wi_reg rfl <| lx_move (.int .i64 ((w : Nat) : Int)) rfl rfl <| lx_move (.int .i64 ((hs.length : Nat) : Int)) rfl rfl <| lx_lssS rfl rfl rfl (fun c1 => ?_) (fun c1 => ?_)
  · refine lx_nil <| wi_true rfl <| wi_skip <| wi_seq <| wi_block <| wi_seq <| wi_reg rfl <| lx_move (vp) rfl rfl <| lx_move (.int .i64 ((w : Nat) : Int)) rfl rfl <| lx_ix (i := w) rfl eT23 hr_vp rfl rfl (by omega) <| lx_ld (i := w) (j := 0) ((gt hs w).v) rfl rfl fl70 hr_vp (by omega) rfl rfl <| lx_len rfl Try.underlying70 (ht_vp.2 w (by omega)) rfl <| lx_move (.int .i64 ((hs.length : Nat) : Int)) rfl rfl <| lx_neqS rfl rfl rfl (fun c2 => ?_) (fun c2 => ?_)
    · refine lx_nil <| wi_true rfl <| wi_seq <| wi_reg rfl <| lx_assign (.bool false) rfl rfl <| lx_nil <| ?_
      -- R1
      refine wi_ret ⟨.bool false, (res_one rfl rfl), ⟨?_, rfl⟩⟩
      · congr 1
        first
        | exact (isT_iff.2 ⟨hsQ, fun a b ha hb => hA a (by omega) b hb⟩).symm
        | exact (bad_sq (i := w) (by omega) (by omega)).symm
        | exact (bad_ok (x := x) (y := x) (by omega) (by omega) (bad_refl rfl (by first | assumption | exact nbf (by assumption) | exact nbt (by assumption)))).symm
        | exact (bad_ok (x := x) (y := y) (by omega) (by omega) (bad_tri (z := z) (by omega) (by first | assumption | exact nbf (by assumption) | exact nbt (by assumption)) (by first | assumption | exact nbf (by assumption) | exact nbt (by assumption)) (by first | assumption | exact nbf (by assumption) | exact nbt (by assumption)))).symm
        | exact (bad_ok (x := x) (y := y) (by omega) (by omega) (bad_anti (by omega) (by first | assumption | exact nbf (by assumption) | exact nbt (by assumption)) (by first | assumption | exact nbf (by assumption) | exact nbt (by assumption)))).symm
    · refine lx_nil <| wi_false rfl <| wi_skip <| wi_inBlock <| wi_reg rfl <| lx_move (.int .i64 ((w : Nat) : Int)) rfl rfl <| lx_add (((w + 1 : Nat) : Int)) rfl rfl rfl (by omega) (by omega) (by omega) <| lx_assign (.int .i64 ((w + 1 : Nat) : Int)) rfl rfl <| lx_nil <| ?_
      -- L0.1
      refine IH1 _ _ (w + 1) (agree_ups rfl agree_self) ⟨rfl, trivial⟩ ⟨rfl, ?_, ?_⟩ ?_
      · try dsimp only
        omega
      · try dsimp only
        intro j hj; by_cases e : j = w
        · subst e; omega
        · exact he j (by omega)
      · first | omega | (dsimp only; omega)
  · refine lx_nil <| wi_false rfl <| wi_exit rfl <| wi_seq <| wi_seq <| wi_reg rfl <| ?_
    have hsQ : Sq p p.length := ⟨rfl, fun j hj => he j (by omega)⟩
    refine lx_assign (.int .i64 0) rfl rfl <| lx_nil <| wi_block <| ?_
    refine wi_loop (σ := Nat) (rngB 22 92 [2, 5, 6, 7]) (fun (x : Nat) => [(5, .int .i64 ((x : Nat) : Int))]) (fun (x : Nat) (hh : Heap) => h = hh ∧ (x ≤ p.length) ∧ (∀ a, a < x → ∀ b, b < p.length → okP p.length (pb p) a b)) (fun (x : Nat) => p.length - x) 0 ⟨rfl, trivial⟩ ⟨rfl, ?_, ?_⟩ ?_
    · try dsimp only
      omega
    · try dsimp only
      intro a ha; omega
    rintro g2 x hh2 ⟨rfl, hx, hA⟩ IH2
    refine wi_seq <| wi_seq <| wi_reg rfl <| lx_move (.int .i64 ((x : Nat) : Int)) rfl rfl <| lx_move (.int .i64 ((hs.length : Nat) : Int)) rfl rfl <| lx_lssS rfl rfl rfl (fun c3 => ?_) (fun c3 => ?_)
    · refine lx_nil <| wi_true rfl <| wi_skip <| wi_seq <| wi_block <| wi_seq <| wi_seq <| wi_reg rfl <| lx_move (vp) rfl rfl <| lx_move (.int .i64 ((x : Nat) : Int)) rfl rfl <| lx_ix (i := x) rfl eT23 hr_vp rfl rfl (by omega) <| lx_ld (i := x) (j := 0) ((gt hs x).v) rfl rfl fl70 hr_vp (by omega) rfl rfl <| lx_move (.int .i64 ((x : Nat) : Int)) rfl rfl <| lx_ix (i := x) rfl eT70 (ht_vp.2 x (by omega)) rfl rfl (by rw [hsQ.2 x (by omega)]; omega) <| lx_ld (i := x) (j := 0) (.bool (gt (gt p x) x)) rfl rfl fl4 (ht_vp.2 x (by omega)) (by rw [hsQ.2 x (by omega)]; omega) rfl rfl <| lx_not rfl rfl <| lx_nil <| wi_condS (t := !(gt (gt p x) x)) rfl (fun c4 => ?_) (fun c4 => ?_)
      · refine wi_seq <| wi_reg rfl <| lx_assign (.bool false) rfl rfl <| lx_nil <| ?_
        -- R2
        refine wi_ret ⟨.bool false, (res_one rfl rfl), ⟨?_, rfl⟩⟩
        · congr 1
          first
          | exact (isT_iff.2 ⟨hsQ, fun a b ha hb => hA a (by omega) b hb⟩).symm
          | exact (bad_sq (i := w) (by omega) (by omega)).symm
          | exact (bad_ok (x := x) (y := x) (by omega) (by omega) (bad_refl rfl (by first | assumption | exact nbf (by assumption) | exact nbt (by assumption)))).symm
          | exact (bad_ok (x := x) (y := y) (by omega) (by omega) (bad_tri (z := z) (by omega) (by first | assumption | exact nbf (by assumption) | exact nbt (by assumption)) (by first | assumption | exact nbf (by assumption) | exact nbt (by assumption)) (by first | assumption | exact nbf (by assumption) | exact nbt (by assumption)))).symm
          | exact (bad_ok (x := x) (y := y) (by omega) (by omega) (bad_anti (by omega) (by first | assumption | exact nbf (by assumption) | exact nbt (by assumption)) (by first | assumption | exact nbf (by assumption) | exact nbt (by assumption)))).symm
      · refine wi_skip <| wi_seq <| wi_reg rfl <| ?_
        have hre : pb p x x = true := nbf (by assumption)
        refine lx_assign (.int .i64 0) rfl rfl <| lx_nil <| wi_block <| ?_
        refine wi_loop (σ := Nat) (rngB 35 92 [2, 6, 7]) (fun (y : Nat) => [(6, .int .i64 ((y : Nat) : Int))]) (fun (y : Nat) (hh : Heap) => h = hh ∧ (y ≤ p.length) ∧ (∀ b, b < y → okP p.length (pb p) x b)) (fun (y : Nat) => p.length - y) 0 ⟨rfl, trivial⟩ ⟨rfl, ?_, ?_⟩ ?_
        · try dsimp only
          omega
        · try dsimp only
          intro b hb; omega
        rintro g3 y hh3 ⟨rfl, hy, hB⟩ IH3
        refine wi_seq <| wi_seq <| wi_reg rfl <| lx_move (.int .i64 ((y : Nat) : Int)) rfl rfl <| lx_move (.int .i64 ((hs.length : Nat) : Int)) rfl rfl <| lx_lssS rfl rfl rfl (fun c5 => ?_) (fun c5 => ?_)
        · refine lx_nil <| wi_true rfl <| wi_skip <| wi_seq <| wi_block <| wi_seq <| wi_seq <| wi_reg rfl <| lx_move (.int .i64 ((x : Nat) : Int)) rfl rfl <| lx_move (.int .i64 ((y : Nat) : Int)) rfl rfl <| lx_neqS rfl rfl rfl (fun c6 => ?_) (fun c6 => ?_)
          · refine lx_move (.bool true) rfl rfl <| lx_move (vp) rfl rfl <| lx_move (.int .i64 ((x : Nat) : Int)) rfl rfl <| lx_ix (i := x) rfl eT23 hr_vp rfl rfl (by omega) <| lx_ld (i := x) (j := 0) ((gt hs x).v) rfl rfl fl70 hr_vp (by omega) rfl rfl <| lx_move (.int .i64 ((y : Nat) : Int)) rfl rfl <| lx_ix (i := y) rfl eT70 (ht_vp.2 x (by omega)) rfl rfl (by rw [hsQ.2 x (by omega)]; omega) <| lx_ld (i := y) (j := 0) (.bool (gt (gt p x) y)) rfl rfl fl4 (ht_vp.2 x (by omega)) (by rw [hsQ.2 x (by omega)]; omega) rfl rfl <| lx_pick true (.bool (gt (gt p x) y)) rfl rfl rfl <| lx_move (.bool (gt (gt p x) y)) rfl rfl <| ?_
            cases c7 : (gt (gt p x) y)
            · refine lx_skip rfl <| lx_skip rfl <| lx_skip rfl <| lx_skip rfl <| lx_skip rfl <| lx_skip rfl <| lx_skip rfl <| lx_pick false (.bool false) rfl rfl rfl <| lx_nil <| wi_false rfl <| wi_skip <| wi_seq <| wi_reg rfl <| lx_assign (.int .i64 0) rfl rfl <| lx_nil <| wi_block <| ?_
              refine wi_loop (σ := Nat) (rngB 61 92 [2, 7]) (fun (z : Nat) => [(7, .int .i64 ((z : Nat) : Int))]) (fun (z : Nat) (hh : Heap) => h = hh ∧ (z ≤ p.length) ∧ (∀ c, c < z → pb p x y = true → pb p y c = true → pb p x c = true)) (fun (z : Nat) => p.length - z) 0 ⟨rfl, trivial⟩ ⟨rfl, ?_, ?_⟩ ?_
              · try dsimp only
                omega
              · try dsimp only
                intro c hc; omega
              rintro g4 z hh4 ⟨rfl, hz, hC⟩ IH4
              refine wi_seq <| wi_seq <| wi_reg rfl <| lx_move (.int .i64 ((z : Nat) : Int)) rfl rfl <| lx_move (.int .i64 ((hs.length : Nat) : Int)) rfl rfl <| lx_lssS rfl rfl rfl (fun c8 => ?_) (fun c8 => ?_)
              · refine lx_nil <| wi_true rfl <| wi_skip <| wi_seq <| wi_block <| wi_seq <| wi_reg rfl <| lx_move (vp) rfl rfl <| lx_move (.int .i64 ((x : Nat) : Int)) rfl rfl <| lx_ix (i := x) rfl eT23 hr_vp rfl rfl (by omega) <| lx_ld (i := x) (j := 0) ((gt hs x).v) rfl rfl fl70 hr_vp (by omega) rfl rfl <| lx_move (.int .i64 ((y : Nat) : Int)) rfl rfl <| lx_ix (i := y) rfl eT70 (ht_vp.2 x (by omega)) rfl rfl (by rw [hsQ.2 x (by omega)]; omega) <| lx_ld (i := y) (j := 0) (.bool false) rfl rfl fl4 (ht_vp.2 x (by omega)) (by rw [hsQ.2 x (by omega)]; omega) (by show some (Value.bool (gt (gt p x) y)) = _; rw [c7]) rfl <| lx_move (.bool false) rfl rfl <| lx_skip rfl <| lx_skip rfl <| lx_skip rfl <| lx_skip rfl <| lx_skip rfl <| lx_skip rfl <| lx_skip rfl <| lx_pick false (.bool false) rfl rfl rfl <| lx_move (.bool false) rfl rfl <| lx_skip rfl <| lx_skip rfl <| lx_skip rfl <| lx_skip rfl <| lx_skip rfl <| lx_skip rfl <| lx_skip rfl <| lx_skip rfl <| lx_pick false (.bool false) rfl rfl rfl <| lx_nil <| wi_false rfl <| wi_skip <| wi_inBlock <| wi_reg rfl <| lx_move (.int .i64 ((z : Nat) : Int)) rfl rfl <| lx_add (((z + 1 : Nat) : Int)) rfl rfl rfl (by omega) (by omega) (by omega) <| lx_assign (.int .i64 ((z + 1 : Nat) : Int)) rfl rfl <| lx_nil <| ?_
                -- L6.1
                refine IH4 _ _ (z + 1) (agree_ups rfl agree_self) ⟨rfl, trivial⟩ ⟨rfl, ?_, ?_⟩ ?_
                · try dsimp only
                  omega
                · try dsimp only
                  intro c hc h1 h2
                  by_cases e : c = z
                  · subst e; first | assumption | exact nbf (by assumption) | exact absurd h1 (ntb (by first | assumption | exact nbt (by assumption))) | exact absurd h2 (ntb (by first | assumption | exact nbt (by assumption)))
                  · exact hC c (by omega) h1 h2
                · first | omega | (dsimp only; omega)
              · refine lx_nil <| wi_false rfl <| wi_exit rfl <| wi_inBlock <| wi_reg rfl <| lx_move (.int .i64 ((y : Nat) : Int)) rfl rfl <| lx_add (((y + 1 : Nat) : Int)) rfl rfl rfl (by omega) (by omega) (by omega) <| lx_assign (.int .i64 ((y + 1 : Nat) : Int)) rfl rfl <| lx_nil <| ?_
                -- L4.1
                refine IH3 _ _ (y + 1) (agree_ups rfl (agree_mix (rngB_sub (by decide) (by decide) rfl) (agree_ups rfl agree_self))) ⟨rfl, trivial⟩ ⟨rfl, ?_, ?_⟩ ?_
                · try dsimp only
                  omega
                · try dsimp only
                  intro b hb
                  by_cases e : b = y
                  · subst e; exact ⟨fun e => (by first | assumption | exact nbf (by assumption) | (subst e; assumption) | (exfalso; omega)), fun h1 h2 => (by first | (exfalso; omega) | assumption | exact nbt (by assumption) | exact absurd h2 (ntb (by assumption))), fun c hc h1 h2 => hC c (by omega) h1 h2⟩
                  · exact hB b (by omega)
                · first | omega | (dsimp only; omega)
            · refine lx_move (vp) rfl rfl <| lx_move (.int .i64 ((y : Nat) : Int)) rfl rfl <| lx_ix (i := y) rfl eT23 hr_vp rfl rfl (by omega) <| lx_ld (i := y) (j := 0) ((gt hs y).v) rfl rfl fl70 hr_vp (by omega) rfl rfl <| lx_move (.int .i64 ((x : Nat) : Int)) rfl rfl <| lx_ix (i := x) rfl eT70 (ht_vp.2 y (by omega)) rfl rfl (by rw [hsQ.2 y (by omega)]; omega) <| lx_ld (i := x) (j := 0) (.bool (gt (gt p y) x)) rfl rfl fl4 (ht_vp.2 y (by omega)) (by rw [hsQ.2 y (by omega)]; omega) rfl rfl <| lx_pick true (.bool (gt (gt p y) x)) rfl rfl rfl <| lx_nil <| wi_condS (t := gt (gt p y) x) rfl (fun c9 => ?_) (fun c9 => ?_)
              · refine wi_seq <| wi_reg rfl <| lx_assign (.bool false) rfl rfl <| lx_nil <| ?_
                -- R3
                refine wi_ret ⟨.bool false, (res_one rfl rfl), ⟨?_, rfl⟩⟩
                · congr 1
                  first
                  | exact (isT_iff.2 ⟨hsQ, fun a b ha hb => hA a (by omega) b hb⟩).symm
                  | exact (bad_sq (i := w) (by omega) (by omega)).symm
                  | exact (bad_ok (x := x) (y := x) (by omega) (by omega) (bad_refl rfl (by first | assumption | exact nbf (by assumption) | exact nbt (by assumption)))).symm
                  | exact (bad_ok (x := x) (y := y) (by omega) (by omega) (bad_tri (z := z) (by omega) (by first | assumption | exact nbf (by assumption) | exact nbt (by assumption)) (by first | assumption | exact nbf (by assumption) | exact nbt (by assumption)) (by first | assumption | exact nbf (by assumption) | exact nbt (by assumption)))).symm
                  | exact (bad_ok (x := x) (y := y) (by omega) (by omega) (bad_anti (by omega) (by first | assumption | exact nbf (by assumption) | exact nbt (by assumption)) (by first | assumption | exact nbf (by assumption) | exact nbt (by assumption)))).symm
              · refine wi_skip <| wi_seq <| wi_reg rfl <| lx_assign (.int .i64 0) rfl rfl <| lx_nil <| wi_block <| ?_
                refine wi_loop (σ := Nat) (rngB 61 92 [2, 7]) (fun (z : Nat) => [(7, .int .i64 ((z : Nat) : Int))]) (fun (z : Nat) (hh : Heap) => h = hh ∧ (z ≤ p.length) ∧ (∀ c, c < z → pb p x y = true → pb p y c = true → pb p x c = true)) (fun (z : Nat) => p.length - z) 0 ⟨rfl, trivial⟩ ⟨rfl, ?_, ?_⟩ ?_
                · try dsimp only
                  omega
                · try dsimp only
                  intro c hc; omega
                rintro g5 z hh5 ⟨rfl, hz, hC⟩ IH5
                refine wi_seq <| wi_seq <| wi_reg rfl <| lx_move (.int .i64 ((z : Nat) : Int)) rfl rfl <| lx_move (.int .i64 ((hs.length : Nat) : Int)) rfl rfl <| lx_lssS rfl rfl rfl (fun c10 => ?_) (fun c10 => ?_)
                · refine lx_nil <| wi_true rfl <| wi_skip <| wi_seq <| wi_block <| wi_seq <| wi_reg rfl <| lx_move (vp) rfl rfl <| lx_move (.int .i64 ((x : Nat) : Int)) rfl rfl <| lx_ix (i := x) rfl eT23 hr_vp rfl rfl (by omega) <| lx_ld (i := x) (j := 0) ((gt hs x).v) rfl rfl fl70 hr_vp (by omega) rfl rfl <| lx_move (.int .i64 ((y : Nat) : Int)) rfl rfl <| lx_ix (i := y) rfl eT70 (ht_vp.2 x (by omega)) rfl rfl (by rw [hsQ.2 x (by omega)]; omega) <| lx_ld (i := y) (j := 0) (.bool true) rfl rfl fl4 (ht_vp.2 x (by omega)) (by rw [hsQ.2 x (by omega)]; omega) (by show some (Value.bool (gt (gt p x) y)) = _; rw [c7]) rfl <| lx_move (.bool true) rfl rfl <| lx_move (vp) rfl rfl <| lx_move (.int .i64 ((y : Nat) : Int)) rfl rfl <| lx_ix (i := y) rfl eT23 hr_vp rfl rfl (by omega) <| lx_ld (i := y) (j := 0) ((gt hs y).v) rfl rfl fl70 hr_vp (by omega) rfl rfl <| lx_move (.int .i64 ((z : Nat) : Int)) rfl rfl <| lx_ix (i := z) rfl eT70 (ht_vp.2 y (by omega)) rfl rfl (by rw [hsQ.2 y (by omega)]; omega) <| lx_ld (i := z) (j := 0) (.bool (gt (gt p y) z)) rfl rfl fl4 (ht_vp.2 y (by omega)) (by rw [hsQ.2 y (by omega)]; omega) rfl rfl <| lx_pick true (.bool (gt (gt p y) z)) rfl rfl rfl <| lx_move (.bool (gt (gt p y) z)) rfl rfl <| ?_
                  cases c11 : (gt (gt p y) z)
                  · refine lx_skip rfl <| lx_skip rfl <| lx_skip rfl <| lx_skip rfl <| lx_skip rfl <| lx_skip rfl <| lx_skip rfl <| lx_skip rfl <| lx_pick false (.bool false) rfl rfl rfl <| lx_nil <| wi_false rfl <| wi_skip <| wi_inBlock <| wi_reg rfl <| lx_move (.int .i64 ((z : Nat) : Int)) rfl rfl <| lx_add (((z + 1 : Nat) : Int)) rfl rfl rfl (by omega) (by omega) (by omega) <| lx_assign (.int .i64 ((z + 1 : Nat) : Int)) rfl rfl <| lx_nil <| ?_
                    -- L6.1
                    refine IH5 _ _ (z + 1) (agree_ups rfl agree_self) ⟨rfl, trivial⟩ ⟨rfl, ?_, ?_⟩ ?_
                    · try dsimp only
                      omega
                    · try dsimp only
                      intro c hc h1 h2
                      by_cases e : c = z
                      · subst e; first | assumption | exact nbf (by assumption) | exact absurd h1 (ntb (by first | assumption | exact nbt (by assumption))) | exact absurd h2 (ntb (by first | assumption | exact nbt (by assumption)))
                      · exact hC c (by omega) h1 h2
                    · first | omega | (dsimp only; omega)
                  · refine lx_move (vp) rfl rfl <| lx_move (.int .i64 ((x : Nat) : Int)) rfl rfl <| lx_ix (i := x) rfl eT23 hr_vp rfl rfl (by omega) <| lx_ld (i := x) (j := 0) ((gt hs x).v) rfl rfl fl70 hr_vp (by omega) rfl rfl <| lx_move (.int .i64 ((z : Nat) : Int)) rfl rfl <| lx_ix (i := z) rfl eT70 (ht_vp.2 x (by omega)) rfl rfl (by rw [hsQ.2 x (by omega)]; omega) <| lx_ld (i := z) (j := 0) (.bool (gt (gt p x) z)) rfl rfl fl4 (ht_vp.2 x (by omega)) (by rw [hsQ.2 x (by omega)]; omega) rfl rfl <| lx_not rfl rfl <| lx_pick true (.bool (!(gt (gt p x) z))) rfl rfl rfl <| lx_nil <| wi_condS (t := !(gt (gt p x) z)) rfl (fun c12 => ?_) (fun c12 => ?_)
                    · refine wi_seq <| wi_reg rfl <| lx_assign (.bool false) rfl rfl <| lx_nil <| ?_
                      -- R4
                      refine wi_ret ⟨.bool false, (res_one rfl rfl), ⟨?_, rfl⟩⟩
                      · congr 1
                        first
                        | exact (isT_iff.2 ⟨hsQ, fun a b ha hb => hA a (by omega) b hb⟩).symm
                        | exact (bad_sq (i := w) (by omega) (by omega)).symm
                        | exact (bad_ok (x := x) (y := x) (by omega) (by omega) (bad_refl rfl (by first | assumption | exact nbf (by assumption) | exact nbt (by assumption)))).symm
                        | exact (bad_ok (x := x) (y := y) (by omega) (by omega) (bad_tri (z := z) (by omega) (by first | assumption | exact nbf (by assumption) | exact nbt (by assumption)) (by first | assumption | exact nbf (by assumption) | exact nbt (by assumption)) (by first | assumption | exact nbf (by assumption) | exact nbt (by assumption)))).symm
                        | exact (bad_ok (x := x) (y := y) (by omega) (by omega) (bad_anti (by omega) (by first | assumption | exact nbf (by assumption) | exact nbt (by assumption)) (by first | assumption | exact nbf (by assumption) | exact nbt (by assumption)))).symm
                    · refine wi_skip <| wi_inBlock <| wi_reg rfl <| lx_move (.int .i64 ((z : Nat) : Int)) rfl rfl <| lx_add (((z + 1 : Nat) : Int)) rfl rfl rfl (by omega) (by omega) (by omega) <| lx_assign (.int .i64 ((z + 1 : Nat) : Int)) rfl rfl <| lx_nil <| ?_
                      -- L6.2
                      refine IH5 _ _ (z + 1) (agree_ups rfl agree_self) ⟨rfl, trivial⟩ ⟨rfl, ?_, ?_⟩ ?_
                      · try dsimp only
                        omega
                      · try dsimp only
                        intro c hc h1 h2
                        by_cases e : c = z
                        · subst e; first | assumption | exact nbf (by assumption) | exact absurd h1 (ntb (by first | assumption | exact nbt (by assumption))) | exact absurd h2 (ntb (by first | assumption | exact nbt (by assumption)))
                        · exact hC c (by omega) h1 h2
                      · first | omega | (dsimp only; omega)
                · refine lx_nil <| wi_false rfl <| wi_exit rfl <| wi_inBlock <| wi_reg rfl <| lx_move (.int .i64 ((y : Nat) : Int)) rfl rfl <| lx_add (((y + 1 : Nat) : Int)) rfl rfl rfl (by omega) (by omega) (by omega) <| lx_assign (.int .i64 ((y + 1 : Nat) : Int)) rfl rfl <| lx_nil <| ?_
                  -- L4.2
                  refine IH3 _ _ (y + 1) (agree_ups rfl (agree_mix (rngB_sub (by decide) (by decide) rfl) (agree_ups rfl agree_self))) ⟨rfl, trivial⟩ ⟨rfl, ?_, ?_⟩ ?_
                  · try dsimp only
                    omega
                  · try dsimp only
                    intro b hb
                    by_cases e : b = y
                    · subst e; exact ⟨fun e => (by first | assumption | exact nbf (by assumption) | (subst e; assumption) | (exfalso; omega)), fun h1 h2 => (by first | (exfalso; omega) | assumption | exact nbt (by assumption) | exact absurd h2 (ntb (by assumption))), fun c hc h1 h2 => hC c (by omega) h1 h2⟩
                    · exact hB b (by omega)
                  · first | omega | (dsimp only; omega)
          · refine lx_move (.bool false) rfl rfl <| lx_skip rfl <| lx_skip rfl <| lx_skip rfl <| lx_skip rfl <| lx_skip rfl <| lx_skip rfl <| lx_skip rfl <| lx_pick false (.bool false) rfl rfl rfl <| lx_move (.bool false) rfl rfl <| lx_skip rfl <| lx_skip rfl <| lx_skip rfl <| lx_skip rfl <| lx_skip rfl <| lx_skip rfl <| lx_skip rfl <| lx_pick false (.bool false) rfl rfl rfl <| lx_nil <| wi_false rfl <| wi_skip <| wi_seq <| wi_reg rfl <| lx_assign (.int .i64 0) rfl rfl <| lx_nil <| wi_block <| ?_
            refine wi_loop (σ := Nat) (rngB 61 92 [2, 7]) (fun (z : Nat) => [(7, .int .i64 ((z : Nat) : Int))]) (fun (z : Nat) (hh : Heap) => h = hh ∧ (z ≤ p.length) ∧ (∀ c, c < z → pb p x y = true → pb p y c = true → pb p x c = true)) (fun (z : Nat) => p.length - z) 0 ⟨rfl, trivial⟩ ⟨rfl, ?_, ?_⟩ ?_
            · try dsimp only
              omega
            · try dsimp only
              intro c hc; omega
            rintro g6 z hh6 ⟨rfl, hz, hC⟩ IH6
            refine wi_seq <| wi_seq <| wi_reg rfl <| lx_move (.int .i64 ((z : Nat) : Int)) rfl rfl <| lx_move (.int .i64 ((hs.length : Nat) : Int)) rfl rfl <| lx_lssS rfl rfl rfl (fun c13 => ?_) (fun c13 => ?_)
            · refine lx_nil <| wi_true rfl <| wi_skip <| wi_seq <| wi_block <| wi_seq <| wi_reg rfl <| lx_move (vp) rfl rfl <| lx_move (.int .i64 ((x : Nat) : Int)) rfl rfl <| lx_ix (i := x) rfl eT23 hr_vp rfl rfl (by omega) <| lx_ld (i := x) (j := 0) ((gt hs x).v) rfl rfl fl70 hr_vp (by omega) rfl rfl <| lx_move (.int .i64 ((y : Nat) : Int)) rfl rfl <| lx_ix (i := y) rfl eT70 (ht_vp.2 x (by omega)) rfl rfl (by rw [hsQ.2 x (by omega)]; omega) <| lx_ld (i := y) (j := 0) (.bool (gt (gt p x) y)) rfl rfl fl4 (ht_vp.2 x (by omega)) (by rw [hsQ.2 x (by omega)]; omega) rfl rfl <| lx_move (.bool (gt (gt p x) y)) rfl rfl <| ?_
              cases c14 : (gt (gt p x) y)
              · refine lx_skip rfl <| lx_skip rfl <| lx_skip rfl <| lx_skip rfl <| lx_skip rfl <| lx_skip rfl <| lx_skip rfl <| lx_pick false (.bool false) rfl rfl rfl <| lx_move (.bool false) rfl rfl <| lx_skip rfl <| lx_skip rfl <| lx_skip rfl <| lx_skip rfl <| lx_skip rfl <| lx_skip rfl <| lx_skip rfl <| lx_skip rfl <| lx_pick false (.bool false) rfl rfl rfl <| lx_nil <| wi_false rfl <| wi_skip <| wi_inBlock <| wi_reg rfl <| lx_move (.int .i64 ((z : Nat) : Int)) rfl rfl <| lx_add (((z + 1 : Nat) : Int)) rfl rfl rfl (by omega) (by omega) (by omega) <| lx_assign (.int .i64 ((z + 1 : Nat) : Int)) rfl rfl <| lx_nil <| ?_
                -- L6.1
                refine IH6 _ _ (z + 1) (agree_ups rfl agree_self) ⟨rfl, trivial⟩ ⟨rfl, ?_, ?_⟩ ?_
                · try dsimp only
                  omega
                · try dsimp only
                  intro c hc h1 h2
                  by_cases e : c = z
                  · subst e; first | assumption | exact nbf (by assumption) | exact absurd h1 (ntb (by first | assumption | exact nbt (by assumption))) | exact absurd h2 (ntb (by first | assumption | exact nbt (by assumption)))
                  · exact hC c (by omega) h1 h2
                · first | omega | (dsimp only; omega)
              · refine lx_move (vp) rfl rfl <| lx_move (.int .i64 ((y : Nat) : Int)) rfl rfl <| lx_ix (i := y) rfl eT23 hr_vp rfl rfl (by omega) <| lx_ld (i := y) (j := 0) ((gt hs y).v) rfl rfl fl70 hr_vp (by omega) rfl rfl <| lx_move (.int .i64 ((z : Nat) : Int)) rfl rfl <| lx_ix (i := z) rfl eT70 (ht_vp.2 y (by omega)) rfl rfl (by rw [hsQ.2 y (by omega)]; omega) <| lx_ld (i := z) (j := 0) (.bool (gt (gt p y) z)) rfl rfl fl4 (ht_vp.2 y (by omega)) (by rw [hsQ.2 y (by omega)]; omega) rfl rfl <| lx_pick true (.bool (gt (gt p y) z)) rfl rfl rfl <| lx_move (.bool (gt (gt p y) z)) rfl rfl <| ?_
                cases c15 : (gt (gt p y) z)
                · refine lx_skip rfl <| lx_skip rfl <| lx_skip rfl <| lx_skip rfl <| lx_skip rfl <| lx_skip rfl <| lx_skip rfl <| lx_skip rfl <| lx_pick false (.bool false) rfl rfl rfl <| lx_nil <| wi_false rfl <| wi_skip <| wi_inBlock <| wi_reg rfl <| lx_move (.int .i64 ((z : Nat) : Int)) rfl rfl <| lx_add (((z + 1 : Nat) : Int)) rfl rfl rfl (by omega) (by omega) (by omega) <| lx_assign (.int .i64 ((z + 1 : Nat) : Int)) rfl rfl <| lx_nil <| ?_
                  -- L6.2
                  refine IH6 _ _ (z + 1) (agree_ups rfl agree_self) ⟨rfl, trivial⟩ ⟨rfl, ?_, ?_⟩ ?_
                  · try dsimp only
                    omega
                  · try dsimp only
                    intro c hc h1 h2
                    by_cases e : c = z
                    · subst e; first | assumption | exact nbf (by assumption) | exact absurd h1 (ntb (by first | assumption | exact nbt (by assumption))) | exact absurd h2 (ntb (by first | assumption | exact nbt (by assumption)))
                    · exact hC c (by omega) h1 h2
                  · first | omega | (dsimp only; omega)
                · refine lx_move (vp) rfl rfl <| lx_move (.int .i64 ((x : Nat) : Int)) rfl rfl <| lx_ix (i := x) rfl eT23 hr_vp rfl rfl (by omega) <| lx_ld (i := x) (j := 0) ((gt hs x).v) rfl rfl fl70 hr_vp (by omega) rfl rfl <| lx_move (.int .i64 ((z : Nat) : Int)) rfl rfl <| lx_ix (i := z) rfl eT70 (ht_vp.2 x (by omega)) rfl rfl (by rw [hsQ.2 x (by omega)]; omega) <| lx_ld (i := z) (j := 0) (.bool (gt (gt p x) z)) rfl rfl fl4 (ht_vp.2 x (by omega)) (by rw [hsQ.2 x (by omega)]; omega) rfl rfl <| lx_not rfl rfl <| lx_pick true (.bool (!(gt (gt p x) z))) rfl rfl rfl <| lx_nil <| wi_condS (t := !(gt (gt p x) z)) rfl (fun c16 => ?_) (fun c16 => ?_)
                  · refine wi_seq <| wi_reg rfl <| lx_assign (.bool false) rfl rfl <| lx_nil <| ?_
                    -- R5
                    refine wi_ret ⟨.bool false, (res_one rfl rfl), ⟨?_, rfl⟩⟩
                    · congr 1
                      first
                      | exact (isT_iff.2 ⟨hsQ, fun a b ha hb => hA a (by omega) b hb⟩).symm
                      | exact (bad_sq (i := w) (by omega) (by omega)).symm
                      | exact (bad_ok (x := x) (y := x) (by omega) (by omega) (bad_refl rfl (by first | assumption | exact nbf (by assumption) | exact nbt (by assumption)))).symm
                      | exact (bad_ok (x := x) (y := y) (by omega) (by omega) (bad_tri (z := z) (by omega) (by first | assumption | exact nbf (by assumption) | exact nbt (by assumption)) (by first | assumption | exact nbf (by assumption) | exact nbt (by assumption)) (by first | assumption | exact nbf (by assumption) | exact nbt (by assumption)))).symm
                      | exact (bad_ok (x := x) (y := y) (by omega) (by omega) (bad_anti (by omega) (by first | assumption | exact nbf (by assumption) | exact nbt (by assumption)) (by first | assumption | exact nbf (by assumption) | exact nbt (by assumption)))).symm
                  · refine wi_skip <| wi_inBlock <| wi_reg rfl <| lx_move (.int .i64 ((z : Nat) : Int)) rfl rfl <| lx_add (((z + 1 : Nat) : Int)) rfl rfl rfl (by omega) (by omega) (by omega) <| lx_assign (.int .i64 ((z + 1 : Nat) : Int)) rfl rfl <| lx_nil <| ?_
                    -- L6.3
                    refine IH6 _ _ (z + 1) (agree_ups rfl agree_self) ⟨rfl, trivial⟩ ⟨rfl, ?_, ?_⟩ ?_
                    · try dsimp only
                      omega
                    · try dsimp only
                      intro c hc h1 h2
                      by_cases e : c = z
                      · subst e; first | assumption | exact nbf (by assumption) | exact absurd h1 (ntb (by first | assumption | exact nbt (by assumption))) | exact absurd h2 (ntb (by first | assumption | exact nbt (by assumption)))
                      · exact hC c (by omega) h1 h2
                    · first | omega | (dsimp only; omega)
            · refine lx_nil <| wi_false rfl <| wi_exit rfl <| wi_inBlock <| wi_reg rfl <| lx_move (.int .i64 ((y : Nat) : Int)) rfl rfl <| lx_add (((y + 1 : Nat) : Int)) rfl rfl rfl (by omega) (by omega) (by omega) <| lx_assign (.int .i64 ((y + 1 : Nat) : Int)) rfl rfl <| lx_nil <| ?_
              -- L4.3
              refine IH3 _ _ (y + 1) (agree_ups rfl (agree_mix (rngB_sub (by decide) (by decide) rfl) (agree_ups rfl agree_self))) ⟨rfl, trivial⟩ ⟨rfl, ?_, ?_⟩ ?_
              · try dsimp only
                omega
              · try dsimp only
                intro b hb
                by_cases e : b = y
                · subst e; exact ⟨fun e => (by first | assumption | exact nbf (by assumption) | (subst e; assumption) | (exfalso; omega)), fun h1 h2 => (by first | (exfalso; omega) | assumption | exact nbt (by assumption) | exact absurd h2 (ntb (by assumption))), fun c hc h1 h2 => hC c (by omega) h1 h2⟩
                · exact hB b (by omega)
              · first | omega | (dsimp only; omega)
        · refine lx_nil <| wi_false rfl <| wi_exit rfl <| wi_inBlock <| wi_reg rfl <| lx_move (.int .i64 ((x : Nat) : Int)) rfl rfl <| lx_add (((x + 1 : Nat) : Int)) rfl rfl rfl (by omega) (by omega) (by omega) <| lx_assign (.int .i64 ((x + 1 : Nat) : Int)) rfl rfl <| lx_nil <| ?_
          -- L2.1
          refine IH2 _ _ (x + 1) (agree_ups rfl (agree_mix (rngB_sub (by decide) (by decide) rfl) (agree_ups rfl agree_self))) ⟨rfl, trivial⟩ ⟨rfl, ?_, ?_⟩ ?_
          · try dsimp only
            omega
          · try dsimp only
            intro a ha b hb
            by_cases e : a = x
            · subst e; exact hB b (by omega)
            · exact hA a (by omega) b hb
          · first | omega | (dsimp only; omega)
    · refine lx_nil <| wi_false rfl <| wi_exit rfl <| wi_seq <| wi_reg rfl <| lx_assign (.bool true) rfl rfl <| lx_nil <| ?_
      -- R6
      refine wi_ret ⟨.bool true, (res_one rfl rfl), ⟨?_, rfl⟩⟩
      · congr 1
        first
        | exact (isT_iff.2 ⟨hsQ, fun a b ha hb => hA a (by omega) b hb⟩).symm
        | exact (bad_sq (i := w) (by omega) (by omega)).symm
        | exact (bad_ok (x := x) (y := x) (by omega) (by omega) (bad_refl rfl (by first | assumption | exact nbf (by assumption) | exact nbt (by assumption)))).symm
        | exact (bad_ok (x := x) (y := y) (by omega) (by omega) (bad_tri (z := z) (by omega) (by first | assumption | exact nbf (by assumption) | exact nbt (by assumption)) (by first | assumption | exact nbf (by assumption) | exact nbt (by assumption)) (by first | assumption | exact nbf (by assumption) | exact nbt (by assumption)))).symm
        | exact (bad_ok (x := x) (y := y) (by omega) (by omega) (bad_anti (by omega) (by first | assumption | exact nbf (by assumption) | exact nbt (by assumption)) (by first | assumption | exact nbf (by assumption) | exact nbt (by assumption)))).symm

end Go.Proofs.Ytdokijbdnajhgaa
namespace Go.Proofs.Ytdokijbdnajhgaa
open Go Go.X

set_option maxRecDepth 10000 in
theorem rclosure_spec (h : Heap) (n : Nat) (vl : Value) (ls : List (Int × Int)) (hr_vl : RdE encP h vl ls) (hp1 : n ≤ 12) (hp2 : ls.length ≤ 4611686018427387904) (hp3 : ∀ j, j < ls.length → inR n (gt ls j) = true) : Fx Try.prog 64 [.int .i64 ((n : Nat) : Int), vl] h (fun v h' => ∃ (s : Value) (hs : List Hdr), v = .tuple #[s, .bool (ordB n (closW n ls))] ∧ OwE encHd h' h.size 70 s hs ∧ OT encB h' h.size 4 hs (tabF n (closW n ls)) ∧ Ext h.size h h') := by
  refine fx_intro (n := 96) [(0, .int .i64 ((n : Nat) : Int)), (1, vl)] Try.func64 rfl rfl (by simp) ⟨rfl, rfl, trivial⟩ fun g0 => ?_
  refine wi_seq <| wi_reg rfl <| lx_assign (.slice none 0 0) rfl rfl <| lx_assign (.bool false) rfl rfl <| lx_nil <| wi_seq <| wi_reg rfl <| lx_assign (.slice none 0 0) rfl rfl <| lx_nil <| wi_seq <| wi_seq <| wi_reg rfl <| lx_assign (.int .i64 0) rfl rfl <| lx_nil <| wi_block <| ?_
  refine wi_loop (σ := Nat × Value × (List Hdr) × (List (List Bool))) (rngB 13 27 [6, 7, 8]) (fun (ss : Nat × Value × (List Hdr) × (List (List Bool))) => [(7, .int .i64 ((ss.1 : Nat) : Int)), (6, ss.2.1)]) (fun (ss : Nat × Value × (List Hdr) × (List (List Bool))) (hh : Heap) => OwE encHd hh h.size 70 ss.2.1 ss.2.2.1 ∧ OT encB hh h.size 4 ss.2.2.1 ss.2.2.2 ∧ Ext h.size h hh ∧ (ss.1 ≤ n) ∧ (ss.2.2.2.length = ss.1) ∧ (∀ i, i < ss.1 → gt ss.2.2.2 i = rowF n fun j => decide (i = j))) (fun (ss : Nat × Value × (List Hdr) × (List (List Bool))) => n - ss.1) (0, .slice none 0 0, [], []) ⟨rfl, rfl, trivial⟩ ⟨?_, ?_, (Ext.refl _ _), ?_, ?_, ?_⟩ ?_
  · first | exact (owE_nil encHd _ h.size 70) | (simpa using (owE_nil encHd _ h.size 70))
  · first | exact (OT.nil encB _ h.size 4) | (simpa using (OT.nil encB _ h.size 4))
  · try dsimp only
    omega
  · try dsimp only
    first | done | rfl
  · try dsimp only
    intro i hi; omega
  rintro g1 ⟨x, v, hs, r⟩ hh1 ⟨ho1, hot1, hx0_1, hx, hrl, hrw⟩ IH1
  dsimp only at *
  have hl_hot1 := hot1.1
  refine wi_seq <| wi_seq <| wi_reg rfl <| lx_move (.int .i64 ((x : Nat) : Int)) rfl rfl <| lx_move (.int .i64 ((n : Nat) : Int)) rfl rfl <| lx_lssS rfl rfl rfl (fun c1 => ?_) (fun c1 => ?_)
  · refine lx_nil <| wi_true rfl <| wi_skip <| wi_seq <| wi_block <| wi_seq <| wi_reg rfl <| lx_move (.int .i64 ((n : Nat) : Int)) rfl rfl <| lx_make (E := encB) (n := n) (B := hh1.size) false rfl rfl Try.underlying70 (eZ70) rfl rfl (by omega) (by omega) (Nat.le_refl _) (fun _ _ => trivial) fun v1 h1 ho2 hx1 hvb1 => ?_
    have hx0_2 := hx0_1.trans2 hx1 hx0_1.size
    have ho3 := ho1.extS hx1
    have hot2 := hot1.extS hx1
    have ho4 := ho2.base hx0_1.size
    refine lx_assign (v1) rfl rfl <| lx_nil <| wi_seq <| wi_reg rfl <| lx_move (v1) rfl rfl <| lx_move (.int .i64 ((x : Nat) : Int)) rfl rfl <| lx_ix (i := x) rfl eT70 ho4.rd rfl rfl (by first | omega | (simp only [List.length_set, List.length_append, List.length_cons, List.length_nil, List.length_replicate, List.length_take, swp_length, exch_length]; omega)) <| lx_st (i := x) true rfl rfl Try.sizeOf4 ho4 (by first | omega | (simp only [List.length_set, List.length_append, List.length_cons, List.length_nil, List.length_replicate, List.length_take, swp_length, exch_length]; omega)) rfl rfl (fun _ _ _ _ _ => trivial) fun h2 ho5 hc1 hsz1 => ?_
    have hx0_3 := hx0_2.trans (ho4.ext hc1 hx0_2.size)
    have ho6 := ho3.chg hc1 (dj_new ho1 ho2)
    have hot3 := hot2.chg hc1 (djt_new hot1 ho2)
    have hot4 : OT encB h2 h.size 4 (hs ++ [hdrOf v1]) (r ++ [(List.replicate n false).set x true]) := OT.snoc hot3 ho5 (djt_new hot1 ho2)
    refine lx_nil <| wi_reg rfl <| lx_move (v) rfl rfl <| lx_move (v1) rfl rfl <| lx_appendL (E := encHd) (B := h.size) [hdrOf v1] [v1] rfl rfl (fun _ => rfl) rfl eT23 rfl rfl (hdr_cells1 ho5.rd) rfl ho6 (fun _ => rfl) (by show hs.length + 1 ≤ _; omega) (by show (hs.length + 1) * 24 ≤ _; omega) hx0_3.size (fun _ _ => trivial) fun u1 v2 h3 ho7 hc2 hg1 => ?_
    have hx0_4 := hx0_3.trans (ho6.ext hc2 hx0_3.size)
    have hot5 : OT encB h3 h.size 4 (hs ++ [hdrOf v1]) (r ++ [(List.replicate n false).set x true]) := hot4.chg hc2 (djt_ty hot4 ho6 (by decide))
    have hl_hot5 := hot5.1
    refine lx_assign (v2) rfl rfl <| lx_nil <| wi_inBlock <| wi_reg rfl <| lx_move (.int .i64 ((x : Nat) : Int)) rfl rfl <| lx_add (((x + 1 : Nat) : Int)) rfl rfl rfl (by omega) (by omega) (by omega) <| lx_assign (.int .i64 ((x + 1 : Nat) : Int)) rfl rfl <| lx_nil <| ?_
    -- L0.1
    refine IH1 _ _ (x + 1, v2, hs ++ [hdrOf v1], r ++ [(List.replicate n false).set x true]) (agree_ups rfl agree_self) ⟨rfl, rfl, trivial⟩ ⟨?_, ?_, hx0_4, ?_, ?_, ?_⟩ ?_
    · first | exact ho7 | (simpa using ho7)
    · first | exact hot5 | (simpa using hot5)
    · try dsimp only
      omega
    · try dsimp only
      simp [hrl]
    · try dsimp only
      intro i hi
      by_cases e : i < x
      · rw [gt_append_left (by omega)]; exact hrw i e
      · rw [show i = r.length from by omega, gt_append_right, show x = r.length from by omega]; exact id_row (by omega)
    · first | omega | (dsimp only; omega)
  · refine lx_nil <| wi_false rfl <| wi_exit rfl <| wi_seq <| wi_seq <| wi_reg rfl <| ?_
    have hrr : r = tabF n (fun x y => decide (x = y)) := tab_rows (by omega) (fun j hj => hrw j (by omega))
    have hq0 : Sq r n := by rw [hrr]; exact tabF_sq _ _
    refine lx_assign (.int .i64 0) rfl rfl <| lx_nil <| wi_block <| ?_
    refine wi_loop (σ := Nat × (List (List Bool))) (rngB 27 47 [9]) (fun (ss : Nat × (List (List Bool))) => [(9, .int .i64 ((ss.1 : Nat) : Int))]) (fun (ss : Nat × (List (List Bool))) (hh : Heap) => OwE encHd hh h.size 70 v hs ∧ OT encB hh h.size 4 hs ss.2 ∧ Ext h.size h hh ∧ (ss.1 ≤ ls.length) ∧ (Sq ss.2 n) ∧ (∀ x y, x < n → y < n → pb ss.2 x y = pairW ls ss.1 x y)) (fun (ss : Nat × (List (List Bool))) => ls.length - ss.1) (0, r) ⟨rfl, trivial⟩ ⟨?_, ?_, hx0_1, ?_, ?_, ?_⟩ ?_
    · first | exact ho1 | (simpa using ho1)
    · first | exact hot1 | (simpa using hot1)
    · try dsimp only
      omega
    · try dsimp only
      exact hq0
    · try dsimp only
      intro x y hx hy; rw [hrr, pb_tabF hx hy, pairW_zero]
    rintro g2 ⟨i, r⟩ hh2 ⟨ho8, hot6, hx0_5, hi, hq, hp⟩ IH2
    dsimp only at *
    have hq1 := hq.1
    have hl_hot6 := hot6.1
    refine wi_seq <| wi_seq <| wi_reg rfl <| lx_move (.int .i64 ((i : Nat) : Int)) rfl rfl <| lx_move (vl) rfl rfl <| lx_len rfl Try.underlying22 hr_vl rfl <| lx_lssS rfl rfl rfl (fun c2 => ?_) (fun c2 => ?_)
    · refine lx_nil <| wi_true rfl <| wi_skip <| wi_seq <| wi_block <| wi_draw mo rfl (by decide +kernel) <| ?_
      obtain ⟨h91, h92, h93, h94⟩ := inR_iff.1 (hp3 i (by omega))
      obtain ⟨a, b, hgc, ha, hb⟩ : ∃ a b : Nat, gt ls i = ((a : Int), (b : Int)) ∧ a < n ∧ b < n := ⟨(gt ls i).1.toNat, (gt ls i).2.toNat, Prod.ext (by show _ = ((_ : Nat) : Int); omega) (by show _ = ((_ : Nat) : Int); omega), by omega, by omega⟩
      refine lx_move (v) rfl rfl <| lx_move (vl) rfl rfl <| lx_move (.int .i64 ((i : Nat) : Int)) rfl rfl <| lx_ix (i := i) rfl eT22 hr_vl rfl rfl (by omega) <| lx_ixP (i := i) (c := 0) rfl Try.underlying85 Try.sizeOf3 hr_vl (by omega) rfl rfl (by decide) <| lx_ld (i := i) (j := 0) (.int .i64 ((a : Nat) : Int)) rfl rfl fl3 (hr_vl.extS hx0_5) (by omega) (by rw [hgc]; rfl) rfl <| lx_ix (i := a) rfl eT23 ho8.rd rfl rfl (by omega) <| lx_ld (i := a) (j := 0) ((gt hs a).v) rfl rfl fl70 ho8.rd (by omega) rfl rfl <| lx_move (vl) rfl rfl <| lx_move (.int .i64 ((i : Nat) : Int)) rfl rfl <| lx_ix (i := i) rfl eT22 hr_vl rfl rfl (by omega) <| lx_ixP (i := i) (c := 1) rfl Try.underlying85 Try.sizeOf3 hr_vl (by omega) rfl rfl (by decide) <| lx_ld (i := i) (j := 1) (.int .i64 ((b : Nat) : Int)) rfl rfl fl3 (hr_vl.extS hx0_5) (by omega) (by rw [hgc]; rfl) rfl <| lx_ix (i := b) rfl eT70 (hot6.2.1 a (by omega)).rd rfl rfl (by rw [hq.2 a (by omega)]; omega) <| lx_st (i := b) true rfl rfl Try.sizeOf4 (hot6.2.1 a (by omega)) (by rw [hq.2 a (by omega)]; omega) rfl rfl (fun _ _ _ _ _ => trivial) fun h4 ho9 hc3 hsz2 => ?_
      have hx0_6 := hx0_5.trans ((hot6.2.1 a (by omega)).ext hc3 hx0_5.size)
      have ho10 := ho8.chg hc3 (Dj.symm ((djt_ty hot6 ho8 (by decide)) a (by rw [hot6.1]; exact (by omega))))
      have hot7 := OT.cell hot6 (by omega) hc3 ho9
      have hl_hot7 := hot7.1
      refine lx_nil <| wi_inBlock <| wi_reg rfl <| lx_move (.int .i64 ((i : Nat) : Int)) rfl rfl <| lx_add (((i + 1 : Nat) : Int)) rfl rfl rfl (by omega) (by omega) (by omega) <| lx_assign (.int .i64 ((i + 1 : Nat) : Int)) rfl rfl <| lx_nil <| ?_
      -- L2.1
      refine IH2 _ _ (i + 1, r.set a ((gt r a).set b true)) (agree_ups rfl agree_self) ⟨rfl, trivial⟩ ⟨?_, ?_, hx0_6, ?_, ?_, ?_⟩ ?_
      · first | exact ho10 | (simpa using ho10)
      · first | exact hot7 | (simpa using hot7)
      · try dsimp only
        omega
      · try dsimp only
        exact sq_set hq (by omega)
      · try dsimp only
        exact pairW_step (by omega) hq ha hb hgc hp
      · first | omega | (dsimp only; omega)
    · refine lx_nil <| wi_false rfl <| wi_exit rfl <| wi_seq <| wi_seq <| wi_reg rfl <| lx_assign (.int .i64 0) rfl rfl <| lx_nil <| wi_block <| ?_
      refine wi_loop (σ := Nat × (List (List Bool))) (rngB 47 93 [10, 11, 12]) (fun (ss : Nat × (List (List Bool))) => [(10, .int .i64 ((ss.1 : Nat) : Int))]) (fun (ss : Nat × (List (List Bool))) (hh : Heap) => OwE encHd hh h.size 70 v hs ∧ OT encB hh h.size 4 hs ss.2 ∧ Ext h.size h hh ∧ (ss.1 ≤ n) ∧ (Sq ss.2 n) ∧ (∀ a c, a < n → c < n → pb ss.2 a c = warN (pairW ls ls.length) ss.1 a c)) (fun (ss : Nat × (List (List Bool))) => n - ss.1) (0, r) ⟨rfl, trivial⟩ ⟨?_, ?_, hx0_5, ?_, ?_, ?_⟩ ?_
      · first | exact ho8 | (simpa using ho8)
      · first | exact hot6 | (simpa using hot6)
      · try dsimp only
        omega
      · try dsimp only
        exact hq
      · try dsimp only
        rw [show ls.length = i from by omega]; exact hp
      rintro g3 ⟨y, r⟩ hh3 ⟨ho11, hot8, hx0_7, hy, hq, hr⟩ IH3
      dsimp only at *
      have hq1 := hq.1
      have hl_hot8 := hot8.1
      refine wi_seq <| wi_seq <| wi_reg rfl <| lx_move (.int .i64 ((y : Nat) : Int)) rfl rfl <| lx_move (.int .i64 ((n : Nat) : Int)) rfl rfl <| lx_lssS rfl rfl rfl (fun c3 => ?_) (fun c3 => ?_)
      · refine lx_nil <| wi_true rfl <| wi_skip <| wi_seq <| wi_block <| wi_seq <| wi_reg rfl <| lx_assign (.int .i64 0) rfl rfl <| lx_nil <| wi_block <| ?_
        refine wi_loop (σ := Nat × (List (List Bool))) (rngB 52 93 [11, 12]) (fun (ss : Nat × (List (List Bool))) => [(11, .int .i64 ((ss.1 : Nat) : Int))]) (fun (ss : Nat × (List (List Bool))) (hh : Heap) => OwE encHd hh h.size 70 v hs ∧ OT encB hh h.size 4 hs ss.2 ∧ Ext h.size h hh ∧ (ss.1 ≤ n) ∧ (Sq ss.2 n) ∧ (∀ a c, a < n → c < n → pb ss.2 a c = warS (warN (pairW ls ls.length) y) y ss.1 0 a c)) (fun (ss : Nat × (List (List Bool))) => n - ss.1) (0, r) ⟨rfl, trivial⟩ ⟨?_, ?_, hx0_7, ?_, ?_, ?_⟩ ?_
        · first | exact ho11 | (simpa using ho11)
        · first | exact hot8 | (simpa using hot8)
        · try dsimp only
          omega
        · try dsimp only
          exact hq
        · try dsimp only
          intro a c ha hc; rw [warS_zero]; exact hr a c ha hc
        rintro g4 ⟨x, r⟩ hh4 ⟨ho12, hot9, hx0_8, hx, hq, hr⟩ IH4
        dsimp only at *
        have hq1 := hq.1
        have hl_hot9 := hot9.1
        refine wi_seq <| wi_seq <| wi_reg rfl <| lx_move (.int .i64 ((x : Nat) : Int)) rfl rfl <| lx_move (.int .i64 ((n : Nat) : Int)) rfl rfl <| lx_lssS rfl rfl rfl (fun c4 => ?_) (fun c4 => ?_)
        · refine lx_nil <| wi_true rfl <| wi_skip <| wi_seq <| wi_block <| wi_seq <| wi_reg rfl <| lx_assign (.int .i64 0) rfl rfl <| lx_nil <| wi_block <| ?_
          refine wi_loop (σ := Nat × (List (List Bool))) (rngB 57 93 [12]) (fun (ss : Nat × (List (List Bool))) => [(12, .int .i64 ((ss.1 : Nat) : Int))]) (fun (ss : Nat × (List (List Bool))) (hh : Heap) => OwE encHd hh h.size 70 v hs ∧ OT encB hh h.size 4 hs ss.2 ∧ Ext h.size h hh ∧ (ss.1 ≤ n) ∧ (Sq ss.2 n) ∧ (∀ a c, a < n → c < n → pb ss.2 a c = warS (warN (pairW ls ls.length) y) y x ss.1 a c)) (fun (ss : Nat × (List (List Bool))) => n - ss.1) (0, r) ⟨rfl, trivial⟩ ⟨?_, ?_, hx0_8, ?_, ?_, ?_⟩ ?_
          · first | exact ho12 | (simpa using ho12)
          · first | exact hot9 | (simpa using hot9)
          · try dsimp only
            omega
          · try dsimp only
            exact hq
          · try dsimp only
            exact hr
          rintro g5 ⟨z, r⟩ hh5 ⟨ho13, hot10, hx0_9, hz, hq, hr⟩ IH5
          dsimp only at *
          have hq1 := hq.1
          have hl_hot10 := hot10.1
          refine wi_seq <| wi_seq <| wi_reg rfl <| lx_move (.int .i64 ((z : Nat) : Int)) rfl rfl <| lx_move (.int .i64 ((n : Nat) : Int)) rfl rfl <| lx_lssS rfl rfl rfl (fun c5 => ?_) (fun c5 => ?_)
          · refine lx_nil <| wi_true rfl <| wi_skip <| wi_seq <| wi_block <| wi_draw mo rfl (by decide +kernel) <| lx_move (v) rfl rfl <| lx_move (.int .i64 ((x : Nat) : Int)) rfl rfl <| lx_ix (i := x) rfl eT23 ho13.rd rfl rfl (by omega) <| lx_ld (i := x) (j := 0) ((gt hs x).v) rfl rfl fl70 ho13.rd (by omega) rfl rfl <| lx_move (.int .i64 ((z : Nat) : Int)) rfl rfl <| lx_move (v) rfl rfl <| lx_move (.int .i64 ((x : Nat) : Int)) rfl rfl <| lx_ix (i := x) rfl eT23 ho13.rd rfl rfl (by omega) <| lx_ld (i := x) (j := 0) ((gt hs x).v) rfl rfl fl70 ho13.rd (by omega) rfl rfl <| lx_move (.int .i64 ((z : Nat) : Int)) rfl rfl <| lx_ix (i := z) rfl eT70 (hot10.2.1 x (by omega)).rd rfl rfl (by rw [hq.2 x (by omega)]; omega) <| lx_ld (i := z) (j := 0) (.bool (gt (gt r x) z)) rfl rfl fl4 (hot10.2.1 x (by omega)).rd (by rw [hq.2 x (by omega)]; omega) rfl rfl <| lx_move (.bool (gt (gt r x) z)) rfl rfl <| ?_
            cases c6 : (gt (gt r x) z)
            · refine lx_move (v) rfl rfl <| lx_move (.int .i64 ((x : Nat) : Int)) rfl rfl <| lx_ix (i := x) rfl eT23 ho13.rd rfl rfl (by omega) <| lx_ld (i := x) (j := 0) ((gt hs x).v) rfl rfl fl70 ho13.rd (by omega) rfl rfl <| lx_move (.int .i64 ((y : Nat) : Int)) rfl rfl <| lx_ix (i := y) rfl eT70 (hot10.2.1 x (by omega)).rd rfl rfl (by rw [hq.2 x (by omega)]; omega) <| lx_ld (i := y) (j := 0) (.bool (gt (gt r x) y)) rfl rfl fl4 (hot10.2.1 x (by omega)).rd (by rw [hq.2 x (by omega)]; omega) rfl rfl <| lx_move (.bool (gt (gt r x) y)) rfl rfl <| ?_
              cases c7 : (gt (gt r x) y)
              · refine lx_skip rfl <| lx_skip rfl <| lx_skip rfl <| lx_skip rfl <| lx_skip rfl <| lx_skip rfl <| lx_skip rfl <| lx_pick false (.bool false) rfl rfl rfl <| lx_pick false (.bool false) rfl rfl rfl <| lx_ix (i := z) rfl eT70 (hot10.2.1 x (by omega)).rd rfl rfl (by rw [hq.2 x (by omega)]; omega) <| lx_st (i := z) false rfl rfl Try.sizeOf4 (hot10.2.1 x (by omega)) (by rw [hq.2 x (by omega)]; omega) rfl rfl (fun _ _ _ _ _ => trivial) fun h5 ho14 hc4 hsz3 => ?_
                have hx0_10 := hx0_9.trans ((hot10.2.1 x (by omega)).ext hc4 hx0_9.size)
                have ho15 := ho13.chg hc4 (Dj.symm ((djt_ty hot10 ho13 (by decide)) x (by rw [hot10.1]; exact (by omega))))
                have hot11 := OT.cell hot10 (by omega) hc4 ho14
                have hl_hot11 := hot11.1
                refine lx_nil <| wi_inBlock <| wi_reg rfl <| lx_move (.int .i64 ((z : Nat) : Int)) rfl rfl <| lx_add (((z + 1 : Nat) : Int)) rfl rfl rfl (by omega) (by omega) (by omega) <| lx_assign (.int .i64 ((z + 1 : Nat) : Int)) rfl rfl <| lx_nil <| ?_
                -- L8.1
                refine IH5 _ _ (z + 1, r.set x ((gt r x).set z false)) (agree_ups rfl agree_self) ⟨rfl, trivial⟩ ⟨?_, ?_, hx0_10, ?_, ?_, ?_⟩ ?_
                · first | exact ho15 | (simpa using ho15)
                · first | exact hot11 | (simpa using hot11)
                · try dsimp only
                  omega
                · try dsimp only
                  exact sq_set hq (by omega)
                · try dsimp only
                  exact warS_step hq (by omega) (by omega) hr (by rw [warS_val (r := r) (by omega) (by omega) (by omega) hr]; first | exact or_t (by with_reducible assumption) | exact or_f (by with_reducible assumption) (by with_reducible assumption) | exact or_v (by with_reducible assumption) (by with_reducible assumption))
                · first | omega | (dsimp only; omega)
              · refine lx_move (v) rfl rfl <| lx_move (.int .i64 ((y : Nat) : Int)) rfl rfl <| lx_ix (i := y) rfl eT23 ho13.rd rfl rfl (by omega) <| lx_ld (i := y) (j := 0) ((gt hs y).v) rfl rfl fl70 ho13.rd (by omega) rfl rfl <| lx_move (.int .i64 ((z : Nat) : Int)) rfl rfl <| lx_ix (i := z) rfl eT70 (hot10.2.1 y (by omega)).rd rfl rfl (by rw [hq.2 y (by omega)]; omega) <| lx_ld (i := z) (j := 0) (.bool (gt (gt r y) z)) rfl rfl fl4 (hot10.2.1 y (by omega)).rd (by rw [hq.2 y (by omega)]; omega) rfl rfl <| lx_pick true (.bool (gt (gt r y) z)) rfl rfl rfl <| lx_pick false (.bool (gt (gt r y) z)) rfl rfl rfl <| lx_ix (i := z) rfl eT70 (hot10.2.1 x (by omega)).rd rfl rfl (by rw [hq.2 x (by omega)]; omega) <| lx_st (i := z) (gt (gt r y) z) rfl rfl Try.sizeOf4 (hot10.2.1 x (by omega)) (by rw [hq.2 x (by omega)]; omega) rfl rfl (fun _ _ _ _ _ => trivial) fun h6 ho16 hc5 hsz4 => ?_
                have hx0_11 := hx0_9.trans ((hot10.2.1 x (by omega)).ext hc5 hx0_9.size)
                have ho17 := ho13.chg hc5 (Dj.symm ((djt_ty hot10 ho13 (by decide)) x (by rw [hot10.1]; exact (by omega))))
                have hot12 := OT.cell hot10 (by omega) hc5 ho16
                have hl_hot12 := hot12.1
                refine lx_nil <| wi_inBlock <| wi_reg rfl <| lx_move (.int .i64 ((z : Nat) : Int)) rfl rfl <| lx_add (((z + 1 : Nat) : Int)) rfl rfl rfl (by omega) (by omega) (by omega) <| lx_assign (.int .i64 ((z + 1 : Nat) : Int)) rfl rfl <| lx_nil <| ?_
                -- L8.2
                refine IH5 _ _ (z + 1, r.set x ((gt r x).set z (gt (gt r y) z))) (agree_ups rfl agree_self) ⟨rfl, trivial⟩ ⟨?_, ?_, hx0_11, ?_, ?_, ?_⟩ ?_
                · first | exact ho17 | (simpa using ho17)
                · first | exact hot12 | (simpa using hot12)
                · try dsimp only
                  omega
                · try dsimp only
                  exact sq_set hq (by omega)
                · try dsimp only
                  exact warS_step hq (by omega) (by omega) hr (by rw [warS_val (r := r) (by omega) (by omega) (by omega) hr]; first | exact or_t (by with_reducible assumption) | exact or_f (by with_reducible assumption) (by with_reducible assumption) | exact or_v (by with_reducible assumption) (by with_reducible assumption))
                · first | omega | (dsimp only; omega)
            · refine lx_skip rfl <| lx_skip rfl <| lx_skip rfl <| lx_skip rfl <| lx_skip rfl <| lx_skip rfl <| lx_skip rfl <| lx_skip rfl <| lx_skip rfl <| lx_skip rfl <| lx_skip rfl <| lx_skip rfl <| lx_skip rfl <| lx_skip rfl <| lx_skip rfl <| lx_skip rfl <| lx_pick true (.bool true) rfl rfl rfl <| lx_ix (i := z) rfl eT70 (hot10.2.1 x (by omega)).rd rfl rfl (by rw [hq.2 x (by omega)]; omega) <| lx_st (i := z) true rfl rfl Try.sizeOf4 (hot10.2.1 x (by omega)) (by rw [hq.2 x (by omega)]; omega) rfl rfl (fun _ _ _ _ _ => trivial) fun h7 ho18 hc6 hsz5 => ?_
              have hx0_12 := hx0_9.trans ((hot10.2.1 x (by omega)).ext hc6 hx0_9.size)
              have ho19 := ho13.chg hc6 (Dj.symm ((djt_ty hot10 ho13 (by decide)) x (by rw [hot10.1]; exact (by omega))))
              have hot13 := OT.cell hot10 (by omega) hc6 ho18
              have hl_hot13 := hot13.1
              refine lx_nil <| wi_inBlock <| wi_reg rfl <| lx_move (.int .i64 ((z : Nat) : Int)) rfl rfl <| lx_add (((z + 1 : Nat) : Int)) rfl rfl rfl (by omega) (by omega) (by omega) <| lx_assign (.int .i64 ((z + 1 : Nat) : Int)) rfl rfl <| lx_nil <| ?_
              -- L8.3
              refine IH5 _ _ (z + 1, r.set x ((gt r x).set z true)) (agree_ups rfl agree_self) ⟨rfl, trivial⟩ ⟨?_, ?_, hx0_12, ?_, ?_, ?_⟩ ?_
              · first | exact ho19 | (simpa using ho19)
              · first | exact hot13 | (simpa using hot13)
              · try dsimp only
                omega
              · try dsimp only
                exact sq_set hq (by omega)
              · try dsimp only
                exact warS_step hq (by omega) (by omega) hr (by rw [warS_val (r := r) (by omega) (by omega) (by omega) hr]; first | exact or_t (by with_reducible assumption) | exact or_f (by with_reducible assumption) (by with_reducible assumption) | exact or_v (by with_reducible assumption) (by with_reducible assumption))
              · first | omega | (dsimp only; omega)
          · refine lx_nil <| wi_false rfl <| wi_exit rfl <| wi_inBlock <| wi_reg rfl <| lx_move (.int .i64 ((x : Nat) : Int)) rfl rfl <| lx_add (((x + 1 : Nat) : Int)) rfl rfl rfl (by omega) (by omega) (by omega) <| lx_assign (.int .i64 ((x + 1 : Nat) : Int)) rfl rfl <| lx_nil <| ?_
            -- L6.1
            refine IH4 _ _ (x + 1, r) (agree_ups rfl (agree_mix (rngB_sub (by decide) (by decide) rfl) (agree_ups rfl agree_self))) ⟨rfl, trivial⟩ ⟨?_, ?_, hx0_9, ?_, ?_, ?_⟩ ?_
            · first | exact ho13 | (simpa using ho13)
            · first | exact hot10 | (simpa using hot10)
            · try dsimp only
              omega
            · try dsimp only
              exact hq
            · try dsimp only
              intro a c ha hc; rw [hr a c ha hc, show z = n from by omega]; exact warS_next _ hc
            · first | omega | (dsimp only; omega)
        · refine lx_nil <| wi_false rfl <| wi_exit rfl <| wi_inBlock <| wi_reg rfl <| lx_move (.int .i64 ((y : Nat) : Int)) rfl rfl <| lx_add (((y + 1 : Nat) : Int)) rfl rfl rfl (by omega) (by omega) (by omega) <| lx_assign (.int .i64 ((y + 1 : Nat) : Int)) rfl rfl <| lx_nil <| ?_
          -- L4.1
          refine IH3 _ _ (y + 1, r) (agree_ups rfl (agree_mix (rngB_sub (by decide) (by decide) rfl) (agree_ups rfl agree_self))) ⟨rfl, trivial⟩ ⟨?_, ?_, hx0_8, ?_, ?_, ?_⟩ ?_
          · first | exact ho12 | (simpa using ho12)
          · first | exact hot9 | (simpa using hot9)
          · try dsimp only
            omega
          · try dsimp only
            exact hq
          · try dsimp only
            intro a c ha hc; rw [hr a c ha hc, show x = n from by omega]; exact warS_end _ ha
          · first | omega | (dsimp only; omega)
      · refine lx_nil <| wi_false rfl <| wi_exit rfl <| wi_seq <| wi_reg rfl <| ?_
        have hrt : r = tabF n (closW n ls) := tab_ext hq (fun a c ha hc => by rw [hr a c ha hc, show y = n from by omega]; rfl)
        refine lx_move (v) rfl rfl <| lx_move (v) rfl rfl <| lx_call [v] rfl rfl Try.call112 rfl (risorder_spec hh3 v hs r ho11.rd hot8.rt (by omega) (fun i hi => by rw [hq.2 i (by rw [← hq.1]; exact hi)]; omega)) (fun _ _ _ => trivial) ?_
        rintro _ h8 ⟨rfl, rfl⟩
        have hit : isT r = ordB n (closW n ls) := isT_tab hrt
        rw [hit]
        refine lx_assign (v) rfl rfl <| lx_assign (.bool (ordB n (closW n ls))) rfl rfl <| lx_nil <| ?_
        -- R1
        refine wi_ret ⟨.tuple #[v, .bool (ordB n (closW n ls))], (res_two rfl rfl rfl), ⟨v, hs, rfl, ?_, ?_, hx0_7⟩⟩
        · exact ho11
        · rw [← hrt]; exact hot8

end Go.Proofs.Ytdokijbdnajhgaa
namespace Go.X
end Go.X
namespace Go.Proofs.Ytdokijbdnajhgaa
open Go Go.X

end Go.Proofs.Ytdokijbdnajhgaa
namespace Go.X
end Go.X
namespace Go.X
/-- Strictly below. -/
def blw (f : Nat → Nat → Bool) (x y : Nat) : Bool := decide (x ≠ y) && f x y
theorem blw_iff {f : Nat → Nat → Bool} {x y : Nat} : blw f x y = true ↔ x ≠ y ∧ f x y = true := by unfold blw; rw [Bool.and_eq_true, decide_eq_true_iff]
def euA (n : Nat) (f : Nat → Nat → Bool) : Nat → Nat → Int
  | 0, _ => 0
  | k + 1, y => 1 - sumI n fun x => if blw f x y then euA n f k x else 0
theorem euA_stable {n : Nat} {f : Nat → Nat → Bool} (ho : IsO n f) : ∀ (k l : Nat) {y : Nat}, y < n → cntD n f y ≤ k → cntD n f y ≤ l → euA n f k y = euA n f l y
  | 0, _, y, hy, h1, _ => absurd (cntD_pos ho hy) (by omega)
  | _ + 1, 0, y, hy, _, h2 => absurd (cntD_pos ho hy) (by omega)
  | k + 1, l + 1, y, hy, h1, h2 => by
    unfold euA
    congr 1
    refine sumI_congr fun z hz => ?_
    cases hb : blw f z y
    · rfl
    · rw [if_pos rfl, if_pos rfl]
      obtain ⟨h3, h4⟩ := blw_iff.1 hb
      have := cntD_lt ho hz hy h4 h3
      exact euA_stable ho k l hz (by omega) (by omega)
/-- Of all chains that end with an element: those of odd length less those of even length. -/
def euF (n : Nat) (f : Nat → Nat → Bool) (y : Nat) : Int := euA n f (n + 1) y
theorem euF_eq {n : Nat} {f : Nat → Nat → Bool} (ho : IsO n f) {y : Nat} (hy : y < n) : euF n f y = 1 - sumI n fun x => if blw f x y then euF n f x else 0 := by
  rw [show euF n f y = euA n f (n + 1) y from rfl, euA]
  congr 1
  refine sumI_congr fun z hz => ?_
  cases hb : blw f z y
  · rfl
  · rw [if_pos rfl, if_pos rfl]
    obtain ⟨h3, h4⟩ := blw_iff.1 hb
    have h1 := cntD_lt ho hz hy h4 h3
    have h2 := cntD_le n f y
    exact euA_stable ho n (n + 1) hz (by omega) (by omega)
theorem euA_bound {n : Nat} {f : Nat → Nat → Bool} : ∀ (k y : Nat), -(((n + 1) ^ k : Nat) : Int) ≤ euA n f k y ∧ euA n f k y ≤ (((n + 1) ^ k : Nat) : Int)
  | 0, y => by simp [euA]
  | k + 1, y => by
    have hp0 : 0 < (n + 1) ^ k := Nat.pow_pos (by omega)
    unfold euA
    have h := sumI_bound (B := (((n + 1) ^ k : Nat) : Int)) (by omega) (n := n) (g := fun x => if blw f x y then euA n f k x else 0) fun i _ => by
      skip
      split
      · exact euA_bound k i
      · omega
    have e : ((n : Nat) : Int) * (((n + 1) ^ k : Nat) : Int) + (((n + 1) ^ k : Nat) : Int) = (((n + 1) ^ (k + 1) : Nat) : Int) := by
      rw [Nat.pow_succ, Nat.mul_add, Nat.mul_one, Nat.mul_comm ((n + 1) ^ k) n]
      push_cast
      rfl
    omega
theorem euF_bound {n : Nat} {f : Nat → Nat → Bool} (hn : n ≤ 12) (y : Nat) : -302875106592253 ≤ euF n f y ∧ euF n f y ≤ 302875106592253 := by
  have h := euA_bound (n := n) (f := f) (n + 1) y
  have h1 : (n + 1) ^ (n + 1) ≤ 13 ^ 13 := Nat.le_trans (Nat.pow_le_pow_left (by omega) _) (Nat.pow_le_pow_right (by omega) (by omega))
  have h2 : (13 : Nat) ^ 13 = 302875106592253 := by decide
  unfold euF
  omega
/-- The characteristic. -/
def eulN (n : Nat) (f : Nat → Nat → Bool) : Int := sumI n (euF n f)
/-- What there is when the first 'k' of the list have come. -/
def erow (n : Nat) (f : Nat → Nat → Bool) (xs : List Int) (k : Nat) : List Int := mapR n fun y => if dnK xs k y then euF n f y else 0
def esum (n : Nat) (f : Nat → Nat → Bool) (xs : List Int) (k : Nat) : Int := sumI n fun y => if dnK xs k y then euF n f y else 0
theorem erow_len (n : Nat) (f : Nat → Nat → Bool) (xs : List Int) (k : Nat) : (erow n f xs k).length = n := mapR_len n _
theorem erow_zero (n : Nat) (f : Nat → Nat → Bool) (xs : List Int) : List.replicate n (0 : Int) = erow n f xs 0 := by
  rw [rep_mapR]
  exact mapR_congr fun j _ => by rw [dnK_zero]; rfl
theorem esum_zero (n : Nat) (f : Nat → Nat → Bool) (xs : List Int) : esum n f xs 0 = 0 := sumI_zero fun i _ => by rw [dnK_zero]; rfl
theorem esum_all {n : Nat} {f : Nat → Nat → Bool} {xs : List Int} (hL : LinL n f xs) : esum n f xs n = eulN n f := sumI_congr fun i hi => by rw [dnK_all hL hi]; rfl
theorem erow_bound {n k : Nat} {f : Nat → Nat → Bool} {xs : List Int} (hn : n ≤ 12) {z : Nat} (hz : z < n) : -302875106592253 ≤ gt (erow n f xs k) z ∧ gt (erow n f xs k) z ≤ 302875106592253 := by
  unfold erow
  rw [gt_mapR hz]
  have := euF_bound (f := f) hn z
  split
  · exact this
  · omega
theorem esum_bound {n k : Nat} {f : Nat → Nat → Bool} {xs : List Int} (hn : n ≤ 12) : -3634501279107036 ≤ esum n f xs k ∧ esum n f xs k ≤ 3634501279107036 := by
  have h := sumI_bound (B := 302875106592253) (by decide) (n := n) (g := fun y => if dnK xs k y then euF n f y else 0) fun i _ => by
    have := euF_bound (f := f) hn i
    skip
    split
    · exact this
    · omega
  have h2 : ((n : Nat) : Int) * 302875106592253 ≤ 12 * 302875106592253 := Int.mul_le_mul_of_nonneg_right (by omega) (by decide)
  unfold esum
  omega
/-- What the inner loop has, of the elements before 'j'. -/
def epart (f : Nat → Nat → Bool) (es : List Int) (b j : Nat) : Int := 1 - sumI j fun x => if blw f x b then gt es x else 0
theorem epart_zero (f : Nat → Nat → Bool) (es : List Int) (b : Nat) : epart f es b 0 = 1 := by unfold epart sumI; rfl
theorem epart_yes {f : Nat → Nat → Bool} {es : List Int} {b j : Nat} (h : blw f j b = true) : epart f es b (j + 1) = epart f es b j - gt es j := by unfold epart; rw [sumI, if_pos h]; omega
theorem epart_no {f : Nat → Nat → Bool} {es : List Int} {b j : Nat} (h : blw f j b = false) : epart f es b (j + 1) = epart f es b j := by unfold epart; rw [sumI, if_neg (by rw [h]; simp)]; omega
theorem epart_bound {n k b j : Nat} {f : Nat → Nat → Bool} {xs : List Int} (hn : n ≤ 12) (hj : j ≤ n) : -3634501279107037 ≤ epart f (erow n f xs k) b j ∧ epart f (erow n f xs k) b j ≤ 3634501279107037 := by
  have h := sumI_bound (B := 302875106592253) (by decide) (n := j) (g := fun x => if blw f x b then gt (erow n f xs k) x else 0) fun i hi => by
    have := erow_bound (f := f) (xs := xs) (k := k) hn (show i < n by omega)
    skip
    split
    · exact this
    · omega
  have h2 : ((j : Nat) : Int) * 302875106592253 ≤ 12 * 302875106592253 := Int.mul_le_mul_of_nonneg_right (by omega) (by decide)
  unfold epart
  omega
theorem epart_all {n k b : Nat} {f : Nat → Nat → Bool} {xs : List Int} (ho : IsO n f) (hL : LinL n f xs) (hk : k < n) (hb : gt xs k = (b : Int)) (hbn : b < n) : epart f (erow n f xs k) b n = euF n f b := by
  rw [euF_eq ho hbn]
  unfold epart
  congr 1
  refine sumI_congr fun x hx => ?_
  cases h : blw f x b
  · rfl
  · obtain ⟨h1, h2⟩ := blw_iff.1 h
    rw [if_pos rfl, if_pos rfl]
    unfold erow
    rw [gt_mapR hx, dnK_below hL hk hb hx h2 h1]; rfl
theorem erow_set {n k b : Nat} {f : Nat → Nat → Bool} {xs : List Int} (hb : gt xs k = (b : Int)) (hbn : b < n) : (erow n f xs k).set b (euF n f b) = erow n f xs (k + 1) := by
  unfold erow
  rw [mapR_set hbn]
  refine mapR_congr fun j _ => ?_
  rw [dnK_succ hb]
  by_cases e : j = b
  · subst e; rw [if_pos rfl, decide_eq_true rfl, Bool.or_true]; rfl
  · rw [if_neg e, decide_eq_false e, Bool.or_false]
theorem esum_succ {n k b : Nat} {f : Nat → Nat → Bool} {xs : List Int} (hL : LinL n f xs) (hk : k < n) (hb : gt xs k = (b : Int)) (hbn : b < n) : esum n f xs (k + 1) = esum n f xs k + euF n f b := by
  have h1 : sumI n (fun y => if y = b then euF n f b else 0) = euF n f b := by
    rw [sumI_one (k := b) hbn fun i _ hne => if_neg hne, if_pos rfl]
  rw [← h1]
  unfold esum
  rw [← sumI_add]
  refine sumI_congr fun y hy => ?_
  rw [dnK_succ hb]
  by_cases e : y = b
  · subst e; rw [dnK_not hL hk hb, decide_eq_true rfl]; simp
  · rw [decide_eq_false e, Bool.or_false, if_neg e]; omega
end Go.X
namespace Go.X
/-- The sum over what is at most 'y', of the elements before 'j'. -/
def smP (f : Nat → Nat → Bool) (a : Nat → Int) (y j : Nat) : Int := sumI j fun x => if f x y then a x else 0
def sumT (n : Nat) (f : Nat → Nat → Bool) (xs : List Int) : List Int := mapR n fun y => smP f (gt xs) y n
/-- The differences, by the numbers of Moebius. -/
def dfP (n : Nat) (f : Nat → Nat → Bool) (a : Nat → Int) (y j : Nat) : Int := sumI j fun x => a x * muF n f x y
def dfT (n : Nat) (f : Nat → Nat → Bool) (xs : List Int) : List Int := mapR n fun y => dfP n f (gt xs) y n
theorem smP_succ {f : Nat → Nat → Bool} {a : Nat → Int} {y j : Nat} : smP f a y (j + 1) = smP f a y j + if f j y then a j else 0 := rfl
theorem dfP_succ {n : Nat} {f : Nat → Nat → Bool} {a : Nat → Int} {y j : Nat} : dfP n f a y (j + 1) = dfP n f a y j + a j * muF n f j y := rfl
section
variable {n : Nat} {f : Nat → Nat → Bool} (ho : IsO n f)
include ho
theorem mu_sup {x y : Nat} (hx : x < n) (hy : y < n) (h : muF n f x y ≠ 0) : f x y = true := by
  by_cases e : x = y
  · subst e; exact ho.refl hx
  · cases c : f x y
    · exact absurd (muF_out e c) h
    · rfl
/-- The numbers of Moebius are what undoes sums. -/
theorem mu_delta {z y : Nat} (hz : z < n) (hy : y < n) : (sumI n fun x => if f x y then muF n f z x else 0) = if z = y then 1 else 0 := by
  by_cases e : z = y
  · subst e
    rw [if_pos rfl, sumI_one (k := z) hz fun i hi hne => ?_, if_pos (ho.refl hz), muF_self]
    split
    · rename_i h
      refine Classical.byContradiction fun h0 => ?_
      exact hne (ho.anti hi hz h (mu_sup ho hz hi h0))
    · rfl
  · rw [if_neg e]
    cases c : f z y
    · refine sumI_zero fun i hi => ?_
      split
      · rename_i h
        refine Classical.byContradiction fun h0 => ?_
        have h1 := ho.trans hz hi hy (mu_sup ho hz hi h0) h
        rw [c] at h1; cases h1
      · rfl
    · have h1 := muF_in ho hz hy e c
      have h2 : (sumI n fun x => if x = y then muF n f z y else 0) = muF n f z y := by
        rw [sumI_one (k := y) hy fun i _ hne => if_neg hne, if_pos rfl]
      have h3 : (sumI n fun x => if f x y then muF n f z x else 0) = (sumI n fun x => if btw f z y x then muF n f z x else 0) + sumI n fun x => if x = y then muF n f z y else 0 := by
        rw [← sumI_add]
        refine sumI_congr fun x hx => ?_
        unfold btw
        by_cases e2 : x = y
        · subst e2
          rw [if_pos (ho.refl hx), if_pos rfl, decide_eq_false (show ¬ x ≠ x from fun h => h rfl), Bool.and_false, if_neg (by simp), Int.zero_add]
        · rw [if_neg e2, decide_eq_true e2, Bool.and_true, Int.add_zero]
          cases c2 : f x y
          · simp
          · cases c3 : f z x
            · have h0 : muF n f z x = 0 := Classical.byContradiction fun h => by have := mu_sup ho hz hx h; rw [c3] at this; cases this
              simp [h0]
            · simp
      rw [h3, h2]; omega
/-- Sums of differences. -/
theorem sum_diff (a : Nat → Int) {y : Nat} (hy : y < n) : smP f (fun x => dfP n f a x n) y n = a y := by
  unfold smP dfP
  have h1 : (sumI n fun x => if f x y then (sumI n fun z => a z * muF n f z x) else 0) = sumI n fun x => sumI n fun z => a z * (if f x y then muF n f z x else 0) := sumI_congr fun x hx => by
    split
    · rfl
    · exact (sumI_zero fun z _ => by rw [Int.mul_zero]).symm
  rw [h1, sumI_swap]
  have h2 : (sumI n fun z => sumI n fun x => a z * (if f x y then muF n f z x else 0)) = sumI n fun z => if z = y then a y else 0 := sumI_congr fun z hz => by
    rw [sumI_mul, mu_delta ho hz hy]
    split
    · rename_i e; rw [e, Int.mul_one]
    · rw [Int.mul_zero]
  rw [h2, sumI_one (k := y) hy fun i _ hne => if_neg hne, if_pos rfl]
/-- What is summed is its sum less what is strictly below. -/
theorem smP_split (a : Nat → Int) {y : Nat} (hy : y < n) : smP f a y n = a y + sumI n fun x => if blw f x y then a x else 0 := by
  have h2 : (sumI n fun x => if x = y then a y else 0) = a y := by
    rw [sumI_one (k := y) hy fun i _ hne => if_neg hne, if_pos rfl]
  have h3 : smP f a y n = (sumI n fun x => if x = y then a y else 0) + sumI n fun x => if blw f x y then a x else 0 := by
    unfold smP
    rw [← sumI_add]
    refine sumI_congr fun x hx => ?_
    unfold blw
    by_cases e : x = y
    · subst e; rw [if_pos (ho.refl hx), if_pos rfl, decide_eq_false (fun h => h rfl), Bool.false_and, if_neg (by simp), Int.add_zero]
    · rw [if_neg e, decide_eq_true e, Bool.true_and, Int.zero_add]
  rw [h3, h2]
/-- Sums tell what was summed. -/
theorem sum_inj {a b : Nat → Int} (h : ∀ y, y < n → smP f a y n = smP f b y n) : ∀ (c : Nat) {y : Nat}, y < n → cntD n f y ≤ c → a y = b y
  | 0, y, hy, hc => absurd (cntD_pos ho hy) (by omega)
  | c + 1, y, hy, hc => by
    have h1 := h y hy
    rw [smP_split ho a hy, smP_split ho b hy] at h1
    have h2 : (sumI n fun x => if blw f x y then a x else 0) = sumI n fun x => if blw f x y then b x else 0 := sumI_congr fun x hx => by
      cases hb : blw f x y
      · rfl
      · obtain ⟨h3, h4⟩ := blw_iff.1 hb
        have := cntD_lt ho hx hy h4 h3
        rw [if_pos rfl, if_pos rfl]
        exact sum_inj h c hx (by omega)
    omega
/-- A difference is what there is less the differences below. -/
theorem dfP_rec (a : Nat → Int) {y : Nat} (hy : y < n) : dfP n f a y n = a y - sumI n fun x => if blw f x y then dfP n f a x n else 0 := by
  have h1 := sum_diff ho a hy
  rw [smP_split ho _ hy] at h1
  omega
/-- The numbers of Moebius, by what they sum to. -/
theorem mu_uniq {b : Nat → Int} {z : Nat} (hz : z < n) (h : ∀ y, y < n → smP f b y n = if z = y then 1 else 0) {y : Nat} (hy : y < n) : b y = muF n f z y :=
  sum_inj ho (a := b) (b := muF n f z) (fun t ht => by rw [h t ht]; exact (mu_delta ho hz ht).symm) _ hy (Nat.le_refl _)
/-- Of at most nine elements, they are small. -/
theorem mu9 (hn : n ≤ 9) {x y : Nat} (hx : x < n) (hy : y < n) : -1000000000 ≤ muF n f x y ∧ muF n f x y ≤ 1000000000 := by
  have h1 := cntD_le n f y
  have h2 : muF n f x y = muA n f 9 x y := muA_stable ho (n + 1) 9 hx hy (by omega) (by omega)
  have h3 := muA_bound (n := n) (f := f) 9 x y
  have h4 : (n + 1) ^ 9 ≤ 10 ^ 9 := Nat.pow_le_pow_left (by omega) _
  rw [h2]
  omega
end
end Go.X
namespace Go.X
/-- How many chains of 'k' steps lead from 'x' to an element. -/
def chN (n : Nat) (f : Nat → Nat → Bool) (x : Nat) : Nat → Nat → Int
  | 0, y => if y = x then 1 else 0
  | k + 1, y => sumI n fun z => if blw f z y then chN n f x k z else 0
/-- Sums with signs by turns. -/
def altS (g : Nat → Int) (K : Nat) : Int := sumI K fun k => if k % 2 = 0 then g k else -g k
theorem altS_succ (g : Nat → Int) (K : Nat) : altS g (K + 1) = if K % 2 = 0 then altS g K + g K else altS g K - g K := by
  unfold altS; rw [sumI]; split <;> omega
theorem altS_tele (g : Nat → Int) : ∀ K, altS g K + altS (fun k => g (k + 1)) K = g 0 - if K % 2 = 0 then g K else -g K
  | 0 => by simp [altS, sumI]
  | K + 1 => by
    have ih := altS_tele g K
    rw [altS_succ, altS_succ]
    rcases Nat.mod_two_eq_zero_or_one K with h | h
    · rw [if_pos h] at ih
      rw [if_pos h, if_pos h, if_neg (by omega)]
      omega
    · rw [if_neg (by omega)] at ih
      rw [if_neg (by omega), if_neg (by omega), if_pos (by omega)]
      omega
theorem altS_sum (m : Nat) (g : Nat → Nat → Int) (K : Nat) : sumI m (fun z => altS (g z) K) = altS (fun k => sumI m fun z => g z k) K := by
  unfold altS
  rw [sumI_swap]
  refine sumI_congr fun k hk => ?_
  split
  · rfl
  · exact sumI_neg _ _
section
variable {n : Nat} {f : Nat → Nat → Bool} {x : Nat} (ho : IsO n f) (hx : x < n)
include ho
theorem chN_end : ∀ (k : Nat) {y : Nat}, y < n → cntD n f y ≤ k → chN n f x k y = 0
  | 0, y, hy, h => absurd (cntD_pos ho hy) (by omega)
  | k + 1, y, hy, h => sumI_zero fun z hz => by
    cases hb : blw f z y
    · rfl
    · obtain ⟨h1, h2⟩ := blw_iff.1 hb
      have := cntD_lt ho hz hy h2 h1
      rw [if_pos rfl]
      exact chN_end k hz (by omega)
include hx
/-- Hall: of the chains from one element to another one, those with an even number of steps less those with an odd one. -/
theorem hall {K y : Nat} (hK : n ≤ K) (hy : y < n) : altS (fun k => chN n f x k y) K = muF n f x y := by
  refine mu_uniq ho (b := fun y => altS (fun k => chN n f x k y) K) hx (fun t ht => ?_) hy
  rw [smP_split ho _ ht]
  have h1 : (sumI n fun z => if blw f z t then altS (fun k => chN n f x k z) K else 0) = altS (fun k => chN n f x (k + 1) t) K := by
    rw [show (fun z => if blw f z t then altS (fun k => chN n f x k z) K else 0) = fun z => altS (fun k => if blw f z t then chN n f x k z else 0) K from funext fun z => by
      cases blw f z t
      · rw [if_neg (by simp)]; exact (sumI_zero fun k _ => by simp).symm
      · rfl, altS_sum]
    rfl
  have h2 := altS_tele (fun k => chN n f x k t) K
  have h3 : chN n f x K t = 0 := chN_end ho K ht (by have := cntD_le n f t; omega)
  rw [h1, h2, h3]
  show (if t = x then (1 : Int) else 0) - (if K % 2 = 0 then 0 else -0) = if x = t then 1 else 0
  by_cases e : t = x
  · rw [if_pos e, if_pos e.symm]; split <;> rfl
  · rw [if_neg e, if_neg (Ne.symm e)]; split <;> rfl
end
theorem chN_bound {n : Nat} {f : Nat → Nat → Bool} {x : Nat} (hn : n ≤ 12) : ∀ (k : Nat) (y : Nat), 0 ≤ chN n f x k y ∧ chN n f x k y ≤ ((12 ^ k : Nat) : Int)
  | 0, y => by unfold chN; split <;> simp
  | k + 1, y => by
    have hp : ((0 : Nat) : Int) < ((12 ^ k : Nat) : Int) := by have : 0 < 12 ^ k := Nat.pow_pos (by omega); omega
    have hpos : ∀ (m : Nat) (g : Nat → Int), (∀ i, i < m → 0 ≤ g i) → 0 ≤ sumI m g := by
      intro m
      induction m with
      | zero => intro g _; exact Int.le_refl _
      | succ m ih => intro g hg; unfold sumI; have := ih g (fun i hi => hg i (by omega)); have := hg m (by omega); omega
    have h1 : ∀ z, z < n → 0 ≤ (if blw f z y then chN n f x k z else 0) ∧ (if blw f z y then chN n f x k z else 0) ≤ ((12 ^ k : Nat) : Int) := fun z _ => by
      have := chN_bound (f := f) (x := x) hn k z
      split
      · exact this
      · omega
    unfold chN
    refine ⟨hpos n _ fun i hi => (h1 i hi).1, ?_⟩
    have h2 := (sumI_bound (B := ((12 ^ k : Nat) : Int)) (by omega) (n := n) (g := fun z => if blw f z y then chN n f x k z else 0) fun i hi => ⟨by have := (h1 i hi).1; omega, (h1 i hi).2⟩).2
    refine Int.le_trans h2 ?_
    rw [Nat.pow_succ, Nat.mul_comm, Int.natCast_mul]
    exact Int.mul_le_mul_of_nonneg_right (by omega) (by omega)
end Go.X
namespace Go.X
theorem sumI_split (a : Nat) (g : Nat → Int) : ∀ b, sumI (a + b) g = sumI a g + sumI b fun i => g (a + i)
  | 0 => by simp [sumI]
  | b + 1 => by rw [← Nat.add_assoc, sumI, sumI_split a g b, sumI]; omega
section
variable {n : Nat} {f : Nat → Nat → Bool} {lo : Nat} {al : List Int}
variable (ho : IsO n f) (hg : noGap n f) (hlo : lo < n) (hal : ∀ i, i < al.length → (gt al i).toNat < n)
include ho hg hlo hal
end
end Go.X
namespace Go.X
/-- All cells of the type 'T' but those of one block are as they were. -/
def TkO (T : Nat) (o : Option Nat) (h h' : Heap) : Prop := h.size ≤ h'.size ∧ ∀ (b : Nat) (c : Array Value) (f : Nat × Nat), o ≠ some b → h[b]? = some (.cells c T f) → h'[b]? = some (.cells c T f)
theorem TkO.refl (T : Nat) (o : Option Nat) (h : Heap) : TkO T o h h := ⟨Nat.le_refl _, fun _ _ _ _ hb => hb⟩
theorem TkO.trans {T : Nat} {o : Option Nat} {a b c : Heap} (h : TkO T o a b) (k : TkO T o b c) : TkO T o a c := ⟨Nat.le_trans h.1 k.1, fun i x f ho hb => k.2 i x f ho (h.2 i x f ho hb)⟩
theorem TkO.of_tk {T : Nat} {o : Option Nat} {h h' : Heap} (hx : Tk T h h') : TkO T o h h' := ⟨hx.1, fun b c f _ hb => hx.2.1 b c f hb⟩
theorem TkO.of_chg {T : Nat} {h h' : Heap} {v : Value} (hx : Chg v h h') : TkO T v.ownBlock h h' :=
  ⟨hx.size, fun b c f ho hb => (hx.block b (Array.getElem?_eq_some_iff.1 hb).1 (Ne.symm ho)).trans hb⟩
/-- A slice of another block reads on. -/
theorem TkO.owE {α : Type} {E : Enc α} {T : Nat} {o : Option Nat} {h h' : Heap} (hx : TkO T o h h') {v : Value} {B : Nat} {xs : List α} (ho : OwE E h B T v xs) (hne : ∀ g, v.ownBlock = some g → o ≠ some g) : OwE E h' B T v xs := by
  refine ⟨ho.1, ?_⟩
  rcases ho.2 with h1 | ⟨g, cap, cur, rfl, hB, hg, r⟩
  · exact .inl h1
  · exact .inr ⟨g, cap, cur, rfl, hB, hx.2 g _ _ (hne g rfl) hg, r⟩
theorem Ext.of_chgN {N : Nat} {h h' : Heap} {v : Value} (hx : Chg v h h') (hN : ∀ g, v.ownBlock = some g → N ≤ g) (hs : N ≤ h.size) : Ext N h h' := ⟨hx.size, fun b hb => hx.block b (Nat.lt_of_lt_of_le hb hs) (fun e => by have := hN b e.symm; omega)⟩
/-- The rounds' word: 'o' is the block of the body's own slice. -/
def YieldsO (P : Program) (l T : Nat) (args : Nat → List Value) (N : Nat) (J : Nat → Option Nat → Heap → Prop) : Prop :=
  ∀ k o h1, k < N → J k o h1 → YieldOk P l (args k) h1 fun h2 => ∃ o', TkO T o h1 h2 ∧ (∀ b, o' = some b → o = some b ∨ h1.size ≤ b) ∧ J (k + 1) o' h2
/-- A function that is ranged over, which keeps slices of the type 'T' of its own and turns nothing that was there at a round's end. -/
def SeqO (P : Program) (gf : Nat) (lb : List Value) (T : Nat) (Cap : Heap → Prop) (N : Nat) (args : Nat → List Value) : Prop :=
  ∀ (l : Nat) (h : Heap) (J : Nat → Option Nat → Heap → Prop), (∀ k o h1 h2, J k o h1 → Ext h1.size h1 h2 → J k o h2) → (∀ k o h1, J k o h1 → Cap h1) → (∀ k o h1, J k o h1 → ∀ b, o = some b → b < h1.size) →
    YieldsO P l T args N J → J 0 none h → Fx P gf (.func (.yield l) #[] #[] :: lb) h fun _ h' => h.size ≤ h'.size ∧ ∃ o, J N o h'
end Go.X
namespace Go.X
/-! ### The completion -/
section
variable {n : Nat} {f : Nat → Nat → Bool}
end
/-! ### Fixed elements -/
section
variable {n : Nat} {f : Nat → Nat → Bool} {g : Nat → Nat} (ho : IsO n f) (hg : noGap n f) (hn : 1 ≤ n) (hr : ∀ x, x < n → g x < n) (hm : ∀ x y, x < n → y < n → f x y = true → f (g x) (g y) = true)
include ho hg hn hr hm
end
end Go.X
