/-
  Regions that draw their order: one walk in the order of the text serves every order, if the Bool 'okB' says that operations which are not ordered may change places.
-/
import Derived.Test.YtdokijbdnajhgaaXCoreA
set_option linter.unusedSimpArgs false
set_option linter.unusedVariables false
namespace Go.X

section
variable {P : Program} {S : Heap → Prop} {kd : Oper → Kd} {ops : Array Oper}

def someWorld (h : Heap) : World := { heap := h, tape := fun _ _ => 0, drawn := 0, os := default, output := #[] }

theorem effUpon_exists {w : World} {K : Value → Heap → Prop} {r : Result Next} (hr : effUpon P S w K r) : ∃ v h', S h' ∧ K v h' := by
  cases r with
  | halt x w' => exact hr.elim
  | ok n w' =>
    cases n <;> simp only [effUpon] at hr
    case value v => exact ⟨v, _, hr.2.1, hr.2.2⟩
    case skip => exact ⟨_, _, hr.2.1, hr.2.2⟩
    case enter f args =>
      obtain ⟨x, w'', fr, ⟨v, _, _, hs, hk⟩, _⟩ := hr.2 []
      exact ⟨v, _, hs, hk⟩
    case round l f tmps assign body =>
      obtain ⟨x, w'', ⟨v, _, _, hs, hk⟩, _⟩ := hr.2.2 default [] (room_wide _)
      exact ⟨v, _, hs, hk⟩

theorem ob_exists {k : Kd} {o : Oper} {e : Env} {h : Heap} {K : Value → Heap → Prop} (hS : S h) (ho : Ob P S k o e h K) : ∃ v h', S h' ∧ K v h' := by
  cases k with
  | free => obtain ⟨v, _, hk⟩ := ho; exact ⟨v, h, hS, hk⟩
  | read => obtain ⟨v, _, hk⟩ := ho hS; exact ⟨v, h, hS, hk⟩
  | new => exact effUpon_exists (P := P) (eff_of_new (ho hS (someWorld h) rfl))
  | eff => exact effUpon_exists (ho hS (someWorld h) rfl)

theorem obAt_exists {i : Nat} {K : Env → Heap → Prop} {e : Env} {h : Heap} (hS : S h) (ho : obAt P S kd ops i K e h) : ∃ e' h', S h' ∧ K e' h' := by
  unfold obAt at ho
  split at ho
  · exact ⟨e, h, hS, ho⟩
  · split at ho
    · obtain ⟨v, h', hs, hk⟩ := ob_exists hS ho; exact ⟨_, h', hs, hk⟩
    · exact ⟨_, h, hS, ho⟩

theorem obAt_mono {i : Nat} {K K' : Env → Heap → Prop} {e : Env} {h : Heap} (hS : S h) (hm : ∀ e h', S h' → K e h' → K' e h') (ho : obAt P S kd ops i K e h) : obAt P S kd ops i K' e h := by
  unfold obAt at *
  split
  · rename_i hn; simp only [hn] at ho; exact hm _ _ hS ho
  · rename_i o hn
    simp only [hn] at ho
    split
    · rename_i hw; simp only [hw, if_true] at ho; exact ob_mono hS (fun v h' hs hk => hm _ _ hs hk) ho
    · rename_i hw; simp only [hw] at ho; exact hm _ _ hS ho

/-- In this environment the operation leaves 'v', whatever the heap of the class. -/
def FreeAt (P : Program) (S : Heap → Prop) (ops : Array Oper) (o : Oper) (e : Env) (v : Value) : Prop :=
  (Region.wanted o (yieldE ops e) = true ∧ FreeOb P S o e v) ∨ (Region.wanted o (yieldE ops e) = false ∧ v = undef)

theorem FreeAt.of_same {o : Oper} {e e' : Env} {v : Value} (hf : FreeAt P S ops o e v) (he : execOp (ev e') o = execOp (ev e) o)
    (hw : Region.wanted o (yieldE ops e') = Region.wanted o (yieldE ops e)) : FreeAt P S ops o e' v := by
  unfold FreeAt FreeOb at *
  rw [he, hw]
  exact hf

theorem FreeAt.det {o : Oper} {e : Env} {v v' : Value} {h : Heap} (hS : S h) (hf : FreeAt P S ops o e v) (hf' : FreeAt P S ops o e v') : v = v' := by
  rcases hf with ⟨hw, h1⟩ | ⟨hw, h1⟩ <;> rcases hf' with ⟨hw', h2⟩ | ⟨hw', h2⟩
  · have a := h1 (someWorld h) hS
    have b := h2 (someWorld h) hS
    rw [a] at b
    injection b with b _
    injection b
  · rw [hw] at hw'; cases hw'
  · rw [hw] at hw'; cases hw'
  · rw [h1, h2]

theorem FreeAt.obAt {i : Nat} {o : Oper} {e : Env} {v : Value} {h : Heap} {K : Env → Heap → Prop} (hi : ops[i]? = some o) (hf : FreeAt P S ops o e v) (hK : K (putE e o.dst v) h) : obAt P S kd ops i K e h := by
  unfold X.obAt
  simp only [hi]
  rcases hf with ⟨hw, h1⟩ | ⟨hw, rfl⟩
  · simp only [hw, if_true]; exact ob_of_free v h1 hK
  · simp only [hw, Bool.false_eq_true, if_false]; exact hK

theorem freeAt_of_obAt {i : Nat} {o : Oper} {e : Env} {h : Heap} {K : Env → Heap → Prop} (hi : ops[i]? = some o) (hk : kd o = .free ∨ Region.wanted o (yieldE ops e) = false)
    (ho : obAt P S kd ops i K e h) : ∃ v, FreeAt P S ops o e v ∧ K (putE e o.dst v) h := by
  unfold obAt at ho
  simp only [hi] at ho
  by_cases hw : Region.wanted o (yieldE ops e) = true
  · have hk' := hk.resolve_right (by rw [hw]; simp)
    simp only [hw, if_true, hk', Ob] at ho
    obtain ⟨v, hv, hK⟩ := ho
    exact ⟨v, .inl ⟨hw, hv⟩, hK⟩
  · simp only [hw] at ho
    exact ⟨undef, .inr ⟨by simpa using hw, rfl⟩, ho⟩

theorem ob_same {k : Kd} {o : Oper} {e e' : Env} {h : Heap} {K : Value → Heap → Prop} (he : execOp (ev e') o = execOp (ev e) o) (ho : Ob P S k o e h K) : Ob P S k o e' h K := by
  cases k <;> simp only [Ob, FreeOb, ReadOb, NewOb, EffOb, he] at ho ⊢ <;> exact ho

/-- An operation 'oj' that is apart from a free 'oi' may come first. -/
theorem obAt_unput {j : Nat} {oi oj : Oper} {v : Value} {K : Env → Heap → Prop} {e : Env} {h : Heap} (hj : ops[j]? = some oj) (hap : oi.apart ops oj = true)
    (hsi : ∀ cs b, oi.op ≠ .select cs b) (hsj : ∀ cs b, oj.op ≠ .select cs b) (hS : S h) (hf : FreeAt P S ops oi e v) (ho : obAt P S kd ops j K (putE e oi.dst v) h) :
    obAt P S kd ops j (fun e' h' => FreeAt P S ops oi e' v ∧ K (putE e' oi.dst v) h') e h := by
  obtain ⟨h1, h2, h3⟩ := Oper.apart_spec hap
  have keep : ∀ u, FreeAt P S ops oi (putE e oj.dst u) v := fun u => hf.of_same (execOp_putE oi hsi e oj.dst u h3) (wanted_putE oi e oj.dst u h3)
  unfold obAt at *
  simp only [hj] at *
  rw [wanted_putE oj e oi.dst v h1] at ho
  split
  · rename_i hw
    simp only [hw, if_true] at ho
    refine ob_mono hS ?_ (ob_same (execOp_putE oj hsj e oi.dst v h1).symm ho)
    intro u h' _ hk
    exact ⟨keep u, by rw [← putE_comm e v u h2]; exact hk⟩
  · rename_i hw
    simp only [hw] at ho
    exact ⟨keep _, by rw [← putE_comm e v undef h2]; exact ho⟩

theorem ready_listed {listed : Array Bool} {i j : Nat} (hc : Closed ops listed) (hi : i ∈ Region.ready .any ops listed) (hj : j ∈ Region.ready .any ops listed) (F : Nat) : beforeB ops F i j ≠ true := by
  intro hb
  obtain ⟨_, oj, hoj, hall⟩ := mem_ready.1 hj
  have h1 := before_listed hc F i j oj hoj hall hb
  have h0 := (mem_ready.1 hi).1
  rcases Nat.lt_or_ge i listed.size with h' | h'
  · simp [h'] at h0 h1; rw [h0] at h1; cases h1
  · simp [Array.getElem?_eq_none h'] at h1

theorem comm_cases {x y : Oper} (h : commB kd x y = true) : kd x = .free ∨ kd y = .free ∨ (kd x = .read ∧ (kd y = .read ∨ kd y = .new)) := by
  unfold commB at h
  cases hx : kd x <;> cases hy : kd y <;> simp_all

theorem anyX_first {K : Env → Heap → Prop} {i : Nat} {oi : Oper} (F : Nat) (hi : ops[i]? = some oi) (hsel : ∀ (j : Nat) (o : Oper) cs b, ops[j]? = some o → o.op ≠ .select cs b) :
    ∀ (fuel : Nat) (listed : Array Bool) (e : Env) (h : Heap),
      (∀ j oj, ops[j]? = some oj → j ≠ i → listed.getD j true = false → beforeB ops F i j = true ∨ (oi.apart ops oj = true ∧ commB kd oi oj = true)) →
      Closed ops listed → i ∈ Region.ready .any ops listed → S h →
      obAt P S kd ops i (anyX P S kd ops K fuel (listed.setIfInBounds i true)) e h → anyX P S kd ops K (fuel + 1) listed e h := by
  intro fuel
  induction fuel with
  | zero =>
    intro listed e h _ _ hr hS H
    refine ⟨fun h0 => (by rw [h0] at hr; cases hr), fun j hj => ?_⟩
    by_cases hji : j = i
    · subst hji; exact H
    · obtain ⟨_, _, _, H'⟩ := obAt_exists hS H
      have := ready_mono hj hji
      rw [H'.1] at this
      cases this
  | succ fuel ih =>
    intro listed e h hfree hc hr hS H
    refine ⟨fun h0 => (by rw [h0] at hr; cases hr), fun j hj => ?_⟩
    by_cases hji : j = i
    · subst hji; exact H
    obtain ⟨hjun, oj, hoj, _⟩ := mem_ready.1 hj
    obtain ⟨hap, hcm⟩ := (hfree j oj hoj hji hjun).resolve_left (ready_listed hc hr hj F)
    have hsi := fun cs b => hsel i oi cs b hi
    have hsj := fun cs b => hsel j oj cs b hoj
    obtain ⟨h1, h2, h3⟩ := Oper.apart_spec hap
    have hrj := ready_mono hj hji
    have hri : i ∈ Region.ready .any ops (listed.setIfInBounds j true) := ready_mono hr (Ne.symm hji)
    have hcj := hc.set hj
    have hfree' : ∀ k ok, ops[k]? = some ok → k ≠ i → (listed.setIfInBounds j true).getD k true = false → beforeB ops F i k = true ∨ (oi.apart ops ok = true ∧ commB kd oi ok = true) := fun k ok hk hki hun => by
      refine hfree k ok hk hki ?_
      by_cases hjk : j = k
      · subst hjk; exact hjun
      · rw [getD_set_ne true hjk] at hun; exact hun
    have hcomm : (listed.setIfInBounds i true).setIfInBounds j true = (listed.setIfInBounds j true).setIfInBounds i true := Array.setIfInBounds_comm _ _ (Ne.symm hji)
    by_cases hA : kd oi = .free ∨ Region.wanted oi (yieldE ops e) = false
    · obtain ⟨v, hv, hK⟩ := freeAt_of_obAt hi hA H
      have h4 := obAt_unput hoj hap hsi hsj hS hv (hK.2 j hrj)
      refine obAt_mono hS (fun e' h' hs' h5 => ih _ e' h' hfree' hcj hri hs' ?_) h4
      rw [← hcomm]
      exact h5.1.obAt hi h5.2
    have hwi : Region.wanted oi (yieldE ops e) = true := by
      cases hw : Region.wanted oi (yieldE ops e) with
      | true => rfl
      | false => exact absurd (Or.inr hw) hA
    have hni : kd oi ≠ .free := fun hx => hA (.inl hx)
    have H0 : Ob P S (kd oi) oi e h (fun v h' => anyX P S kd ops K (fuel + 1) (listed.setIfInBounds i true) (putE e oi.dst v) h') := by
      unfold obAt at H
      simp only [hi, hwi, if_true] at H
      exact H
    by_cases hB : kd oj = .free ∨ Region.wanted oj (yieldE ops e) = false
    · -- 'oj' is free: its value does not hang on where it stands
      have hwj : ∀ v, Region.wanted oj (yieldE ops (putE e oi.dst v)) = Region.wanted oj (yieldE ops e) := fun v => wanted_putE oj e oi.dst v h1
      obtain ⟨v0, h0, hs0, H1⟩ := ob_exists hS H0
      obtain ⟨vj, hvj, _⟩ := freeAt_of_obAt hoj (hB.imp id (fun hx => by rw [hwj]; exact hx)) (H1.2 j hrj)
      have hvj' : FreeAt P S ops oj e vj := hvj.of_same (execOp_putE oj hsj e oi.dst v0 h1).symm (hwj v0).symm
      refine hvj'.obAt hoj (ih _ _ h hfree' hcj hri hS ?_)
      unfold obAt
      simp only [hi, wanted_putE oi e oj.dst vj h3, hwi, if_true]
      refine ob_mono hS ?_ (ob_same (execOp_putE oi hsi e oj.dst vj h3) H0)
      intro v h' hs' hk
      obtain ⟨v', hv', hK'⟩ := freeAt_of_obAt hoj (hB.imp id (fun hx => by rw [hwj]; exact hx)) (hk.2 j hrj)
      have : vj = v' := FreeAt.det hs' (hvj'.of_same (execOp_putE oj hsj e oi.dst v h1) (hwj v)) hv'
      subst this
      rw [← hcomm, ← putE_comm e v vj h2]
      exact hK'
    · have hnj : kd oj ≠ .free := fun hx => hB (.inl hx)
      have hwj : Region.wanted oj (yieldE ops e) = true := by
        cases hw : Region.wanted oj (yieldE ops e) with
        | true => rfl
        | false => exact absurd (Or.inr hw) hB
      obtain ⟨hki, hkj⟩ : kd oi = .read ∧ (kd oj = .read ∨ kd oj = .new) := by
        rcases comm_cases hcm with hx | hx | hx
        · exact absurd hx hni
        · exact absurd hx hnj
        · exact hx
      rw [hki] at H0
      obtain ⟨vi, hvi, hK⟩ := H0 hS
      have H2 := hK.2 j hrj
      unfold obAt at H2
      rcases hkj with hkj | hkj
      rotate_left
      · simp only [hoj, wanted_putE oj e oi.dst vi h1, hwj, if_true, hkj] at H2
        have H3 := H2 hS
        unfold obAt
        simp only [hoj, hwj, if_true, hkj]
        intro _ w hw
        have H4 := H3 w hw
        rw [execOp_putE oj hsj e oi.dst vi h1] at H4
        refine newUpon_mono (fun vj h' hs' hg hk => ih _ _ h' hfree' hcj hri hs' ?_) H4
        unfold obAt
        simp only [hi, wanted_putE oi e oj.dst vj h3, hwi, if_true, hki]
        intro _
        refine ⟨vi, fun w2 hs2 hg2 => by rw [execOp_putE oi hsi e oj.dst vj h3]; exact hvi w2 hs2 (Grow.trans (by rw [← hw]; exact hg) hg2), ?_⟩
        dsimp only
        rw [← hcomm, ← putE_comm e vi vj h2]
        exact hk
      simp only [hoj, wanted_putE oj e oi.dst vi h1, hwj, if_true, hkj] at H2
      obtain ⟨vj, hvj, hK2⟩ := H2 hS
      have hvj' : ReadOb P S oj e h vj := fun w hs hw => by have := hvj w hs hw; rwa [execOp_putE oj hsj e oi.dst vi h1] at this
      unfold obAt
      simp only [hoj, hwj, if_true, hkj]
      intro _
      refine ⟨vj, hvj', ih _ _ h hfree' hcj hri hS ?_⟩
      unfold obAt
      simp only [hi, wanted_putE oi e oj.dst vj h3, hwi, if_true, hki]
      intro _
      refine ⟨vi, fun w hs hw => by rw [execOp_putE oi hsi e oj.dst vj h3]; exact hvi w hs hw, ?_⟩
      dsimp only
      rw [← hcomm, ← putE_comm e vi vj h2]
      exact hK2

/-! ### The Bool -/

def okFrom (kd : Oper → Kd) (ops : Array Oper) (F : Nat) : Nat → Nat → Array Bool → Bool
  | 0, _, listed => (Region.ready .any ops listed).isEmpty
  | fuel + 1, k, listed =>
    (Region.ready .any ops listed).contains k &&
    ((List.range ops.size).all fun j => j == k || listed.getD j true || (match ops[k]?, ops[j]? with | some ok, some oj => ok.apart ops oj && commB kd ok oj | _, _ => false) || beforeB ops F k j) &&
    okFrom kd ops F fuel (k + 1) (listed.setIfInBounds k true)

def okB (kd : Oper → Kd) (ops : Array Oper) (F : Nat) : Bool := Region.noSelect ops && okFrom kd ops F ops.size 0 (Array.replicate ops.size false)

theorem anyX_lex {K : Env → Heap → Prop} (F : Nat) (hs : Region.noSelect ops = true) : ∀ (l : List Oper) (k : Nat) (listed : Array Bool) (e : Env) (h : Heap), (∀ j, l[j]? = ops[k + j]?) →
    okFrom kd ops F l.length k listed = true → Closed ops listed → S h → Lx P S kd ops l K e h → anyX P S kd ops K l.length listed e h
  | [], _, _, _, _, _, hB, _, _, h => ⟨by simpa [okFrom] using hB, h⟩
  | o :: l, k, listed, e, hh, hl, hB, hc, hS, h => by
    have h0 : ops[k]? = some o := by simpa using (hl 0).symm
    simp only [List.length_cons, okFrom, Bool.and_eq_true] at hB
    obtain ⟨⟨hr, hf⟩, hB'⟩ := hB
    have hr' : k ∈ Region.ready .any ops listed := by simpa using hr
    refine anyX_first F h0 (Region.noSelect_spec hs) l.length listed e hh ?_ hc hr' hS ?_
    · intro j oj hj hjk hun
      have hlt : j < ops.size := (Array.getElem?_eq_some_iff.1 hj).1
      have h1 := List.all_eq_true.1 hf j (List.mem_range.2 hlt)
      simp only [h0, hj, Bool.or_eq_true, beq_iff_eq, Bool.and_eq_true] at h1
      rcases h1 with ((h1 | h1) | h1) | h1
      · exact absurd h1 hjk
      · rw [hun] at h1; cases h1
      · exact .inr h1
      · exact .inl h1
    · have hst : obAt P S kd ops k (Lx P S kd ops l K) e hh := by unfold obAt; simp only [h0]; exact h
      refine obAt_mono hS (fun e' h' hs' h5 => anyX_lex F hs l (k + 1) _ e' h' (fun j => by have := hl (j + 1); simpa [Nat.add_assoc, Nat.add_comm 1 j] using this) hB' (hc.set hr') hs' h5) hst

theorem closed_start : Closed ops (Array.replicate ops.size false) := by
  intro j oj _ hl
  rcases Nat.lt_or_ge j ops.size with h | h <;> simp [h] at hl

end

section
variable {P : Program} {S : Heap → Prop} {kd : Oper → Kd} {ro : Option Nat} {ds : List Deferred}

/-- A region that draws its order, walked in the order of the text. -/
theorem wp_draw {id n : Nat} {l : List Oper} {Q : Exit → Act → World → Prop} {a : Act} {w : World} {e : Env} {K : Env → Heap → Prop} (hm : P.follows .mixedOrders = true)
    (hok : okB kd l.toArray l.length = true) (hb : boundsB n l = true) (hf : Fits n ds e a) (hS : S w.heap) (h : Lx P S kd l.toArray l K e w.heap)
    (hQ : ∀ e a' w', Fits n ds e a' → Qt w w' → K e w'.heap → Q .normal a' w') : (Code.region id l.toArray true).wpIn (Fc ro) 0 P Q a w := by
  simp only [okB, Bool.and_eq_true] at hok
  refine wpIn_region_any hm ?_
  have hx : anyX P S kd l.toArray K l.length (Array.replicate l.toArray.size false) e w.heap :=
    anyX_lex l.length hok.1 l 0 _ e w.heap (by simp) (by simpa using hok.2) closed_start hS h
  have := wpAny_of_anyX (ro := ro) (P := P) (S := S) hb (w0 := { w with drawn := w.drawn + 1 }) (Q := Q) (K := K)
    (fun e a' w' hf' hq hk => hQ e a' w' hf' ⟨hq.os, hq.tape, hq.output⟩ hk) l.length (Array.replicate l.toArray.size false) e a { w with drawn := w.drawn + 1 } hf (Qt.refl _) hS hx
  simpa using this

/-- A region in the order of the text. -/
theorem wpList_of_lx {n : Nat} {ops : List Oper} {Q : Exit → Act → World → Prop} {w0 : World} {K : Env → Heap → Prop}
    (hQ : ∀ e a' w', Fits n ds e a' → Qt w0 w' → K e w'.heap → Q .normal a' w') :
    ∀ (l : List Oper), (∀ o ∈ l, notDefer o = true ∧ ∀ d, o.dst = some d → d < n) → ∀ (e : Env) (a : Act) (w : World), Fits n ds e a → Qt w0 w → S w.heap → Lx P S kd ops.toArray l K e w.heap → wpListIn (Fc ro) 0 P ops.toArray Q l a w
  | [], _, e, a, w, hf, hq, _, h => hQ e a w hf hq h
  | o :: l, hb, e, a, w, hf, hq, hS, h => by
    obtain ⟨hnd, hd⟩ := hb o (List.mem_cons_self ..)
    have hb' : ∀ o ∈ l, notDefer o = true ∧ ∀ d, o.dst = some d → d < n := fun o' ho' => hb o' (List.mem_cons_of_mem _ ho')
    unfold Lx at h
    unfold wpListIn
    rw [hf.yielded]
    split
    · rename_i hw
      simp only [hw, if_true] at h
      exact (oper_wp hnd hS hf rfl h fun v w' hq' hs' hk => wpList_of_lx hQ l hb' _ _ w' (hf.put _ _ hd) (hq.trans hq') hs' hk)
    · rename_i hw
      simp only [hw] at h
      exact ⟨fun f _ => trivial, wpList_of_lx hQ l hb' _ _ w (hf.put _ _ hd) hq hS h⟩

theorem wp_plain {id n : Nat} {l : List Oper} {Q : Exit → Act → World → Prop} {a : Act} {w : World} {e : Env} {K : Env → Heap → Prop}
    (hb : boundsB n l = true) (hf : Fits n ds e a) (hS : S w.heap) (h : Lx P S kd l.toArray l K e w.heap)
    (hQ : ∀ e a' w', Fits n ds e a' → Qt w w' → K e w'.heap → Q .normal a' w') : (Code.region id l.toArray false).wpIn (Fc ro) 0 P Q a w := by
  refine wpIn_region_lit (wpList_of_lx hQ l ?_ e a w hf (Qt.refl _) hS h)
  intro o ho
  have := List.all_eq_true.1 hb o ho
  simp only [Bool.and_eq_true] at this
  refine ⟨this.1, fun d hd => ?_⟩
  have := this.2
  rw [hd] at this
  simpa [Nat.blt_eq] using this

end
end Go.X
