/-
  Slices and variables that lie apart; cuts; loads that are free in a class of heaps; structs of two numbers.
-/
import Derived.Test.YtdokijbdnajhgaaXCells
set_option linter.unusedSimpArgs false
set_option linter.unusedVariables false
namespace Go.X
def Dj (v w : Value) : Prop := ∀ g, v.ownBlock = some g → w.ownBlock ≠ some g
section
variable {α β : Type} {E : Enc α} {E' : Enc β} {h h' : Heap} {B : Nat} {e e' : TypeId} {v w w' : Value} {xs : List α} {ys : List β} {bn : Nat} {cs : Array Value} {t : TypeId}
theorem Dj.symm (h : Dj v w) : Dj w v := fun g h1 h2 => h g h2 h1
theorem dj_nil_r (v : Value) : Dj v (.slice none 0 0) := fun g _ h2 => by cases h2
theorem dj_nil_l (v : Value) : Dj (.slice none 0 0) v := fun g h1 _ => by cases h1
theorem dj_new (ho : OwE E h B e v xs) (hn : OwE E' h' h.size e' w ys) : Dj v w := fun g h1 h2 => by
  have a := (ho.lt h1).2
  have b := (hn.lt h2).1
  omega
theorem dj_app (h0 : Dj v w) (ho : OwE E h B e v xs) (hg : ∀ g, w'.ownBlock = some g → w.ownBlock = some g ∨ h.size ≤ g) : Dj v w' := fun g h1 h2 => by
  rcases hg g h2 with h3 | h3
  · exact h0 g h1 h3
  · have a := (ho.lt h1).2; omega
theorem dj_eq (h0 : Dj v w) (he : w'.ownBlock = w.ownBlock) : Dj v w' := fun g h1 h2 => h0 g h1 (he ▸ h2)
theorem nb_new (hb : Blk h bn cs t) (hn : OwE E' h' h.size e' w ys) : w.ownBlock ≠ some bn := fun h2 => by
  have a := hb.lt
  have b := (hn.lt h2).1
  omega
theorem nb_app (h0 : w.ownBlock ≠ some bn) (hb : Blk h bn cs t) (hg : ∀ g, w'.ownBlock = some g → w.ownBlock = some g ∨ h.size ≤ g) : w'.ownBlock ≠ some bn := fun h2 => by
  rcases hg bn h2 with h3 | h3
  · exact h0 h3
  · have a := hb.lt; omega
theorem ChgB.owE (hx : ChgB bn h h') (ho : OwE E h B e v xs) (hne : v.ownBlock ≠ some bn) : OwE E h' B e v xs := hx.own ho hne
theorem nb_nil (bn : Nat) : (Value.slice none 0 0).ownBlock ≠ some bn := fun h => by cases h
theorem nb_eq (h0 : w.ownBlock ≠ some bn) (he : w'.ownBlock = w.ownBlock) : w'.ownBlock ≠ some bn := by rw [he]; exact h0
end
section
variable {M : Mo} {P : Program} {n : Nat} {k : List Item} {R : Option Code → Env → Heap → Prop} {e : Env} {h : Heap}
/-- A cut behind one item; the item's own environment begins anew. -/
theorem wi_cutE {σ : Type} {it : Item} (W : Nat → Bool) (Ls : σ → List (Nat × Value)) (I : σ → Heap → Prop)
    (hw : (∀ (e' : Env) (h' : Heap) (s : σ), Agree W e e' → Has e' (Ls s) → I s h' → WpI M P n k R e' h') → WpI M P n (it :: k) R (ups [] e) h)
    (hk : ∀ (g : Env) (s : σ) (hh : Heap), I s hh → WpI M P n k R (ups (Ls s) (mixE W g e)) hh) : WpI M P n (it :: k) R e h :=
  wi_cut W Ls I hw hk
end
section
variable {P : Program} {S : Heap → Prop} {kd : Oper → Kd} {ops : Array Oper} {rest : List Oper} {K : Env → Heap → Prop} {L : List (Nat × Value)} {b : Env} {h : Heap}
variable {d : Nat} {t tx ty el : TypeId} {p : String} {af : Array Edge} {g : Option (Nat × Bool)} {x y : Operand} {a0 a1 b0 b1 : Int}
variable {α : Type} {E : Enc α} {v : Value} {xs : List α}
/-- A part of an element is read, in any heap of the class. -/
theorem lx_ldF [Inhabited α] {i j : Nat} (u : Value) (hw : Region.wanted ⟨some d, .load t x, ty, p, af, g⟩ (yieldE ops (ups L b)) = true) (hf : Flat P t) (hr : ∀ h', S h' → RdE E h' v xs) (hi : i < xs.length) (hj : (E.f (gt xs i))[j]? = some u) (hx : ev (ups L b) x = ptrAt v (i * E.k + j))
    (hn : Lx P S kd ops rest K (ups ((d, u) :: L) b) h) : Lx P S kd ops (⟨some d, .load t x, ty, p, af, g⟩ :: rest) K (ups L b) h :=
  lx_free u hw (fun w hh => by
    have hjk : j < E.k := by have := (List.getElem?_eq_some_iff.1 hj).1; rwa [E.len] at this
    obtain ⟨a, cap, rfl, _, _, h3⟩ := hr _ hh
    obtain ⟨ad, rfl, hc⟩ := h3 (i * E.k + j) u (by rw [flat_get E xs i j hi hjk]; exact hj)
    simp [execOp, hx, Instr.loadAt, Instr.sureAddr, ptrAt, run_load_flat hf hc]) hn
/-- A cell of a variable is read, in any heap of the class. -/
theorem lx_ldBF {bn o : Nat} {cs : Array Value} {te : TypeId} (u : Value) (hw : Region.wanted ⟨some d, .load t x, ty, p, af, g⟩ (yieldE ops (ups L b)) = true) (hf : Flat P t) (hb : ∀ h', S h' → Blk h' bn cs te) (hj : cs[o]? = some u) (hx : ev (ups L b) x = .pointer (some ⟨bn, o, none⟩))
    (hn : Lx P S kd ops rest K (ups ((d, u) :: L) b) h) : Lx P S kd ops (⟨some d, .load t x, ty, p, af, g⟩ :: rest) K (ups L b) h :=
  lx_free u hw (fun w hh => by
    have hc := (hb _ hh).cell o
    rw [hj] at hc
    simp [execOp, hx, Instr.loadAt, Instr.sureAddr, run_load_flat hf hc]) hn
end
end Go.X
