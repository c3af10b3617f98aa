/-
  Of any integer, any pairs and any map: the law OrderTarski returns true (the completion is a lattice, in which places stand as their elements do; a map of a lattice that keeps the order has fixed elements, which are a lattice), and nothing that was there turns.
  Conditions: none beyond the given statement's.
-/
import Derived.Test.YtdokijbdnajhgaaMTar7
import Derived.Ground.Names2Prog
import Derived.Shelf.Slices.SearchI
import Derived.Test.YtdokijbdnajhgaaProg
import Derived.Test.YtdokijbdnajhgaaRows
set_option linter.unusedSimpArgs false
set_option linter.unusedVariables false
namespace Go.Proofs.Ytdokijbdnajhgaa
open Go Go.X

def inbB (n : Nat) (xs : List Int) : Bool := (List.range xs.length).all fun i => decide (0 ≤ gt xs i ∧ gt xs i < n)
theorem inbB_iff {n : Nat} {xs : List Int} : inbB n xs = true ↔ ∀ i, i < xs.length → 0 ≤ gt xs i ∧ gt xs i < n := by
  unfold inbB
  rw [rall_iff]
  exact ⟨fun h i hi => of_decide_eq_true (h i hi), fun h i hi => decide_eq_true (h i hi)⟩
def monB (f : Nat → Nat → Bool) (xs : List Int) : Bool := (List.range xs.length).all fun x => (List.range xs.length).all fun y => !f x y || f (gt xs x).toNat (gt xs y).toNat
theorem monB_iff {f : Nat → Nat → Bool} {xs : List Int} : monB f xs = true ↔ ∀ x y, x < xs.length → y < xs.length → f x y = true → f (gt xs x).toNat (gt xs y).toNat = true := by
  unfold monB
  rw [rall_iff]
  constructor
  · intro h x y hx hy hf
    have := rall_iff.1 (h x hx) y hy
    rw [hf] at this; simpa using this
  · intro h x hx
    rw [rall_iff]
    intro y hy
    cases hf : f x y
    · rfl
    · rw [h x y hx hy hf]; rfl
/-- What is wrong with a map. -/
def mapE (n : Nat) (f : Nat → Nat → Bool) (xs : List Int) : Int := if xs.length = n then (if inbB n xs then (if monB f xs then 0 else 92) else 1) else 7
theorem mapE_len {n : Nat} {f : Nat → Nat → Bool} {xs : List Int} (h : xs.length ≠ n) : mapE n f xs = 7 := if_neg h
theorem mapE_rng {n : Nat} {f : Nat → Nat → Bool} {xs : List Int} (h : xs.length = n) {i : Nat} (hi : i < xs.length) (hn : ¬ (0 ≤ gt xs i ∧ gt xs i < n)) : mapE n f xs = 1 := by
  unfold mapE
  rw [if_pos h, if_neg fun h9 => hn (inbB_iff.1 h9 i hi)]
theorem mapE_mon {n : Nat} {f : Nat → Nat → Bool} {xs : List Int} (h : xs.length = n) (hr : ∀ i, i < xs.length → 0 ≤ gt xs i ∧ gt xs i < n) {x y : Nat} (hx : x < xs.length) (hy : y < xs.length) (hf : f x y = true) (hn : f (gt xs x).toNat (gt xs y).toNat = false) : mapE n f xs = 92 := by
  unfold mapE
  rw [if_pos h, if_pos (inbB_iff.2 hr), if_neg fun h9 => by have := monB_iff.1 h9 x y hx hy hf; rw [hn] at this; cases this]
theorem mapE_ok {n : Nat} {f : Nat → Nat → Bool} {xs : List Int} (h : xs.length = n) (hr : ∀ i, i < xs.length → 0 ≤ gt xs i ∧ gt xs i < n) (hm : ∀ x y, x < xs.length → y < xs.length → f x y = true → f (gt xs x).toNat (gt xs y).toNat = true) : mapE n f xs = 0 := by
  unfold mapE
  rw [if_pos h, if_pos (inbB_iff.2 hr), if_pos (monB_iff.2 hm)]
theorem mapE_zero {n : Nat} {f : Nat → Nat → Bool} {xs : List Int} (h : mapE n f xs = 0) : xs.length = n ∧ (∀ i, i < xs.length → 0 ≤ gt xs i ∧ gt xs i < n) ∧ ∀ x y, x < xs.length → y < xs.length → f x y = true → f (gt xs x).toNat (gt xs y).toNat = true := by
  unfold mapE at h
  by_cases h1 : xs.length = n
  · rw [if_pos h1] at h
    by_cases h2 : inbB n xs = true
    · rw [if_pos h2] at h
      by_cases h3 : monB f xs = true
      · exact ⟨h1, inbB_iff.1 h2, monB_iff.1 h3⟩
      · rw [if_neg h3] at h; omega
    · rw [if_neg h2] at h; omega
  · rw [if_neg h1] at h; omega
def fixE (p : List (List Bool)) (xs : List Int) : Int := if chkT p = 0 then mapE p.length (pb p) xs else chkT p
def fixB (xs : List Int) (x : Nat) : Bool := decide (gt xs x = (x : Int))
def fixF (xs : List Int) : List Int := filtF xs.length (fixB xs)

set_option maxRecDepth 10000 in
theorem rmap_spec (h : Heap) (vp : Value) (hs : List Hdr) (p : List (List Bool)) (vl : Value) (xs : List Int) (hr_vp : RdE encHd h vp hs) (ht_vp : RT encB h hs p) (hr_vl : RdE encI h vl xs) (hp1 : p.length ≤ 12) (hp2 : Sq p p.length) (hp3 : xs.length ≤ 4096) : Fx Try.prog 26 [vp, vl] h (fun v h' => v = .int .i64 (mapE p.length (pb p) xs) ∧ h = h') := by
  have hl_vp := ht_vp.1
  refine fx_intro (n := 68) [(0, vp), (1, vl)] Try.func26 rfl rfl (by simp) ⟨rfl, rfl, trivial⟩ fun g0 => ?_
  refine wi_seq <| wi_reg rfl <| lx_assign (.int .i64 0) rfl rfl <| lx_nil <| wi_seq <| wi_seq <| wi_reg rfl <| lx_move (vl) rfl rfl <| lx_len rfl Try.underlying25 hr_vl rfl <| lx_move (vp) rfl rfl <| lx_len rfl Try.underlying23 hr_vp rfl <| lx_neqS rfl rfl rfl (fun c1 => ?_) (fun c1 => ?_)
  · refine lx_nil <| wi_true rfl <| wi_seq <| wi_reg rfl <| lx_assign (.int .i64 7) rfl rfl <| lx_nil <| ?_
    -- R1
    refine wi_ret ⟨.int .i64 7, (res_one rfl rfl), ⟨?_, rfl⟩⟩
    · first
      | rw [mapE_len (by omega)]
      | rw [mapE_rng (i := i) (by omega) (by omega) (by omega)]
      | rw [mapE_mon (by omega) hrg (x := x) (y := y) (by omega) (by omega) (by assumption) (by rw [hea, heb]; simpa using ‹(!pb p a b) = true›)]
      | rw [mapE_ok (by omega) hrg fun q r hq hr9 h9 => hm q r (by omega) hr9 h9]
  · refine lx_nil <| wi_false rfl <| wi_skip <| wi_seq <| wi_seq <| wi_reg rfl <| lx_assign (.int .i64 0) rfl rfl <| lx_nil <| wi_block <| ?_
    refine wi_loop (σ := Nat) (rngB 13 33 [4, 5]) (fun (i : Nat) => [(5, .int .i64 ((i : Nat) : Int))]) (fun (i : Nat) (hh : Heap) => h = hh ∧ (i ≤ xs.length) ∧ (∀ j, j < i → 0 ≤ gt xs j ∧ gt xs j < p.length)) (fun (i : Nat) => xs.length - i) 0 ⟨rfl, trivial⟩ ⟨rfl, ?_, ?_⟩ ?_
    · try dsimp only
      omega
    · try dsimp only
      intro j hj; omega
    rintro g1 i hh1 ⟨rfl, hi, hr⟩ IH1
    refine wi_seq <| wi_seq <| wi_reg rfl <| lx_move (.int .i64 ((i : Nat) : Int)) rfl rfl <| lx_move (vl) rfl rfl <| lx_len rfl Try.underlying25 hr_vl rfl <| lx_lssS rfl rfl rfl (fun c2 => ?_) (fun c2 => ?_)
    · refine lx_nil <| wi_true rfl <| wi_skip <| wi_seq <| wi_block <| wi_seq <| wi_reg rfl <| lx_move (vl) rfl rfl <| lx_move (.int .i64 ((i : Nat) : Int)) rfl rfl <| lx_ix (i := i) rfl eT25 hr_vl rfl rfl (by omega) <| lx_ld (i := i) (j := 0) (.int .i64 (gt xs i)) rfl rfl fl3 hr_vl (by omega) rfl rfl <| lx_lssS rfl rfl rfl (fun c3 => ?_) (fun c3 => ?_)
      · refine lx_move (.bool true) rfl rfl <| lx_skip rfl <| lx_skip rfl <| lx_skip rfl <| lx_skip rfl <| lx_skip rfl <| lx_skip rfl <| lx_skip rfl <| lx_pick true (.bool true) rfl rfl rfl <| lx_nil <| wi_true rfl <| wi_seq <| wi_reg rfl <| lx_assign (.int .i64 1) rfl rfl <| lx_nil <| ?_
        -- R2
        refine wi_ret ⟨.int .i64 1, (res_one rfl rfl), ⟨?_, rfl⟩⟩
        · first
          | rw [mapE_len (by omega)]
          | rw [mapE_rng (i := i) (by omega) (by omega) (by omega)]
          | rw [mapE_mon (by omega) hrg (x := x) (y := y) (by omega) (by omega) (by assumption) (by rw [hea, heb]; simpa using ‹(!pb p a b) = true›)]
          | rw [mapE_ok (by omega) hrg fun q r hq hr9 h9 => hm q r (by omega) hr9 h9]
      · refine lx_move (.bool false) rfl rfl <| lx_move (vl) rfl rfl <| lx_move (.int .i64 ((i : Nat) : Int)) rfl rfl <| lx_ix (i := i) rfl eT25 hr_vl rfl rfl (by omega) <| lx_ld (i := i) (j := 0) (.int .i64 (gt xs i)) rfl rfl fl3 hr_vl (by omega) rfl rfl <| lx_move (vp) rfl rfl <| lx_len rfl Try.underlying23 hr_vp rfl <| lx_geqS rfl rfl rfl (fun c4 => ?_) (fun c4 => ?_)
        · refine lx_pick false (.bool true) rfl rfl rfl <| lx_nil <| wi_true rfl <| wi_seq <| wi_reg rfl <| lx_assign (.int .i64 1) rfl rfl <| lx_nil <| ?_
          -- R3
          refine wi_ret ⟨.int .i64 1, (res_one rfl rfl), ⟨?_, rfl⟩⟩
          · first
            | rw [mapE_len (by omega)]
            | rw [mapE_rng (i := i) (by omega) (by omega) (by omega)]
            | rw [mapE_mon (by omega) hrg (x := x) (y := y) (by omega) (by omega) (by assumption) (by rw [hea, heb]; simpa using ‹(!pb p a b) = true›)]
            | rw [mapE_ok (by omega) hrg fun q r hq hr9 h9 => hm q r (by omega) hr9 h9]
        · refine lx_pick false (.bool false) rfl rfl rfl <| lx_nil <| wi_false rfl <| wi_skip <| wi_inBlock <| wi_reg rfl <| lx_move (.int .i64 ((i : Nat) : Int)) rfl rfl <| lx_add (((i + 1 : Nat) : Int)) rfl rfl rfl (by omega) (by omega) (by omega) <| lx_assign (.int .i64 ((i + 1 : Nat) : Int)) rfl rfl <| lx_nil <| ?_
          -- L0.1
          refine IH1 _ _ (i + 1) (agree_ups rfl agree_self) ⟨rfl, trivial⟩ ⟨rfl, ?_, ?_⟩ ?_
          · try dsimp only
            omega
          · try dsimp only
            intro j hj
            by_cases e : j = i
            · subst e; omega
            · exact hr j (by omega)
          · first | omega | (dsimp only; omega)
    · refine lx_nil <| wi_false rfl <| wi_exit rfl <| wi_seq <| wi_seq <| wi_reg rfl <| ?_
      have hrg : ∀ j, j < xs.length → 0 ≤ gt xs j ∧ gt xs j < p.length := fun j hj => hr j (by omega)
      refine lx_assign (.int .i64 0) rfl rfl <| lx_nil <| wi_block <| ?_
      refine wi_loop (σ := Nat) (rngB 33 68 [4, 6, 7]) (fun (x : Nat) => [(6, .int .i64 ((x : Nat) : Int))]) (fun (x : Nat) (hh : Heap) => h = hh ∧ (x ≤ xs.length) ∧ (∀ q r, q < x → r < xs.length → pb p q r = true → pb p (gt xs q).toNat (gt xs r).toNat = true)) (fun (x : Nat) => xs.length - x) 0 ⟨rfl, trivial⟩ ⟨rfl, ?_, ?_⟩ ?_
      · try dsimp only
        omega
      · try dsimp only
        intro q r hq; omega
      rintro g2 x hh2 ⟨rfl, hx, hm⟩ IH2
      refine wi_seq <| wi_seq <| wi_reg rfl <| lx_move (.int .i64 ((x : Nat) : Int)) rfl rfl <| lx_move (vl) rfl rfl <| lx_len rfl Try.underlying25 hr_vl rfl <| lx_lssS rfl rfl rfl (fun c5 => ?_) (fun c5 => ?_)
      · refine lx_nil <| wi_true rfl <| wi_skip <| wi_seq <| wi_block <| wi_seq <| wi_reg rfl <| lx_assign (.int .i64 0) rfl rfl <| lx_nil <| wi_block <| ?_
        refine wi_loop (σ := Nat) (rngB 39 68 [4, 7]) (fun (y : Nat) => [(7, .int .i64 ((y : Nat) : Int))]) (fun (y : Nat) (hh : Heap) => h = hh ∧ (y ≤ xs.length) ∧ (∀ r, r < y → pb p x r = true → pb p (gt xs x).toNat (gt xs r).toNat = true)) (fun (y : Nat) => xs.length - y) 0 ⟨rfl, trivial⟩ ⟨rfl, ?_, ?_⟩ ?_
        · try dsimp only
          omega
        · try dsimp only
          intro r hr9; omega
        rintro g3 y hh3 ⟨rfl, hy, hn⟩ IH3
        refine wi_seq <| wi_seq <| wi_reg rfl <| lx_move (.int .i64 ((y : Nat) : Int)) rfl rfl <| lx_move (vl) rfl rfl <| lx_len rfl Try.underlying25 hr_vl rfl <| lx_lssS rfl rfl rfl (fun c6 => ?_) (fun c6 => ?_)
        · refine lx_nil <| wi_true rfl <| wi_skip <| wi_seq <| wi_block <| wi_seq <| wi_draw mo rfl (by decide +kernel) <| ?_
          obtain ⟨a, hga, ha4⟩ : ∃ a : Nat, gt xs x = (a : Int) ∧ a < p.length := ⟨(gt xs x).toNat, by have := hrg x (by omega); omega, by have := hrg x (by omega); omega⟩
          obtain ⟨b, hgb, hb4⟩ : ∃ b : Nat, gt xs y = (b : Int) ∧ b < p.length := ⟨(gt xs y).toNat, by have := hrg y (by omega); omega, by have := hrg y (by omega); omega⟩
          have hea : (gt xs x).toNat = a := by rw [hga]; rfl
          have heb : (gt xs y).toNat = b := by rw [hgb]; rfl
          refine lx_move (vp) rfl rfl <| lx_move (.int .i64 ((x : Nat) : Int)) rfl rfl <| lx_ix (i := x) rfl eT23 hr_vp rfl rfl (by omega) <| lx_ld (i := x) (j := 0) ((gt hs x).v) rfl rfl fl70 hr_vp (by omega) rfl rfl <| lx_move (.int .i64 ((y : Nat) : Int)) rfl rfl <| lx_ix (i := y) rfl eT70 (ht_vp.2 x (by omega)) rfl rfl (by rw [hp2.2 x (by omega)]; omega) <| lx_ld (i := y) (j := 0) (.bool (gt (gt p x) y)) rfl rfl fl4 (ht_vp.2 x (by omega)) (by rw [hp2.2 x (by omega)]; omega) rfl rfl <| lx_move (.bool (gt (gt p x) y)) rfl rfl <| ?_
          cases c7 : (gt (gt p x) y)
          · refine lx_skip rfl <| lx_skip rfl <| lx_skip rfl <| lx_skip rfl <| lx_skip rfl <| lx_skip rfl <| lx_skip rfl <| lx_skip rfl <| lx_skip rfl <| lx_skip rfl <| lx_skip rfl <| lx_skip rfl <| lx_skip rfl <| lx_skip rfl <| lx_pick false (.bool false) rfl rfl rfl <| lx_nil <| wi_false rfl <| wi_skip <| wi_inBlock <| wi_reg rfl <| lx_move (.int .i64 ((y : Nat) : Int)) rfl rfl <| lx_add (((y + 1 : Nat) : Int)) rfl rfl rfl (by omega) (by omega) (by omega) <| lx_assign (.int .i64 ((y + 1 : Nat) : Int)) rfl rfl <| lx_nil <| ?_
            -- L4.1
            refine IH3 _ _ (y + 1) (agree_ups rfl agree_self) ⟨rfl, trivial⟩ ⟨rfl, ?_, ?_⟩ ?_
            · try dsimp only
              omega
            · try dsimp only
              intro r hr9 h9
              by_cases e : r = y
              · subst e; first | (rw [show pb p x r = false from by assumption] at h9; cases h9) | (rw [hea, heb]; assumption) | (rw [hea, heb]; simpa using ‹(!pb p a b) = false›)
              · exact hn r (by omega) h9
            · first | omega | (dsimp only; omega)
          · refine lx_move (vp) rfl rfl <| lx_move (vl) rfl rfl <| lx_move (.int .i64 ((x : Nat) : Int)) rfl rfl <| lx_ix (i := x) rfl eT25 hr_vl rfl rfl (by omega) <| lx_ld (i := x) (j := 0) (.int .i64 ((a : Nat) : Int)) rfl rfl fl3 hr_vl (by omega) (by show some (Value.int .i64 (gt xs x)) = _; rw [hga]) rfl <| lx_ix (i := a) rfl eT23 hr_vp rfl rfl (by omega) <| lx_ld (i := a) (j := 0) ((gt hs a).v) rfl rfl fl70 hr_vp (by omega) rfl rfl <| lx_move (vl) rfl rfl <| lx_move (.int .i64 ((y : Nat) : Int)) rfl rfl <| lx_ix (i := y) rfl eT25 hr_vl rfl rfl (by omega) <| lx_ld (i := y) (j := 0) (.int .i64 ((b : Nat) : Int)) rfl rfl fl3 hr_vl (by omega) (by show some (Value.int .i64 (gt xs y)) = _; rw [hgb]) rfl <| lx_ix (i := b) rfl eT70 (ht_vp.2 a (by omega)) rfl rfl (by rw [hp2.2 a (by omega)]; omega) <| lx_ld (i := b) (j := 0) (.bool (gt (gt p a) b)) rfl rfl fl4 (ht_vp.2 a (by omega)) (by rw [hp2.2 a (by omega)]; omega) rfl rfl <| lx_not rfl rfl <| lx_pick true (.bool (!(gt (gt p a) b))) rfl rfl rfl <| lx_nil <| wi_condS (t := !(gt (gt p a) b)) rfl (fun c8 => ?_) (fun c8 => ?_)
            · refine wi_seq <| wi_reg rfl <| lx_assign (.int .i64 92) rfl rfl <| lx_nil <| ?_
              -- R4
              refine wi_ret ⟨.int .i64 92, (res_one rfl rfl), ⟨?_, rfl⟩⟩
              · first
                | rw [mapE_len (by omega)]
                | rw [mapE_rng (i := i) (by omega) (by omega) (by omega)]
                | rw [mapE_mon (by omega) hrg (x := x) (y := y) (by omega) (by omega) (by assumption) (by rw [hea, heb]; simpa using ‹(!pb p a b) = true›)]
                | rw [mapE_ok (by omega) hrg fun q r hq hr9 h9 => hm q r (by omega) hr9 h9]
            · refine wi_skip <| wi_inBlock <| wi_reg rfl <| lx_move (.int .i64 ((y : Nat) : Int)) rfl rfl <| lx_add (((y + 1 : Nat) : Int)) rfl rfl rfl (by omega) (by omega) (by omega) <| lx_assign (.int .i64 ((y + 1 : Nat) : Int)) rfl rfl <| lx_nil <| ?_
              -- L4.2
              refine IH3 _ _ (y + 1) (agree_ups rfl agree_self) ⟨rfl, trivial⟩ ⟨rfl, ?_, ?_⟩ ?_
              · try dsimp only
                omega
              · try dsimp only
                intro r hr9 h9
                by_cases e : r = y
                · subst e; first | (rw [show pb p x r = false from by assumption] at h9; cases h9) | (rw [hea, heb]; assumption) | (rw [hea, heb]; simpa using ‹(!pb p a b) = false›)
                · exact hn r (by omega) h9
              · first | omega | (dsimp only; omega)
        · refine lx_nil <| wi_false rfl <| wi_exit rfl <| wi_inBlock <| wi_reg rfl <| lx_move (.int .i64 ((x : Nat) : Int)) rfl rfl <| lx_add (((x + 1 : Nat) : Int)) rfl rfl rfl (by omega) (by omega) (by omega) <| lx_assign (.int .i64 ((x + 1 : Nat) : Int)) rfl rfl <| lx_nil <| ?_
          -- L2.1
          refine IH2 _ _ (x + 1) (agree_ups rfl (agree_mix (rngB_sub (by decide) (by decide) rfl) (agree_ups rfl agree_self))) ⟨rfl, trivial⟩ ⟨rfl, ?_, ?_⟩ ?_
          · try dsimp only
            omega
          · try dsimp only
            intro q r hq hr9 h9
            by_cases e : q = x
            · subst e; exact hn r (by omega) h9
            · exact hm q r (by omega) hr9 h9
          · first | omega | (dsimp only; omega)
      · refine lx_nil <| wi_false rfl <| wi_exit rfl <| wi_seq <| wi_reg rfl <| lx_assign (.int .i64 0) rfl rfl <| lx_nil <| ?_
        -- R5
        refine wi_ret ⟨.int .i64 0, (res_one rfl rfl), ⟨?_, rfl⟩⟩
        · first
          | rw [mapE_len (by omega)]
          | rw [mapE_rng (i := i) (by omega) (by omega) (by omega)]
          | rw [mapE_mon (by omega) hrg (x := x) (y := y) (by omega) (by omega) (by assumption) (by rw [hea, heb]; simpa using ‹(!pb p a b) = true›)]
          | rw [mapE_ok (by omega) hrg fun q r hq hr9 h9 => hm q r (by omega) hr9 h9]

set_option maxRecDepth 10000 in
theorem fix1_spec (h : Heap) (x : Int) (vp : Value) (hs : List Hdr) (p : List (List Bool)) (bx : Nat) (hb_bx : Blk h bx (#[vp]) 29) (hr_vp : RdE encHd h vp hs) (ht_vp : RT encB h hs p) (hp1 : p.length ≤ 1000000) : Fx Try.prog 87 [.int .i64 x, .pointer (some ⟨bx, 0, none⟩)] h (fun v h' => v = .bool (decide (¬ (0 ≤ x ∧ x < p.length))) ∧ h = h') := by
  have hl_vp := ht_vp.1
  refine fx_intro (n := 12) [(0, .int .i64 x), (1, .pointer (some ⟨bx, 0, none⟩))] Try.func87 rfl rfl (by simp) ⟨rfl, rfl, trivial⟩ fun g0 => ?_
  refine wi_seq <| wi_reg rfl <| lx_assign (.bool false) rfl rfl <| lx_nil <| wi_seq <| wi_reg rfl <| lx_move (.int .i64 x) rfl rfl <| lx_lssS rfl rfl rfl (fun c1 => ?_) (fun c1 => ?_)
  · refine lx_move (.bool true) rfl rfl <| lx_skip rfl <| lx_skip rfl <| lx_skip rfl <| lx_skip rfl <| lx_pick true (.bool true) rfl rfl rfl <| lx_assign (.bool true) rfl rfl <| lx_nil <| ?_
    -- R1
    refine wi_ret ⟨.bool true, (res_one rfl rfl), ⟨?_, rfl⟩⟩
    · congr 1
      first
      | exact (decide_eq_true (by omega)).symm
      | exact (decide_eq_false (by omega)).symm
  · refine lx_move (.bool false) rfl rfl <| lx_move (.int .i64 x) rfl rfl <| lx_ldB (vp) rfl rfl fl29 hb_bx rfl rfl <| lx_len rfl Try.underlying29 hr_vp rfl <| lx_geqS rfl rfl rfl (fun c2 => ?_) (fun c2 => ?_)
    · refine lx_pick false (.bool true) rfl rfl rfl <| lx_assign (.bool true) rfl rfl <| lx_nil <| ?_
      -- R2
      refine wi_ret ⟨.bool true, (res_one rfl rfl), ⟨?_, rfl⟩⟩
      · congr 1
        first
        | exact (decide_eq_true (by omega)).symm
        | exact (decide_eq_false (by omega)).symm
    · refine lx_pick false (.bool false) rfl rfl rfl <| lx_assign (.bool false) rfl rfl <| lx_nil <| ?_
      -- R3
      refine wi_ret ⟨.bool false, (res_one rfl rfl), ⟨?_, rfl⟩⟩
      · congr 1
        first
        | exact (decide_eq_true (by omega)).symm
        | exact (decide_eq_false (by omega)).symm

set_option maxRecDepth 10000 in
theorem iindex_spec (h : Heap) (vl : Value) (xs : List Int) (vp : Value) (hs : List Hdr) (p : List (List Bool)) (bx : Nat) (hb_bx : Blk h bx (#[vp]) 29) (hr_vp : RdE encHd h vp hs) (ht_vp : RT encB h hs p) (hr_vl : RdE encI h vl xs) (hp1 : p.length ≤ 1000000) (hp2 : xs.length ≤ 1000000) : Fx Try.prog 131 [vl, .func (.func 87) #[] #[.pointer (some ⟨bx, 0, none⟩)]] h (fun v h' => ∃ (r : Int), v = .int .i64 r ∧ ((r = -1 ∧ ∀ i, i < xs.length → 0 ≤ gt xs i ∧ gt xs i < p.length) ∨ (0 ≤ r ∧ ∃ i, i < xs.length ∧ ¬ (0 ≤ gt xs i ∧ gt xs i < p.length))) ∧ h = h') := by
  have hl_vp := ht_vp.1
  refine fx_intro (n := 19) [(0, vl), (1, .func (.func 87) #[] #[.pointer (some ⟨bx, 0, none⟩)])] Try.func131 rfl rfl (by simp) ⟨rfl, rfl, trivial⟩ fun g0 => ?_
  refine wi_seq <| wi_reg rfl <| lx_assign (.int .i64 0) rfl rfl <| lx_nil <| wi_seq <| wi_seq <| wi_reg rfl <| lx_move (vl) rfl rfl <| lx_len rfl Try.underlying25 hr_vl rfl <| lx_move (.int .i64 0) rfl rfl <| lx_nil <| wi_block <| ?_
  refine wi_loop (σ := Nat) (rngB 8 19 [4, 5]) (fun (i : Nat) => [(8, .int .i64 ((i : Nat) : Int))]) (fun (i : Nat) (hh : Heap) => h = hh ∧ (i ≤ xs.length) ∧ (∀ j, j < i → 0 ≤ gt xs j ∧ gt xs j < p.length)) (fun (i : Nat) => xs.length - i) 0 ⟨rfl, trivial⟩ ⟨rfl, ?_, ?_⟩ ?_
  · try dsimp only
    omega
  · try dsimp only
    intro j hj; omega
  rintro g1 i hh1 ⟨rfl, hi, he⟩ IH1
  refine wi_seq <| wi_reg rfl <| lx_lssS rfl rfl rfl (fun c1 => ?_) (fun c1 => ?_)
  · refine lx_nil <| wi_seq <| wi_true rfl <| wi_skip <| wi_seq <| wi_block <| wi_seq <| wi_reg rfl <| lx_move (.int .i64 ((i : Nat) : Int)) rfl rfl <| lx_assign (.int .i64 ((i : Nat) : Int)) rfl rfl <| lx_nil <| wi_seq <| wi_reg rfl <| lx_move (.func (.func 87) #[] #[.pointer (some ⟨bx, 0, none⟩)]) rfl rfl <| lx_move (vl) rfl rfl <| lx_move (.int .i64 ((i : Nat) : Int)) rfl rfl <| lx_ix (i := i) rfl eT25 hr_vl rfl rfl (by omega) <| lx_ld (i := i) (j := 0) (.int .i64 (gt xs i)) rfl rfl fl3 hr_vl (by omega) rfl rfl <| lx_callV [] [.pointer (some ⟨bx, 0, none⟩)] [.int .i64 (gt xs i)] rfl rfl Try.call87 rfl rfl (fix1_spec h (gt xs i) vp hs p bx hb_bx hr_vp ht_vp (by omega)) (fun _ _ _ => trivial) ?_
    rintro _ h1 ⟨rfl, rfl⟩
    refine lx_nil <| wi_condS (t := decide (¬ (0 ≤ (gt xs i) ∧ (gt xs i) < p.length))) rfl (fun c2 => ?_) (fun c2 => ?_)
    · refine wi_seq <| wi_reg rfl <| lx_move (.int .i64 ((i : Nat) : Int)) rfl rfl <| lx_assign (.int .i64 ((i : Nat) : Int)) rfl rfl <| lx_nil <| ?_
      -- R1
      refine wi_ret ⟨.int .i64 ((i : Nat) : Int), (res_one rfl rfl), ⟨((i : Nat) : Int), ?_, ?_, rfl⟩⟩
      · first | rfl | (simp; done) | (simp; omega)
      · refine .inr ⟨by omega, i, by omega, ?_⟩
        exact of_decide_eq_true c2
    · refine wi_skip <| wi_inBlock <| wi_reg rfl <| lx_add (((i + 1 : Nat) : Int)) rfl rfl rfl (by omega) (by omega) (by omega) <| lx_move (.int .i64 ((i + 1 : Nat) : Int)) rfl rfl <| lx_nil <| ?_
      -- L0.1
      refine IH1 _ _ (i + 1) (agree_ups rfl agree_self) ⟨rfl, trivial⟩ ⟨rfl, ?_, ?_⟩ ?_
      · try dsimp only
        omega
      · try dsimp only
        intro j hj; by_cases e : j = i
        · subst e; have h9 := of_decide_eq_false c2; omega
        · exact he j (by omega)
      · first | omega | (dsimp only; omega)
  · refine lx_nil <| wi_seq <| wi_false rfl <| wi_exit rfl <| wi_seq <| wi_reg rfl <| lx_assign (.int .i64 (-1)) rfl rfl <| lx_nil <| ?_
    -- R2
    refine wi_ret ⟨.int .i64 (-1), (res_one rfl rfl), ⟨(-1), ?_, ?_, rfl⟩⟩
    · first | rfl | (simp; done) | (simp; omega)
    · exact .inl ⟨rfl, fun j hj => he j (by omega)⟩

set_option maxRecDepth 10000 in
theorem icontains_spec (h : Heap) (vl : Value) (xs : List Int) (vp : Value) (hs : List Hdr) (p : List (List Bool)) (bx : Nat) (hb_bx : Blk h bx (#[vp]) 29) (hr_vp : RdE encHd h vp hs) (ht_vp : RT encB h hs p) (hr_vl : RdE encI h vl xs) (hp1 : p.length ≤ 1000000) (hp2 : xs.length ≤ 1000000) : Fx Try.prog 86 [vl, .func (.func 87) #[] #[.pointer (some ⟨bx, 0, none⟩)]] h (fun v h' => v = .bool (!inbB p.length xs) ∧ h = h') := by
  have hl_vp := ht_vp.1
  refine fx_intro (n := 9) [(0, vl), (1, .func (.func 87) #[] #[.pointer (some ⟨bx, 0, none⟩)])] Try.func86 rfl rfl (by simp) ⟨rfl, rfl, trivial⟩ fun g0 => ?_
  refine wi_seq <| wi_reg rfl <| lx_assign (.bool false) rfl rfl <| lx_nil <| wi_seq <| wi_reg rfl <| lx_move (vl) rfl rfl <| lx_move (.func (.func 87) #[] #[.pointer (some ⟨bx, 0, none⟩)]) rfl rfl <| lx_call [vl, .func (.func 87) #[] #[.pointer (some ⟨bx, 0, none⟩)]] rfl rfl Try.call131 rfl (iindex_spec h vl xs vp hs p bx hb_bx hr_vp ht_vp hr_vl (by omega) (by omega)) (fun _ _ _ => trivial) ?_
  rintro _ h1 ⟨r_1, rfl, hr_1, rfl⟩
  refine lx_geq rfl rfl rfl <| lx_assign (.bool (decide ((0 : Int) ≤ r_1))) rfl rfl <| lx_nil <| ?_
  -- R1
  refine wi_ret ⟨.bool (decide ((0 : Int) ≤ r_1)), (res_one rfl rfl), ⟨?_, rfl⟩⟩
  · congr 1
    rcases hr_1 with ⟨h1, h2⟩ | ⟨h1, j, h2, h3⟩
    · rw [decide_eq_false (by omega), inbB_iff.2 h2]; rfl
    · rw [decide_eq_true (by omega)]
      symm
      rw [Bool.not_eq_true', Bool.eq_false_iff]
      exact fun h => h3 (inbB_iff.1 h j h2)

set_option maxRecDepth 10000 in
theorem ofixed_spec (h : Heap) (vp : Value) (hs : List Hdr) (p : List (List Bool)) (vl : Value) (xs : List Int) (hr_vp : RdE encHd h vp hs) (ht_vp : RT encB h hs p) (hr_vl : RdE encI h vl xs) (hp1 : p.length ≤ 1000000) (hp2 : ∀ i, i < p.length → (gt p i).length ≤ 1000000) (hp3 : xs.length ≤ 1000000) : Fx Try.prog 25 [vp, vl] h (fun v h' => ∃ (s : Value) (zs : List Int), v = .tuple #[s, .int .i64 (fixE p xs)] ∧ OwE encI h' h.size 3 s zs ∧ (zs = if fixE p xs = 0 then fixF xs else []) ∧ Ext h.size h h') := by
  have hl_vp := ht_vp.1
  refine fx_intro (n := 66) [(0, vp), (1, vl)] Try.func25 rfl rfl (by simp) ⟨rfl, rfl, trivial⟩ fun g0 => ?_
  refine wi_seq <| wi_reg rfl <| lx_box #[vp] rfl rfl (sl_cells hr_vp) (fun _ _ _ => trivial) fun bn1 h1 hbn1 hbk1 hx1 hsz1 => ?_
  have hbb1 : h.size ≤ bn1 := by have := (Nat.le_refl h.size); omega
  refine lx_assign (.slice none 0 0) rfl rfl <| lx_assign (.int .i64 0) rfl rfl <| lx_nil <| wi_seq <| wi_seq <| wi_reg rfl <| lx_ldB (vp) rfl rfl fl29 hbk1 rfl rfl <| lx_call [vp] rfl rfl Try.call62 rfl (ocheck_spec h1 vp hs p (hr_vp.extS hx1) (ht_vp.extS hx1) (by omega) (by first | with_reducible assumption | omega)) (fun _ _ _ => trivial) ?_
  rintro _ h2 ⟨rfl, hx2⟩
  have hx0_1 := hx1.trans2 hx2 hx1.size
  have hb1 := hbk1.extS hx2
  refine lx_assign (.int .i64 (chkT p)) rfl rfl <| lx_nil <| wi_seq <| wi_reg rfl <| lx_move (.int .i64 (chkT p)) rfl rfl <| lx_neqS rfl rfl rfl (fun c1 => ?_) (fun c1 => ?_)
  · refine lx_nil <| wi_true rfl <| wi_seq <| wi_reg rfl <| lx_move (.int .i64 (chkT p)) rfl rfl <| lx_assign (.slice none 0 0) rfl rfl <| lx_assign (.int .i64 (chkT p)) rfl rfl <| lx_nil <| ?_
    have h9 : fixE p xs = chkT p := if_neg (by omega)
    -- R1
    refine wi_ret ⟨.tuple #[.slice none 0 0, .int .i64 (chkT p)], (res_two rfl rfl rfl), ⟨.slice none 0 0, [], ?_, (owE_nil encI _ h.size 3), ?_, hx0_1⟩⟩
    · rw [h9]
    · rw [if_neg (by omega)]
  · refine lx_nil <| wi_false rfl <| wi_skip <| wi_seq <| wi_seq <| wi_reg rfl <| ?_
    have hok := chkT_ok (p := p) (by omega)
    have hp12 : p.length ≤ 12 := hok.2.1
    have hpq : Sq p p.length := isT_sq hok.2.2
    refine lx_move (vl) rfl rfl <| lx_len rfl Try.underlying25 hr_vl rfl <| lx_ldB (vp) rfl rfl fl29 hb1 rfl rfl <| lx_len rfl Try.underlying29 hr_vp rfl <| lx_neqS rfl rfl rfl (fun c2 => ?_) (fun c2 => ?_)
    · refine lx_nil <| wi_true rfl <| wi_seq <| wi_reg rfl <| lx_assign (.slice none 0 0) rfl rfl <| lx_assign (.int .i64 7) rfl rfl <| lx_nil <| ?_
      have h9 : fixE p xs = 7 := by unfold fixE; rw [if_pos (by omega), mapE_len (by omega)]
      -- R2
      refine wi_ret ⟨.tuple #[.slice none 0 0, .int .i64 7], (res_two rfl rfl rfl), ⟨.slice none 0 0, [], ?_, (owE_nil encI _ h.size 3), ?_, hx0_1⟩⟩
      · rw [h9]
      · rw [if_neg (by omega)]
    · refine lx_nil <| wi_false rfl <| wi_skip <| wi_seq <| wi_seq <| wi_reg rfl <| lx_move (vl) rfl rfl <| lx_makeFunc [] [.pointer (some ⟨bn1, 0, none⟩)] rfl rfl rfl <| lx_call [vl, .func (.func 87) #[] #[.pointer (some ⟨bn1, 0, none⟩)]] rfl rfl Try.call86 rfl (icontains_spec h2 vl xs vp hs p bn1 hb1 (hr_vp.extS hx0_1) (ht_vp.extS hx0_1) (hr_vl.extS hx0_1) (by omega) (by omega)) (fun _ _ _ => trivial) ?_
      rintro _ h3 ⟨rfl, rfl⟩
      refine lx_nil <| wi_condS (t := !inbB p.length xs) rfl (fun c3 => ?_) (fun c3 => ?_)
      · refine wi_seq <| wi_reg rfl <| lx_assign (.slice none 0 0) rfl rfl <| lx_assign (.int .i64 1) rfl rfl <| lx_nil <| ?_
        have h9 : fixE p xs = 1 := by unfold fixE mapE; rw [if_pos (by omega), if_pos (by omega), if_neg (by simpa using c3)]
        -- R3
        refine wi_ret ⟨.tuple #[.slice none 0 0, .int .i64 1], (res_two rfl rfl rfl), ⟨.slice none 0 0, [], ?_, (owE_nil encI _ h.size 3), ?_, hx0_1⟩⟩
        · rw [h9]
        · rw [if_neg (by omega)]
      · refine wi_skip <| wi_seq <| wi_reg rfl <| ?_
        have hrb : inbB p.length xs = true := by simpa using ‹(!inbB p.length xs) = false›
        have hrg := inbB_iff.1 hrb
        refine lx_assign (.slice none 0 0) rfl rfl <| lx_nil <| wi_seq <| wi_seq <| wi_reg rfl <| lx_move (vl) rfl rfl <| lx_len rfl Try.underlying25 hr_vl rfl <| lx_move (.int .i64 0) rfl rfl <| lx_nil <| wi_block <| ?_
        refine wi_loop (σ := Nat × Value × (List Int)) (rngB 26 65 [4, 5, 7, 8, 9, 10]) (fun (ss : Nat × Value × (List Int)) => [(26, .int .i64 ((ss.1 : Nat) : Int)), (7, ss.2.1)]) (fun (ss : Nat × Value × (List Int)) (hh : Heap) => OwE encI hh h.size 3 ss.2.1 ss.2.2 ∧ Blk hh bn1 #[vp] 29 ∧ Ext h.size h hh ∧ (ss.1 ≤ xs.length) ∧ (∀ q r, q < ss.1 → r < xs.length → pb p q r = true → pb p (gt xs q).toNat (gt xs r).toNat = true) ∧ (ss.2.2 = filtF ss.1 (fixB xs))) (fun (ss : Nat × Value × (List Int)) => xs.length - ss.1) (0, .slice none 0 0, []) ⟨rfl, rfl, trivial⟩ ⟨?_, ?_, hx0_1, ?_, ?_, ?_⟩ ?_
        · first | exact (owE_nil encI _ h.size 3) | (simpa using (owE_nil encI _ h.size 3))
        · exact hb1
        · try dsimp only
          omega
        · try dsimp only
          intro q r hq; omega
        · try dsimp only
          first | done | rfl
        rintro g1 ⟨x, v, ys⟩ hh1 ⟨ho1, hbk2, hx0_2, hx, hm, hys⟩ IH1
        dsimp only at *
        have hyl : ys.length ≤ x := by rw [hys]; exact filtF_length _ _
        refine wi_seq <| wi_reg rfl <| lx_lssS rfl rfl rfl (fun c4 => ?_) (fun c4 => ?_)
        · refine lx_nil <| wi_seq <| wi_true rfl <| wi_skip <| wi_seq <| wi_block <| wi_seq <| wi_reg rfl <| ?_
          obtain ⟨a, hga, ha4⟩ : ∃ a : Nat, gt xs x = (a : Int) ∧ a < p.length := ⟨(gt xs x).toNat, by have := hrg x (by omega); omega, by have := hrg x (by omega); omega⟩
          have hea : (gt xs x).toNat = a := by rw [hga]; rfl
          refine lx_move (.int .i64 ((x : Nat) : Int)) rfl rfl <| lx_ix (i := x) rfl eT25 hr_vl rfl rfl (by omega) <| lx_ld (i := x) (j := 0) (.int .i64 ((a : Nat) : Int)) rfl rfl fl3 (hr_vl.extS hx0_2) (by omega) (by show some (Value.int .i64 (gt xs x)) = _; rw [hga]) rfl <| lx_assign (.int .i64 ((x : Nat) : Int)) rfl rfl <| lx_assign (.int .i64 ((a : Nat) : Int)) rfl rfl <| lx_nil <| wi_seq <| wi_seq <| wi_reg rfl <| lx_ldB (vp) rfl rfl fl29 hbk2 rfl rfl <| lx_len rfl Try.underlying29 hr_vp rfl <| lx_move (.int .i64 0) rfl rfl <| lx_nil <| wi_block <| ?_
          refine wi_loop (σ := Nat) (rngB 33 57 [4, 5, 10]) (fun (y : Nat) => [(33, .int .i64 ((y : Nat) : Int))]) (fun (y : Nat) (hh : Heap) => hh1 = hh ∧ (y ≤ p.length) ∧ (∀ r, r < y → pb p x r = true → pb p (gt xs x).toNat (gt xs r).toNat = true)) (fun (y : Nat) => p.length - y) 0 ⟨rfl, trivial⟩ ⟨rfl, ?_, ?_⟩ ?_
          · try dsimp only
            omega
          · try dsimp only
            intro r hr9; omega
          rintro g2 y hh2 ⟨rfl, hy, hn⟩ IH2
          refine wi_seq <| wi_reg rfl <| lx_lssS rfl rfl rfl (fun c5 => ?_) (fun c5 => ?_)
          · refine lx_nil <| wi_seq <| wi_true rfl <| wi_skip <| wi_seq <| wi_block <| wi_seq <| wi_reg rfl <| lx_move (.int .i64 ((y : Nat) : Int)) rfl rfl <| lx_assign (.int .i64 ((y : Nat) : Int)) rfl rfl <| lx_nil <| wi_seq <| wi_draw mo rfl (by decide +kernel) <| ?_
            obtain ⟨b, hgb, hb4⟩ : ∃ b : Nat, gt xs y = (b : Int) ∧ b < p.length := ⟨(gt xs y).toNat, by have := hrg y (by omega); omega, by have := hrg y (by omega); omega⟩
            have heb : (gt xs y).toNat = b := by rw [hgb]; rfl
            refine lx_ldB (vp) rfl rfl fl29 hbk2 rfl rfl <| lx_move (.int .i64 ((x : Nat) : Int)) rfl rfl <| lx_ix (i := x) rfl eT29 hr_vp rfl rfl (by omega) <| lx_ld (i := x) (j := 0) ((gt hs x).v) rfl rfl fl70 (hr_vp.extS hx0_2) (by omega) rfl rfl <| lx_move (.int .i64 ((y : Nat) : Int)) rfl rfl <| lx_ix (i := y) rfl eT70 (ht_vp.2 x (by omega)) rfl rfl (by rw [hpq.2 x (by omega)]; omega) <| lx_ld (i := y) (j := 0) (.bool (gt (gt p x) y)) rfl rfl fl4 ((ht_vp.extS hx0_2).2 x (by omega)) (by rw [hpq.2 x (by omega)]; omega) rfl rfl <| lx_move (.bool (gt (gt p x) y)) rfl rfl <| ?_
            cases c6 : (gt (gt p x) y)
            · refine lx_skip rfl <| lx_skip rfl <| lx_skip rfl <| lx_skip rfl <| lx_skip rfl <| lx_skip rfl <| lx_skip rfl <| lx_skip rfl <| lx_skip rfl <| lx_skip rfl <| lx_skip rfl <| lx_pick false (.bool false) rfl rfl rfl <| lx_nil <| wi_false rfl <| wi_skip <| wi_inBlock <| wi_reg rfl <| lx_add (((y + 1 : Nat) : Int)) rfl rfl rfl (by omega) (by omega) (by omega) <| lx_move (.int .i64 ((y + 1 : Nat) : Int)) rfl rfl <| lx_nil <| ?_
              -- L2.1
              refine IH2 _ _ (y + 1) (agree_ups rfl agree_self) ⟨rfl, trivial⟩ ⟨rfl, ?_, ?_⟩ ?_
              · try dsimp only
                omega
              · try dsimp only
                intro r hr9 h9
                by_cases e : r = y
                · subst e; first | (rw [show pb p x r = false from by assumption] at h9; cases h9) | (rw [hea, heb]; assumption) | (rw [hea, heb]; simpa using ‹(!pb p a b) = false›)
                · exact hn r (by omega) h9
              · first | omega | (dsimp only; omega)
            · refine lx_ldB (vp) rfl rfl fl29 hbk2 rfl rfl <| lx_move (.int .i64 ((a : Nat) : Int)) rfl rfl <| lx_ix (i := a) rfl eT29 hr_vp rfl rfl (by omega) <| lx_ld (i := a) (j := 0) ((gt hs a).v) rfl rfl fl70 (hr_vp.extS hx0_2) (by omega) rfl rfl <| lx_move (vl) rfl rfl <| lx_move (.int .i64 ((y : Nat) : Int)) rfl rfl <| lx_ix (i := y) rfl eT25 hr_vl rfl rfl (by omega) <| lx_ld (i := y) (j := 0) (.int .i64 ((b : Nat) : Int)) rfl rfl fl3 (hr_vl.extS hx0_2) (by omega) (by show some (Value.int .i64 (gt xs y)) = _; rw [hgb]) rfl <| lx_ix (i := b) rfl eT70 (ht_vp.2 a (by omega)) rfl rfl (by rw [hpq.2 a (by omega)]; omega) <| lx_ld (i := b) (j := 0) (.bool (gt (gt p a) b)) rfl rfl fl4 ((ht_vp.extS hx0_2).2 a (by omega)) (by rw [hpq.2 a (by omega)]; omega) rfl rfl <| lx_not rfl rfl <| lx_pick true (.bool (!(gt (gt p a) b))) rfl rfl rfl <| lx_nil <| wi_condS (t := !(gt (gt p a) b)) rfl (fun c7 => ?_) (fun c7 => ?_)
              · refine wi_seq <| wi_reg rfl <| lx_assign (.slice none 0 0) rfl rfl <| lx_assign (.int .i64 92) rfl rfl <| lx_nil <| ?_
                have h9 : fixE p xs = 92 := by unfold fixE; rw [if_pos (by omega), mapE_mon (by omega) hrg (x := x) (y := y) (by omega) (by omega) (by assumption) (by rw [hea, heb]; simpa using ‹(!pb p a b) = true›)]
                -- R4
                refine wi_ret ⟨.tuple #[.slice none 0 0, .int .i64 92], (res_two rfl rfl rfl), ⟨.slice none 0 0, [], ?_, (owE_nil encI _ h.size 3), ?_, hx0_2⟩⟩
                · rw [h9]
                · rw [if_neg (by omega)]
              · refine wi_skip <| wi_inBlock <| wi_reg rfl <| lx_add (((y + 1 : Nat) : Int)) rfl rfl rfl (by omega) (by omega) (by omega) <| lx_move (.int .i64 ((y + 1 : Nat) : Int)) rfl rfl <| lx_nil <| ?_
                -- L2.2
                refine IH2 _ _ (y + 1) (agree_ups rfl agree_self) ⟨rfl, trivial⟩ ⟨rfl, ?_, ?_⟩ ?_
                · try dsimp only
                  omega
                · try dsimp only
                  intro r hr9 h9
                  by_cases e : r = y
                  · subst e; first | (rw [show pb p x r = false from by assumption] at h9; cases h9) | (rw [hea, heb]; assumption) | (rw [hea, heb]; simpa using ‹(!pb p a b) = false›)
                  · exact hn r (by omega) h9
                · first | omega | (dsimp only; omega)
          · refine lx_nil <| wi_seq <| wi_false rfl <| wi_exit rfl <| wi_seq <| wi_reg rfl <| lx_move (.int .i64 ((x : Nat) : Int)) rfl rfl <| lx_move (.int .i64 ((a : Nat) : Int)) rfl rfl <| lx_eqlS rfl rfl rfl (fun c8 => ?_) (fun c8 => ?_)
            · refine lx_nil <| wi_true rfl <| wi_reg rfl <| lx_move (v) rfl rfl <| lx_move (.int .i64 ((x : Nat) : Int)) rfl rfl <| lx_appendL (E := encI) (B := h.size) [((x : Nat) : Int)] [.int .i64 ((x : Nat) : Int)] rfl rfl (fun _ => rfl) rfl eT25 rfl rfl rfl rfl ho1 (fun _ => rfl) (by show ys.length + 1 ≤ _; omega) (by show (ys.length + 1) * 8 ≤ _; omega) hx0_2.size (fun _ _ => trivial) fun u1 v1 h4 ho2 hc1 hg1 => ?_
              have hx0_3 := hx0_2.trans (ho1.ext hc1 hx0_2.size)
              have hb2 := hbk2.chg hc1 (nb_ty ho1 hbk2 (by decide))
              refine lx_assign (v1) rfl rfl <| lx_nil <| wi_inBlock <| wi_reg rfl <| lx_add (((x + 1 : Nat) : Int)) rfl rfl rfl (by omega) (by omega) (by omega) <| lx_move (.int .i64 ((x + 1 : Nat) : Int)) rfl rfl <| lx_nil <| ?_
              -- L0.1
              refine IH1 _ _ (x + 1, v1, ys ++ [((x : Nat) : Int)]) (agree_ups rfl (agree_mix (rngB_sub (by decide) (by decide) rfl) (agree_ups rfl agree_self))) ⟨rfl, rfl, trivial⟩ ⟨?_, ?_, hx0_3, ?_, ?_, ?_⟩ ?_
              · first | exact ho2 | (simpa using ho2)
              · exact hb2
              · try dsimp only
                omega
              · try dsimp only
                intro q r hq hr9 h9
                by_cases e : q = x
                · subst e; exact hn r (by omega) h9
                · exact hm q r (by omega) hr9 h9
              · try dsimp only
                rw [hys]; exact filtF_yes (decide_eq_true (by omega))
              · first | omega | (dsimp only; omega)
            · refine lx_nil <| wi_false rfl <| wi_skip <| wi_inBlock <| wi_reg rfl <| lx_add (((x + 1 : Nat) : Int)) rfl rfl rfl (by omega) (by omega) (by omega) <| lx_move (.int .i64 ((x + 1 : Nat) : Int)) rfl rfl <| lx_nil <| ?_
              -- L0.2
              refine IH1 _ _ (x + 1, v, ys) (agree_ups rfl (agree_mix (rngB_sub (by decide) (by decide) rfl) (agree_ups rfl agree_self))) ⟨rfl, rfl, trivial⟩ ⟨?_, ?_, hx0_2, ?_, ?_, ?_⟩ ?_
              · first | exact ho1 | (simpa using ho1)
              · exact hbk2
              · try dsimp only
                omega
              · try dsimp only
                intro q r hq hr9 h9
                by_cases e : q = x
                · subst e; exact hn r (by omega) h9
                · exact hm q r (by omega) hr9 h9
              · try dsimp only
                rw [hys]; exact filtF_no (decide_eq_false (by omega))
              · first | omega | (dsimp only; omega)
        · refine lx_nil <| wi_seq <| wi_false rfl <| wi_exit rfl <| wi_seq <| wi_reg rfl <| lx_move (v) rfl rfl <| lx_assign (v) rfl rfl <| lx_assign (.int .i64 0) rfl rfl <| lx_nil <| ?_
          have h9 : fixE p xs = 0 := by unfold fixE; rw [if_pos (by omega), mapE_ok (by omega) hrg fun q r hq hr9 h9 => hm q r (by omega) hr9 h9]
          -- R5
          refine wi_ret ⟨.tuple #[v, .int .i64 0], (res_two rfl rfl rfl), ⟨v, ys, ?_, ho1, ?_, hx0_2⟩⟩
          · rw [h9]
          · rw [if_pos h9, hys, show x = xs.length from by omega]; rfl

end Go.Proofs.Ytdokijbdnajhgaa
namespace Go.Proofs.Ytdokijbdnajhgaa
open Go.Shelf
def Try.laysNm225_ren : Go.Shelf.Ren := ⟨fun | 25 => 83 | 31 => 128 | 32 => 129 | 37 => 168 | n => n, fun | 22 => 25 | 3 => 3 | 4 => 4 | 40 => 45 | 0 => 0 | n => n, fun | n => n⟩
theorem Try.laysNm225 : Go.Proofs.Lays2.n25 Try.prog Try.laysNm225_ren := {
  mixed := by kernel_rfl
  f25 := Try.func83.trans (congrArg some (by kernel_rfl))
  f31 := Try.func128.trans (congrArg some (by kernel_rfl))
  f32 := Try.func129.trans (congrArg some (by kernel_rfl))
  f37 := Try.func168.trans (congrArg some (by kernel_rfl))
  t0 := Try.underlying0
  a0 := Try.isAgg0
  z0 := Try.sizeOf0
  v0 := Try.zeroValue0
  t3 := Try.underlying3
  a3 := Try.isAgg3
  z3 := Try.sizeOf3
  v3 := Try.zeroValue3
  t4 := Try.underlying4
  a4 := Try.isAgg4
  z4 := Try.sizeOf4
  v4 := Try.zeroValue4
  t22 := Try.underlying25
  a22 := Try.isAgg25
  z22 := Try.sizeOf25
  v22 := Try.zeroValue25
  t40 := Try.underlying45
  a40 := Try.isAgg45
  z40 := Try.sizeOf45
  v40 := Try.zeroValue45 }
open Go.RowKit Go.Lib in
theorem Try.slices_BinarySearch_int (b off n c : Nat) (zs : List Int) (x : Int) (w : World) (hz : n ≤ zs.length) (hbig : n < 4611686018427387904) (hc : ∀ j, j < zs.length → w.cell? ⟨b, off + j, none⟩ = some (.int .i64 (zs.getD j 0))) (hs : (zs.take n).Pairwise (· ≤ ·)) :
    Calls Try.prog 83 #[.slice (some ⟨b, off, none⟩) n c, .int .i64 x] w fun e w' => e = .returned (.tuple #[.int .i64 ((zs.take n).countP (· < x) : Nat), .bool ((zs.take n).contains x)]) ∧ ∃ q, w' = w.drewN q := Any.slices_BinarySearch_int Try.laysNm225 b off n c zs x w hz hbig hc hs
end Go.Proofs.Ytdokijbdnajhgaa
namespace Go.Proofs.Ytdokijbdnajhgaa
open Go Go.X Go.Sort
theorem lfind_spec (h : Heap) (B : Nat) (v : Value) (xs : List Int) (x : Int) (ho : OwE encI h B 3 v xs) (_ : B ≤ h.size) (hne : xs ≠ []) (hl : xs.length ≤ 1000000) (hs : xs.Pairwise (· ≤ ·)) :
    Fx Try.prog 83 [v, .int .i64 x] h (fun r h' => r = .tuple #[.int .i64 ((xs.countP (fun y => decide (y < x)) : Nat) : Int), .bool (xs.contains x)] ∧ h = h') := by
  obtain ⟨g, cap, cur, rfl, hB, hg, hn, hm, hsz, ht⟩ := own_parts ho hne
  intro w hw
  subst hw
  have hH := own_holds (w := w) (B := B) (cap := cap) hg ht
  refine (Try.slices_BinarySearch_int g 0 xs.length cap xs x w (Nat.le_refl _) (by omega) (fun j hj => ?_) (by rw [List.take_length]; exact hs)).mono ?_
  · have := (hH j (by simpa using hj)).1
    rw [this, getElem!_pos xs.toArray j (by simpa using hj)]
    simp [List.getD, List.getElem?_eq_getElem hj]
  · rintro e w' ⟨rfl, q, rfl⟩
    rw [List.take_length]
    exact ⟨_, rfl, by exact ⟨rfl, rfl, rfl⟩, rfl, rfl⟩
end Go.Proofs.Ytdokijbdnajhgaa
namespace Go.Proofs.Ytdokijbdnajhgaa
open Go Go.X

set_option maxRecDepth 10000 in
theorem common_up_spec (h : Heap) (vp : Value) (hs : List Hdr) (p : List (List Bool)) (t : Nat) (hr_vp : RdE encHd h vp hs) (ht_vp : RT encB h hs p) (hp1 : p.length ≤ 12) (hp2 : Sq p p.length) (hp3 : t < 4096) : Fx Try.prog 79 [vp, .int .i64 ((t : Nat) : Int), .func (.func 80) #[vp] #[]] h (fun v h' => v = .int .i64 ((uppS p.length (pb p) t : Nat) : Int) ∧ h = h') := by
  have hl_vp := ht_vp.1
  refine fx_intro (n := 32) [(0, vp), (1, .int .i64 ((t : Nat) : Int)), (2, .func (.func 80) #[vp] #[])] Try.func79 rfl rfl (by simp) ⟨rfl, rfl, rfl, trivial⟩ fun g0 => ?_
  refine wi_seq <| wi_reg rfl <| lx_assign (.int .i64 0) rfl rfl <| lx_nil <| wi_seq <| wi_reg rfl <| ?_
  have hpw := pow12 hp1
  have hpe : 2 ^ hs.length = 2 ^ p.length := by rw [hl_vp]
  have hp0 := Nat.two_pow_pos p.length
  refine lx_move (vp) rfl rfl <| lx_len rfl Try.underlying29 hr_vp rfl <| lx_conv ((hs.length : Nat) : Int) rfl Try.underlying3 Try.underlying45 rfl (wrap_u64 (by omega) (by omega)) <| lx_shl (m := 1) (n := hs.length) rfl rfl rfl (by show _ ≤ 64; omega) (wrap_i64 (by omega) (by omega)) <| lx_sub (((1 * 2 ^ hs.length - 1 : Nat) : Int)) rfl rfl rfl (by omega) (by omega) (by omega) <| lx_assign (.int .i64 ((1 * 2 ^ hs.length - 1 : Nat) : Int)) rfl rfl <| lx_nil <| wi_seq <| wi_seq <| wi_reg rfl <| lx_move (vp) rfl rfl <| lx_len rfl Try.underlying29 hr_vp rfl <| lx_move (.int .i64 0) rfl rfl <| lx_nil <| wi_block <| ?_
  refine wi_loop (σ := Nat × Nat) (rngB 16 31 [7, 8]) (fun (ss : Nat × Nat) => [(16, .int .i64 ((ss.1 : Nat) : Int)), (7, .int .i64 ((ss.2 : Nat) : Int))]) (fun (ss : Nat × Nat) (hh : Heap) => h = hh ∧ (ss.1 ≤ p.length) ∧ (ss.2 = cmF p.length t (upF p.length (pb p)) ss.1)) (fun (ss : Nat × Nat) => p.length - ss.1) (0, 1 * 2 ^ hs.length - 1) ⟨rfl, rfl, trivial⟩ ⟨rfl, ?_, ?_⟩ ?_
  · try dsimp only
    omega
  · try dsimp only
    rw [cmF_zero, Nat.one_mul, hpe]
  rintro g1 ⟨x, o⟩ hh1 ⟨rfl, hx, ho⟩ IH1
  dsimp only at *
  refine wi_seq <| wi_reg rfl <| lx_lssS rfl rfl rfl (fun c1 => ?_) (fun c1 => ?_)
  · refine lx_nil <| wi_seq <| wi_true rfl <| wi_skip <| wi_seq <| wi_block <| wi_seq <| wi_reg rfl <| lx_move (.int .i64 ((x : Nat) : Int)) rfl rfl <| lx_assign (.int .i64 ((x : Nat) : Int)) rfl rfl <| lx_nil <| wi_seq <| wi_reg rfl <| ?_
    have hbl : t / 2 ^ x &&& 1 ≤ 1 := Nat.and_le_right
    have hdv := Nat.div_le_self t (2 ^ x)
    have hol : o < 2 ^ p.length := by rw [ho]; exact cmF_lt _ _ _ _
    refine lx_move (.int .i64 ((t : Nat) : Int)) rfl rfl <| lx_move (.int .i64 ((x : Nat) : Int)) rfl rfl <| lx_conv ((x : Nat) : Int) rfl Try.underlying3 Try.underlying45 rfl (wrap_u64 (by omega) (by omega)) <| lx_shr (m := t) (n := x) rfl rfl rfl (by show _ ≤ 64; omega) <| lx_and (m := t / 2 ^ x) (n := 1) rfl rfl rfl (by show _ < 2 ^ 64; omega) (by show _ < 2 ^ 64; omega) (wrap_i64 (by omega) (by omega)) <| lx_eqlS rfl rfl rfl (fun c2 => ?_) (fun c2 => ?_)
    · refine lx_nil <| wi_true rfl <| wi_reg rfl <| ?_
      have hul := upF_lt p.length (pb p) x
      have hal : o &&& upF p.length (pb p) x ≤ o := Nat.and_le_left
      refine lx_move (.int .i64 ((o : Nat) : Int)) rfl rfl <| lx_move (.func (.func 80) #[vp] #[]) rfl rfl <| lx_move (.int .i64 ((x : Nat) : Int)) rfl rfl <| lx_callV [vp] [] [.int .i64 ((x : Nat) : Int)] rfl rfl Try.call80 rfl rfl (up_spec h vp hs p x hr_vp ht_vp (by omega) (by first | with_reducible assumption | omega) (by omega)) (fun _ _ _ => trivial) ?_
      rintro _ h1 ⟨rfl, rfl⟩
      refine lx_and (m := o) (n := upF p.length (pb p) x) rfl rfl rfl (by show _ < 2 ^ 64; omega) (by show _ < 2 ^ 64; omega) (wrap_i64 (by omega) (by omega)) <| lx_assign (.int .i64 ((o &&& (upF p.length (pb p) x) : Nat) : Int)) rfl rfl <| lx_nil <| wi_inBlock <| wi_reg rfl <| lx_add (((x + 1 : Nat) : Int)) rfl rfl rfl (by omega) (by omega) (by omega) <| lx_move (.int .i64 ((x + 1 : Nat) : Int)) rfl rfl <| lx_nil <| ?_
      -- L0.1
      refine IH1 _ _ (x + 1, o &&& (upF p.length (pb p) x)) (agree_ups rfl agree_self) ⟨rfl, rfl, trivial⟩ ⟨rfl, ?_, ?_⟩ ?_
      · try dsimp only
        omega
      · try dsimp only
        rw [ho]
        first
        | exact cmF_yes (bit_nz (by omega))
        | exact cmF_no (bit_zero.1 (by omega))
      · first | omega | (dsimp only; omega)
    · refine lx_nil <| wi_false rfl <| wi_skip <| wi_inBlock <| wi_reg rfl <| lx_add (((x + 1 : Nat) : Int)) rfl rfl rfl (by omega) (by omega) (by omega) <| lx_move (.int .i64 ((x + 1 : Nat) : Int)) rfl rfl <| lx_nil <| ?_
      -- L0.2
      refine IH1 _ _ (x + 1, o) (agree_ups rfl agree_self) ⟨rfl, rfl, trivial⟩ ⟨rfl, ?_, ?_⟩ ?_
      · try dsimp only
        omega
      · try dsimp only
        rw [ho]
        first
        | exact cmF_yes (bit_nz (by omega))
        | exact cmF_no (bit_zero.1 (by omega))
      · first | omega | (dsimp only; omega)
  · refine lx_nil <| wi_seq <| wi_false rfl <| wi_exit rfl <| wi_seq <| wi_reg rfl <| lx_move (.int .i64 ((o : Nat) : Int)) rfl rfl <| lx_assign (.int .i64 ((o : Nat) : Int)) rfl rfl <| lx_nil <| ?_
    -- R1
    refine wi_ret ⟨.int .i64 ((o : Nat) : Int), (res_one rfl rfl), ⟨?_, rfl⟩⟩
    · rw [ho, show x = p.length from by omega, cmF_up]

set_option maxRecDepth 10000 in
theorem common_dn_spec (h : Heap) (vp : Value) (hs : List Hdr) (p : List (List Bool)) (t : Nat) (hr_vp : RdE encHd h vp hs) (ht_vp : RT encB h hs p) (hp1 : p.length ≤ 12) (hp2 : Sq p p.length) (hp3 : t < 4096) : Fx Try.prog 79 [vp, .int .i64 ((t : Nat) : Int), .func (.func 81) #[vp] #[]] h (fun v h' => v = .int .i64 ((lowS p.length (pb p) t : Nat) : Int) ∧ h = h') := by
  have hl_vp := ht_vp.1
  refine fx_intro (n := 32) [(0, vp), (1, .int .i64 ((t : Nat) : Int)), (2, .func (.func 81) #[vp] #[])] Try.func79 rfl rfl (by simp) ⟨rfl, rfl, rfl, trivial⟩ fun g0 => ?_
  refine wi_seq <| wi_reg rfl <| lx_assign (.int .i64 0) rfl rfl <| lx_nil <| wi_seq <| wi_reg rfl <| ?_
  have hpw := pow12 hp1
  have hpe : 2 ^ hs.length = 2 ^ p.length := by rw [hl_vp]
  have hp0 := Nat.two_pow_pos p.length
  refine lx_move (vp) rfl rfl <| lx_len rfl Try.underlying29 hr_vp rfl <| lx_conv ((hs.length : Nat) : Int) rfl Try.underlying3 Try.underlying45 rfl (wrap_u64 (by omega) (by omega)) <| lx_shl (m := 1) (n := hs.length) rfl rfl rfl (by show _ ≤ 64; omega) (wrap_i64 (by omega) (by omega)) <| lx_sub (((1 * 2 ^ hs.length - 1 : Nat) : Int)) rfl rfl rfl (by omega) (by omega) (by omega) <| lx_assign (.int .i64 ((1 * 2 ^ hs.length - 1 : Nat) : Int)) rfl rfl <| lx_nil <| wi_seq <| wi_seq <| wi_reg rfl <| lx_move (vp) rfl rfl <| lx_len rfl Try.underlying29 hr_vp rfl <| lx_move (.int .i64 0) rfl rfl <| lx_nil <| wi_block <| ?_
  refine wi_loop (σ := Nat × Nat) (rngB 16 31 [7, 8]) (fun (ss : Nat × Nat) => [(16, .int .i64 ((ss.1 : Nat) : Int)), (7, .int .i64 ((ss.2 : Nat) : Int))]) (fun (ss : Nat × Nat) (hh : Heap) => h = hh ∧ (ss.1 ≤ p.length) ∧ (ss.2 = cmF p.length t (dnF p.length (pb p)) ss.1)) (fun (ss : Nat × Nat) => p.length - ss.1) (0, 1 * 2 ^ hs.length - 1) ⟨rfl, rfl, trivial⟩ ⟨rfl, ?_, ?_⟩ ?_
  · try dsimp only
    omega
  · try dsimp only
    rw [cmF_zero, Nat.one_mul, hpe]
  rintro g1 ⟨x, o⟩ hh1 ⟨rfl, hx, ho⟩ IH1
  dsimp only at *
  refine wi_seq <| wi_reg rfl <| lx_lssS rfl rfl rfl (fun c1 => ?_) (fun c1 => ?_)
  · refine lx_nil <| wi_seq <| wi_true rfl <| wi_skip <| wi_seq <| wi_block <| wi_seq <| wi_reg rfl <| lx_move (.int .i64 ((x : Nat) : Int)) rfl rfl <| lx_assign (.int .i64 ((x : Nat) : Int)) rfl rfl <| lx_nil <| wi_seq <| wi_reg rfl <| ?_
    have hbl : t / 2 ^ x &&& 1 ≤ 1 := Nat.and_le_right
    have hdv := Nat.div_le_self t (2 ^ x)
    have hol : o < 2 ^ p.length := by rw [ho]; exact cmF_lt _ _ _ _
    refine lx_move (.int .i64 ((t : Nat) : Int)) rfl rfl <| lx_move (.int .i64 ((x : Nat) : Int)) rfl rfl <| lx_conv ((x : Nat) : Int) rfl Try.underlying3 Try.underlying45 rfl (wrap_u64 (by omega) (by omega)) <| lx_shr (m := t) (n := x) rfl rfl rfl (by show _ ≤ 64; omega) <| lx_and (m := t / 2 ^ x) (n := 1) rfl rfl rfl (by show _ < 2 ^ 64; omega) (by show _ < 2 ^ 64; omega) (wrap_i64 (by omega) (by omega)) <| lx_eqlS rfl rfl rfl (fun c2 => ?_) (fun c2 => ?_)
    · refine lx_nil <| wi_true rfl <| wi_reg rfl <| ?_
      have hul := dnF_lt p.length (pb p) x
      have hal : o &&& dnF p.length (pb p) x ≤ o := Nat.and_le_left
      refine lx_move (.int .i64 ((o : Nat) : Int)) rfl rfl <| lx_move (.func (.func 81) #[vp] #[]) rfl rfl <| lx_move (.int .i64 ((x : Nat) : Int)) rfl rfl <| lx_callV [vp] [] [.int .i64 ((x : Nat) : Int)] rfl rfl Try.call81 rfl rfl (down_spec h vp hs p x hr_vp ht_vp (by omega) (by first | with_reducible assumption | omega) (by omega)) (fun _ _ _ => trivial) ?_
      rintro _ h1 ⟨rfl, rfl⟩
      refine lx_and (m := o) (n := dnF p.length (pb p) x) rfl rfl rfl (by show _ < 2 ^ 64; omega) (by show _ < 2 ^ 64; omega) (wrap_i64 (by omega) (by omega)) <| lx_assign (.int .i64 ((o &&& (dnF p.length (pb p) x) : Nat) : Int)) rfl rfl <| lx_nil <| wi_inBlock <| wi_reg rfl <| lx_add (((x + 1 : Nat) : Int)) rfl rfl rfl (by omega) (by omega) (by omega) <| lx_move (.int .i64 ((x + 1 : Nat) : Int)) rfl rfl <| lx_nil <| ?_
      -- L0.1
      refine IH1 _ _ (x + 1, o &&& (dnF p.length (pb p) x)) (agree_ups rfl agree_self) ⟨rfl, rfl, trivial⟩ ⟨rfl, ?_, ?_⟩ ?_
      · try dsimp only
        omega
      · try dsimp only
        rw [ho]
        first
        | exact cmF_yes (bit_nz (by omega))
        | exact cmF_no (bit_zero.1 (by omega))
      · first | omega | (dsimp only; omega)
    · refine lx_nil <| wi_false rfl <| wi_skip <| wi_inBlock <| wi_reg rfl <| lx_add (((x + 1 : Nat) : Int)) rfl rfl rfl (by omega) (by omega) (by omega) <| lx_move (.int .i64 ((x + 1 : Nat) : Int)) rfl rfl <| lx_nil <| ?_
      -- L0.2
      refine IH1 _ _ (x + 1, o) (agree_ups rfl agree_self) ⟨rfl, rfl, trivial⟩ ⟨rfl, ?_, ?_⟩ ?_
      · try dsimp only
        omega
      · try dsimp only
        rw [ho]
        first
        | exact cmF_yes (bit_nz (by omega))
        | exact cmF_no (bit_zero.1 (by omega))
      · first | omega | (dsimp only; omega)
  · refine lx_nil <| wi_seq <| wi_false rfl <| wi_exit rfl <| wi_seq <| wi_reg rfl <| lx_move (.int .i64 ((o : Nat) : Int)) rfl rfl <| lx_assign (.int .i64 ((o : Nat) : Int)) rfl rfl <| lx_nil <| ?_
    -- R1
    refine wi_ret ⟨.int .i64 ((o : Nat) : Int), (res_one rfl rfl), ⟨?_, rfl⟩⟩
    · rw [ho, show x = p.length from by omega, cmF_dn]

end Go.Proofs.Ytdokijbdnajhgaa
namespace Go.Proofs.Ytdokijbdnajhgaa
open Go Go.X

set_option maxRecDepth 10000 in
theorem completion_spec (h : Heap) (vp : Value) (hs : List Hdr) (p : List (List Bool)) (hr_vp : RdE encHd h vp hs) (ht_vp : RT encB h hs p) (hp1 : p.length ≤ 1000000) (hp2 : ∀ i, i < p.length → (gt p i).length ≤ 1000000) : Fx Try.prog 23 [vp] h (fun v h' => ∃ (s : Value) (q : Value) (c : Value) (xs : List Int) (hq : List Hdr) (r : List (List Bool)) (cs : List Int), v = .tuple #[s, q, c, .int .i64 (chkT p)] ∧ OwE encI h' h.size 3 s xs ∧ OwE encHd h' h.size 70 q hq ∧ OT encB h' h.size 4 hq r ∧ OwE encI h' h.size 3 c cs ∧ ((chkT p ≠ 0 ∧ xs = [] ∧ r = [] ∧ cs = []) ∨ (chkT p = 0 ∧ xs = cutsF p.length (pb p) ∧ r = tabF xs.length (incF xs) ∧ cs = placesF p.length (pb p) p.length)) ∧ Ext h.size h h') := by
  have hl_vp := ht_vp.1
  refine fx_intro (n := 75) [(0, vp)] Try.func23 rfl rfl (by simp) ⟨rfl, trivial⟩ fun g0 => ?_
  refine wi_seq <| wi_reg rfl <| lx_assign (.slice none 0 0) rfl rfl <| lx_assign (.slice none 0 0) rfl rfl <| lx_assign (.slice none 0 0) rfl rfl <| lx_assign (.int .i64 0) rfl rfl <| lx_nil <| wi_seq <| wi_seq <| wi_reg rfl <| lx_move (vp) rfl rfl <| lx_call [vp] rfl rfl Try.call62 rfl (ocheck_spec h vp hs p hr_vp ht_vp (by omega) (by first | with_reducible assumption | omega)) (fun _ _ _ => trivial) ?_
  rintro _ h1 ⟨rfl, hx1⟩
  refine lx_assign (.int .i64 (chkT p)) rfl rfl <| lx_nil <| wi_seq <| wi_reg rfl <| lx_move (.int .i64 (chkT p)) rfl rfl <| lx_neqS rfl rfl rfl (fun c1 => ?_) (fun c1 => ?_)
  · refine lx_nil <| wi_true rfl <| wi_seq <| wi_reg rfl <| lx_move (.int .i64 (chkT p)) rfl rfl <| lx_assign (.slice none 0 0) rfl rfl <| lx_assign (.slice none 0 0) rfl rfl <| lx_assign (.slice none 0 0) rfl rfl <| lx_assign (.int .i64 (chkT p)) rfl rfl <| lx_nil <| ?_
    -- R1
    refine wi_ret ⟨.tuple #[.slice none 0 0, .slice none 0 0, .slice none 0 0, .int .i64 (chkT p)], (res_four rfl rfl rfl rfl rfl), ⟨.slice none 0 0, .slice none 0 0, .slice none 0 0, [], [], [], [], rfl, (owE_nil encI _ h.size 3), (owE_nil encHd _ h.size 70), (OT.nil encB _ h.size 4), (owE_nil encI _ h.size 3), ?_, hx1⟩⟩
    · exact .inl ⟨by omega, rfl, rfl, rfl⟩
  · refine lx_nil <| wi_false rfl <| wi_skip <| wi_seq <| wi_reg rfl <| ?_
    have hok := chkT_ok (p := p) (by omega)
    have hp12 : p.length ≤ 12 := hok.2.1
    have hpq : Sq p p.length := isT_sq hok.2.2
    have hsq := hpq.2
    refine lx_makeMap rfl rfl (fun _ _ _ => trivial) fun l1 h2 hl1 hmp1 hx2 => ?_
    have hbb1 : h.size ≤ l1 := by have := hx1.size; omega
    have hx0_1 := hx1.trans2 hx2 hx1.size
    refine lx_assign (.map (some l1)) rfl rfl <| lx_nil <| wi_seq <| wi_seq <| wi_reg rfl <| ?_
    have hpw := pow12 hp12
    have hpe : 2 ^ hs.length = 2 ^ p.length := by rw [hl_vp]
    refine lx_move (vp) rfl rfl <| lx_len rfl Try.underlying29 hr_vp rfl <| lx_conv ((hs.length : Nat) : Int) rfl Try.underlying3 Try.underlying45 rfl (wrap_u64 (by omega) (by omega)) <| lx_shl (m := 1) (n := hs.length) rfl rfl rfl (by show _ ≤ 64; omega) (wrap_i64 (by omega) (by omega)) <| lx_move (.int .i64 0) rfl rfl <| lx_nil <| wi_block <| ?_
    refine wi_loop (σ := Nat × (List Int)) (rngB 26 41 [8, 9]) (fun (ss : Nat × (List Int)) => [(26, .int .i64 ((ss.1 : Nat) : Int))]) (fun (ss : Nat × (List Int)) (hh : Heap) => MpO hh l1 (kv ss.2) ∧ Ext h.size h hh ∧ (ss.1 ≤ 2 ^ p.length) ∧ ss.2.Nodup ∧ (∀ x : Int, x ∈ ss.2 ↔ ∃ s, s < ss.1 ∧ x = ((cutF p.length (pb p) s : Nat) : Int))) (fun (ss : Nat × (List Int)) => 2 ^ p.length - ss.1) (0, []) ⟨rfl, trivial⟩ ⟨?_, hx0_1, ?_, ?_, ?_⟩ ?_
    · exact hmp1
    · try dsimp only
      exact Nat.zero_le _
    · try dsimp only
      exact List.nodup_nil
    · try dsimp only
      intro x; simp
    rintro g1 ⟨t, ks⟩ hh1 ⟨hmp2, hx0_2, ht, hnd, hks⟩ IH1
    dsimp only at *
    refine wi_seq <| wi_reg rfl <| lx_lssS rfl rfl rfl (fun c2 => ?_) (fun c2 => ?_)
    · refine lx_nil <| wi_seq <| wi_true rfl <| wi_skip <| wi_seq <| wi_block <| wi_seq <| wi_reg rfl <| lx_move (.int .i64 ((t : Nat) : Int)) rfl rfl <| lx_assign (.int .i64 ((t : Nat) : Int)) rfl rfl <| lx_nil <| wi_seq <| wi_reg rfl <| lx_move (vp) rfl rfl <| lx_move (.int .i64 ((t : Nat) : Int)) rfl rfl <| lx_move (vp) rfl rfl <| lx_makeFunc [vp] [] rfl rfl rfl <| lx_call [vp, .int .i64 ((t : Nat) : Int), .func (.func 80) #[vp] #[]] rfl rfl Try.call79 rfl (common_up_spec hh1 vp hs p t (hr_vp.extS hx0_2) (ht_vp.extS hx0_2) (by omega) (by first | with_reducible assumption | omega) (by omega)) (fun _ _ _ => trivial) ?_
      rintro _ h3 ⟨rfl, rfl⟩
      refine lx_assign (.int .i64 ((uppS p.length (pb p) t : Nat) : Int)) rfl rfl <| lx_nil <| wi_reg rfl <| ?_
      have hupl := uppS_lt p.length (pb p) t
      refine lx_move (.map (some l1)) rfl rfl <| lx_move (vp) rfl rfl <| lx_move (.int .i64 ((uppS p.length (pb p) t : Nat) : Int)) rfl rfl <| lx_move (vp) rfl rfl <| lx_makeFunc [vp] [] rfl rfl rfl <| lx_call [vp, .int .i64 ((uppS p.length (pb p) t : Nat) : Int), .func (.func 81) #[vp] #[]] rfl rfl Try.call79 rfl (common_dn_spec hh1 vp hs p (uppS p.length (pb p) t) (hr_vp.extS hx0_2) (ht_vp.extS hx0_2) (by omega) (by first | with_reducible assumption | omega) (by omega)) (fun _ _ _ => trivial) ?_
      rintro _ h4 ⟨rfl, rfl⟩
      refine lx_mapUpdate (((lowS p.length (pb p) (uppS p.length (pb p) t) : Nat) : Int)) (.bool true) rfl rfl Try.underlying109 Try.underlying3 hmp2 rfl rfl rfl (fun _ _ => trivial) fun h5 hmp3 hc1 => ?_
      have hx0_3 := hx0_2.trans (hc1.ext hbb1)
      rw [putM_kv] at hmp3
      refine lx_nil <| wi_inBlock <| wi_reg rfl <| lx_add (((t + 1 : Nat) : Int)) rfl rfl rfl (by omega) (by omega) (by omega) <| lx_move (.int .i64 ((t + 1 : Nat) : Int)) rfl rfl <| lx_nil <| ?_
      -- L0.1
      refine IH1 _ _ (t + 1, insK ks (((lowS p.length (pb p) (uppS p.length (pb p) t) : Nat) : Int))) (agree_ups rfl agree_self) ⟨rfl, trivial⟩ ⟨?_, hx0_3, ?_, ?_, ?_⟩ ?_
      · exact hmp3
      · try dsimp only
        omega
      · try dsimp only
        exact insK_nodup hnd
      · try dsimp only
        intro x
        rw [insK_mem, hks]
        constructor
        · rintro (⟨s, h1, h2⟩ | h1)
          · exact ⟨s, by omega, h2⟩
          · exact ⟨t, by omega, h1⟩
        · rintro ⟨s, h1, h2⟩
          rcases Nat.lt_or_ge s t with h3 | h3
          · exact .inl ⟨s, h3, h2⟩
          · obtain rfl : s = t := by omega
            exact .inr h2
      · first | omega | (dsimp only; omega)
    · refine lx_nil <| wi_seq <| wi_false rfl <| wi_exit rfl <| wi_seq <| wi_reg rfl <| lx_assign (.slice none 0 0) rfl rfl <| lx_nil <| wi_seq <| wi_seq <| wi_reg rfl <| lx_move (.map (some l1)) rfl rfl <| lx_mapRange rfl rfl Try.underlying109 hmp2 rfl (fun _ _ _ => trivial) fun l2 h6 hl2 hit1 hx3 => ?_
      have hbb2 : h.size ≤ l2 := by have := hx0_2.size; omega
      have hne1 : l1 ≠ l2 := by have := hmp2.lt; omega
      have hmp4 := hmp2.extS hx3
      have hx0_4 := hx0_2.trans2 hx3 hx0_2.size
      refine lx_nil <| wi_block <| ?_
      refine wi_loop (σ := Value × (List Int) × (List Nat)) (rngB 43 51 [10, 11]) (fun (ss : Value × (List Int) × (List Nat)) => [(10, ss.1)]) (fun (ss : Value × (List Int) × (List Nat)) (hh : Heap) => OwE encI hh h.size 3 ss.1 ss.2.1 ∧ MpO hh l1 (kv ks) ∧ ItO hh l2 l1 ((kv ks).length) ss.2.2 ∧ Ext h.size h hh ∧ (ss.2.1 = ss.2.2.map fun i => gt ks i) ∧ ss.2.2.Nodup ∧ (∀ i, i ∈ ss.2.2 → i < ks.length)) (fun (ss : Value × (List Int) × (List Nat)) => ks.length - ss.2.2.length) (.slice none 0 0, [], []) ⟨rfl, trivial⟩ ⟨?_, ?_, ?_, hx0_4, ?_, ?_, ?_⟩ ?_
      · first | exact (owE_nil encI _ h.size 3) | (simpa using (owE_nil encI _ h.size 3))
      · exact hmp4
      · exact hit1
      · try dsimp only
        first | done | rfl
      · try dsimp only
        exact List.nodup_nil
      · try dsimp only
        intro i hi; cases hi
      rintro g2 ⟨v, out, sn⟩ hh2 ⟨ho1, hmp5, hmp6, hx0_5, hout, hsn, hsl⟩ IH2
      dsimp only at *
      have hkl := keys_le hp12 hnd hks
      have hsl9 := seen_le hsn hsl
      have hol9 : out.length = sn.length := by rw [hout]; simp
      refine wi_seq <| wi_reg rfl <| lx_mapNext rfl rfl hmp5 hmp6 rfl (fun _ => trivial) (fun hall1 => ?_) (fun mi1 h7 mk1 mv1 hil1 hns1 hmg1 hit2 hc2 => ?_)
      · refine lx_extract (.bool false) rfl rfl rfl <| lx_nil <| wi_seq <| wi_false rfl <| wi_exit rfl <| wi_seq <| wi_reg rfl <| ?_
        have hso := out_sorted (n := p.length) (f := pb p) (ks := ks) (sn := sn) (fun x => by rw [hks, show t = 2 ^ p.length from by omega]) hnd hsn hsl (fun i hi => hall1 i (by rw [kv_len]; exact hi))
        rw [← hout] at hso
        have hnb := cutsF_nb (f := pb p) hp12
        have hole : out.length ≤ 4096 := by have h9 := congrArg List.length hso; rw [sort_len] at h9; omega
        have hone : out ≠ [] := fun e => cutsF_ne p.length (pb p) (by rw [← hso, e]; simp)
        refine lx_move (v) rfl rfl <| lx_call [v] rfl rfl Try.call82 rfl (lsort_spec hh2 h.size v out ho1 hx0_5.size hone (by omega)) (fun _ _ _ => trivial) ?_
        rintro _ h8 ⟨rfl, ho3, hx4⟩
        have hmp8 := hmp5.nc (Nc.of_chg hx4 ho1)
        have hmp9 := hmp6.nc (Nc.of_chg hx4 ho1)
        have hx0_7 := hx0_5.trans (ho1.ext hx4 hx0_5.size)
        refine lx_nil <| wi_seq <| wi_reg rfl <| ?_
        skip
        rw [hso] at ho3
        refine lx_assign (.slice none 0 0) rfl rfl <| lx_nil <| wi_seq <| wi_seq <| wi_reg rfl <| lx_move (vp) rfl rfl <| lx_len rfl Try.underlying29 hr_vp rfl <| lx_move (.int .i64 0) rfl rfl <| lx_nil <| wi_block <| ?_
        refine wi_loop (σ := Nat × Value × (List Int)) (rngB 55 71 [12, 13, 14, 15]) (fun (ss : Nat × Value × (List Int)) => [(55, .int .i64 ((ss.1 : Nat) : Int)), (12, ss.2.1)]) (fun (ss : Nat × Value × (List Int)) (hh : Heap) => OwE encI hh h.size 3 ss.2.1 ss.2.2 ∧ OwE encI hh h.size 3 v (cutsF p.length (pb p)) ∧ Ext h.size h hh ∧ Dj ss.2.1 v ∧ (ss.1 ≤ p.length) ∧ (ss.2.2 = placesF p.length (pb p) ss.1)) (fun (ss : Nat × Value × (List Int)) => p.length - ss.1) (0, .slice none 0 0, []) ⟨rfl, rfl, trivial⟩ ⟨?_, ?_, hx0_7, (dj_nil_l _), ?_, ?_⟩ ?_
        · first | exact (owE_nil encI _ h.size 3) | (simpa using (owE_nil encI _ h.size 3))
        · first | exact ho3 | (simpa using ho3)
        · try dsimp only
          omega
        · try dsimp only
          first | done | rfl
        rintro g3 ⟨x, w, cs⟩ hh3 ⟨ho4, ho5, hx0_8, hdj1, hx, hcs⟩ IH3
        dsimp only at *
        have hcl : cs.length = x := by rw [hcs]; exact placesF_len _ _ _
        refine wi_seq <| wi_reg rfl <| lx_lssS rfl rfl rfl (fun c3 => ?_) (fun c3 => ?_)
        · refine lx_nil <| wi_seq <| wi_true rfl <| wi_skip <| wi_seq <| wi_block <| wi_seq <| wi_reg rfl <| lx_move (.int .i64 ((x : Nat) : Int)) rfl rfl <| lx_assign (.int .i64 ((x : Nat) : Int)) rfl rfl <| lx_nil <| wi_seq <| wi_reg rfl <| lx_move (v) rfl rfl <| lx_move (vp) rfl rfl <| lx_move (.int .i64 ((x : Nat) : Int)) rfl rfl <| lx_call [vp, .int .i64 ((x : Nat) : Int)] rfl rfl Try.call81 rfl (down_spec hh3 vp hs p x (hr_vp.extS hx0_8) (ht_vp.extS hx0_8) (by omega) (by first | with_reducible assumption | omega) (by omega)) (fun _ _ _ => trivial) ?_
          rintro _ h9 ⟨rfl, rfl⟩
          refine lx_call [v, .int .i64 ((dnF p.length (pb p) x : Nat) : Int)] rfl rfl Try.call83 rfl (lfind_spec hh3 h.size v (cutsF p.length (pb p)) (((dnF p.length (pb p) x : Nat) : Int)) ho5 hx0_8.size (cutsF_ne _ _) (by omega) (cutsF_asc _ _)) (fun _ _ _ => trivial) ?_
          rintro _ h10 ⟨rfl, rfl⟩
          refine lx_move (.tuple #[.int .i64 (((cutsF p.length (pb p)).countP (fun y => decide (y < (((dnF p.length (pb p) x : Nat) : Int)))) : Nat) : Int), .bool ((cutsF p.length (pb p)).contains (((dnF p.length (pb p) x : Nat) : Int)))]) rfl rfl <| lx_extract (.int .i64 (((cutsF p.length (pb p)).countP (fun y => decide (y < (((dnF p.length (pb p) x : Nat) : Int)))) : Nat) : Int)) rfl rfl rfl <| lx_extract (.bool ((cutsF p.length (pb p)).contains (((dnF p.length (pb p) x : Nat) : Int)))) rfl rfl rfl <| lx_assign (.int .i64 (((cutsF p.length (pb p)).countP (fun y => decide (y < (((dnF p.length (pb p) x : Nat) : Int)))) : Nat) : Int)) rfl rfl <| lx_assign (.bool ((cutsF p.length (pb p)).contains (((dnF p.length (pb p) x : Nat) : Int)))) rfl rfl <| lx_nil <| wi_reg rfl <| lx_move (w) rfl rfl <| lx_move (.int .i64 (((cutsF p.length (pb p)).countP (fun y => decide (y < (((dnF p.length (pb p) x : Nat) : Int)))) : Nat) : Int)) rfl rfl <| lx_appendL (E := encI) (B := h.size) [(((cutsF p.length (pb p)).countP (fun y => decide (y < (((dnF p.length (pb p) x : Nat) : Int)))) : Nat) : Int)] [.int .i64 (((cutsF p.length (pb p)).countP (fun y => decide (y < (((dnF p.length (pb p) x : Nat) : Int)))) : Nat) : Int)] rfl rfl (fun _ => rfl) rfl eT25 rfl rfl rfl rfl ho4 (fun _ => rfl) (by show cs.length + 1 ≤ _; omega) (by show (cs.length + 1) * 8 ≤ _; omega) hx0_8.size (fun _ _ => trivial) fun u1 v1 h11 ho6 hc3 hg1 => ?_
          have hx0_9 := hx0_8.trans (ho4.ext hc3 hx0_8.size)
          have ho7 := ho5.chg hc3 (Dj.symm hdj1)
          refine lx_assign (v1) rfl rfl <| lx_nil <| wi_inBlock <| wi_reg rfl <| lx_add (((x + 1 : Nat) : Int)) rfl rfl rfl (by omega) (by omega) (by omega) <| lx_move (.int .i64 ((x + 1 : Nat) : Int)) rfl rfl <| lx_nil <| ?_
          -- L4.1
          refine IH3 _ _ (x + 1, v1, cs ++ [(((cutsF p.length (pb p)).countP (fun y => decide (y < (((dnF p.length (pb p) x : Nat) : Int)))) : Nat) : Int)]) (agree_ups rfl agree_self) ⟨rfl, rfl, trivial⟩ ⟨?_, ?_, hx0_9, (Dj.symm (dj_app (Dj.symm hdj1) ho5 hg1)), ?_, ?_⟩ ?_
          · first | exact ho6 | (simpa using ho6)
          · first | exact ho7 | (simpa using ho7)
          · try dsimp only
            omega
          · try dsimp only
            rw [placesF_succ, hcs]
          · first | omega | (dsimp only; omega)
        · refine lx_nil <| wi_seq <| wi_false rfl <| wi_exit rfl <| wi_seq <| wi_reg rfl <| lx_move (v) rfl rfl <| lx_move (v) rfl rfl <| lx_call [v] rfl rfl Try.call77 rfl (inclusion_spec hh3 v (cutsF p.length (pb p)) ho5.rd (by omega) hnb.2) (fun _ _ _ => trivial) ?_
          rintro v2 h12 ⟨_, hs_1, rfl, ho8, hot1, hx5⟩
          have hx0_10 := hx0_8.trans2 hx5 hx0_8.size
          have ho9 := ho5.extS hx5
          have ho10 := ho4.extS hx5
          have ho11 := ho8.base hx0_8.size
          have hot2 := hot1.base hx0_8.size
          have hl_hot2 := hot2.1
          refine lx_move (w) rfl rfl <| lx_assign (v) rfl rfl <| lx_assign (v2) rfl rfl <| lx_assign (w) rfl rfl <| lx_assign (.int .i64 0) rfl rfl <| lx_nil <| ?_
          -- R2
          refine wi_ret ⟨.tuple #[v, v2, w, .int .i64 0], (res_four rfl rfl rfl rfl rfl), ⟨v, v2, w, cutsF p.length (pb p), hs_1, tabF (cutsF p.length (pb p)).length (incF (cutsF p.length (pb p))), cs, ?_, ho9, ho11, hot2, ho10, ?_, hx0_10⟩⟩
          · rw [show chkT p = 0 from by omega]
          · exact .inr ⟨by omega, rfl, rfl, by rw [hcs, show x = p.length from by omega]⟩
      · have hx0_6 := hx0_5.trans (hc2.ext hbb2)
        have ho2 := hc2.owE ho1 (nb_it ho1 hmp6)
        have hmp7 := hmp5.other hc2 hne1
        refine lx_extract (.bool true) rfl rfl rfl <| lx_nil <| wi_seq <| wi_true rfl <| wi_skip <| wi_block <| wi_seq <| wi_reg rfl <| lx_mapEntry rfl rfl hmp7 hit2 hmg1 rfl (fun _ => trivial) <| lx_extract (.int .i64 mk1) rfl rfl rfl <| lx_assign (.int .i64 mk1) rfl rfl <| lx_nil <| wi_reg rfl <| lx_move (v) rfl rfl <| lx_move (.int .i64 mk1) rfl rfl <| lx_appendL (E := encI) (B := h.size) [mk1] [.int .i64 mk1] rfl rfl (fun _ => rfl) rfl eT25 rfl rfl rfl rfl ho2 (fun _ => rfl) (by show out.length + 1 ≤ _; omega) (by show (out.length + 1) * 8 ≤ _; omega) hx0_6.size (fun _ _ => trivial) fun u2 v3 h13 ho12 hc4 hg2 => ?_
        have hmp10 := hmp7.nc (Nc.of_chg hc4 ho2)
        have hmp11 := hit2.nc (Nc.of_chg hc4 ho2)
        have hx0_11 := hx0_6.trans (ho2.ext hc4 hx0_6.size)
        refine lx_assign (v3) rfl rfl <| lx_nil <| wi_inBlock <| ?_
        obtain ⟨hq1, hq2, hq3⟩ := seen_snoc hsn hsl (by rw [kv_len] at hil1; exact hil1) hns1
        -- L2.1
        refine IH2 _ _ (v3, out ++ [mk1], sn ++ [mi1]) (agree_ups rfl agree_self) ⟨rfl, trivial⟩ ⟨?_, ?_, ?_, hx0_11, ?_, ?_, ?_⟩ ?_
        · first | exact ho12 | (simpa using ho12)
        · exact hmp10
        · exact hmp11
        · try dsimp only
          rw [hout, List.map_append]; simp only [List.map_cons, List.map_nil]; rw [kv_get hmg1]
        · try dsimp only
          exact hq1
        · try dsimp only
          exact hq2
        · rw [List.length_append]; show _ - (_ + 1) < _; omega

end Go.Proofs.Ytdokijbdnajhgaa
namespace Go.Proofs.Ytdokijbdnajhgaa
open Go Go.X

theorem iota_map {n : Nat} {f : Nat → Nat → Bool} {xs : List Int} (hl : xs.length = n) (h : ∀ j, j < n → gt xs j = (j : Int)) : mapE n f xs = 0 :=
  mapE_ok hl (fun i hi => by rw [h i (by omega)]; omega) fun x y hx hy hf => by rw [h x (by omega), h y (by omega)]; exact hf
set_option maxRecDepth 10000 in
theorem keeping_spec (h : Heap) (vp : Value) (hs : List Hdr) (p : List (List Bool)) (vl : Value) (xs : List Int) (hr_vp : RdE encHd h vp hs) (ht_vp : RT encB h hs p) (hr_vl : RdE encI h vl xs) (hp1 : p.length ≤ 12) (hp2 : Sq p p.length) (hp3 : 1 ≤ p.length) (hp4 : xs.length = p.length) (hp5 : ∀ j, j < xs.length → 0 ≤ gt xs j ∧ gt xs j < p.length) : Fx Try.prog 28 [vp, vl] h (fun v h' => ∃ (s : Value) (ys : List Int), v = s ∧ OwE encI h' h.size 3 s ys ∧ (mapE p.length (pb p) ys = 0) ∧ Ext h.size h h') := by
  have hl_vp := ht_vp.1
  refine fx_intro (n := 62) [(0, vp), (1, vl)] Try.func28 rfl rfl (by simp) ⟨rfl, rfl, trivial⟩ fun g0 => ?_
  refine wi_seq <| wi_reg rfl <| lx_assign (.slice none 0 0) rfl rfl <| lx_nil <| wi_seq <| wi_reg rfl <| lx_assign (.slice none 0 0) rfl rfl <| lx_nil <| wi_seq <| wi_seq <| wi_reg rfl <| lx_assign (.int .i64 0) rfl rfl <| lx_nil <| wi_block <| ?_
  refine wi_loop (σ := Nat × Value × (List Int)) (rngB 11 47 [5, 6, 7, 8, 9]) (fun (ss : Nat × Value × (List Int)) => [(6, .int .i64 ((ss.1 : Nat) : Int)), (5, ss.2.1)]) (fun (ss : Nat × Value × (List Int)) (hh : Heap) => OwE encI hh h.size 3 ss.2.1 ss.2.2 ∧ Ext h.size h hh ∧ (ss.1 ≤ p.length) ∧ (ss.2.2.length = ss.1) ∧ (∀ j, j < ss.2.2.length → 0 ≤ gt ss.2.2 j ∧ gt ss.2.2 j < p.length)) (fun (ss : Nat × Value × (List Int)) => p.length - ss.1) (0, .slice none 0 0, []) ⟨rfl, rfl, trivial⟩ ⟨?_, (Ext.refl _ _), ?_, ?_, ?_⟩ ?_
  · first | exact (owE_nil encI _ h.size 3) | (simpa using (owE_nil encI _ h.size 3))
  · try dsimp only
    omega
  · try dsimp only
    first | done | rfl
  · try dsimp only
    intro j hj; cases hj
  rintro g1 ⟨x, v, ys⟩ hh1 ⟨ho1, hx0_1, hx, hyl, hyr⟩ IH1
  dsimp only at *
  refine wi_seq <| wi_seq <| wi_reg rfl <| ?_
  have hrg := hp5
  refine lx_move (.int .i64 ((x : Nat) : Int)) rfl rfl <| lx_move (vp) rfl rfl <| lx_len rfl Try.underlying23 hr_vp rfl <| lx_lssS rfl rfl rfl (fun c1 => ?_) (fun c1 => ?_)
  · refine lx_nil <| wi_true rfl <| wi_skip <| wi_seq <| wi_block <| wi_seq <| wi_reg rfl <| ?_
    obtain ⟨a0, hga0, ha04⟩ : ∃ a0 : Nat, gt xs 0 = (a0 : Int) ∧ a0 < p.length := ⟨(gt xs 0).toNat, by have := hrg (0) (by omega); omega, by have := hrg (0) (by omega); omega⟩
    refine lx_move (vl) rfl rfl <| lx_ix (i := 0) rfl eT25 hr_vl rfl rfl (by omega) <| lx_ld (i := 0) (j := 0) (.int .i64 ((a0 : Nat) : Int)) rfl rfl fl3 (hr_vl.extS hx0_1) (by omega) (by show some (Value.int .i64 (gt xs 0)) = _; rw [hga0]) rfl <| lx_assign (.int .i64 ((a0 : Nat) : Int)) rfl rfl <| lx_nil <| wi_seq <| wi_seq <| wi_reg rfl <| lx_assign (.int .i64 0) rfl rfl <| lx_nil <| wi_block <| ?_
    refine wi_loop (σ := Nat × Nat) (rngB 20 43 [7, 8, 9]) (fun (ss : Nat × Nat) => [(8, .int .i64 ((ss.1 : Nat) : Int)), (7, .int .i64 ((ss.2 : Nat) : Int))]) (fun (ss : Nat × Nat) (hh : Heap) => hh1 = hh ∧ (ss.1 ≤ p.length) ∧ (ss.2 < p.length)) (fun (ss : Nat × Nat) => p.length - ss.1) (0, a0) ⟨rfl, rfl, trivial⟩ ⟨rfl, ?_, ?_⟩ ?_
    · try dsimp only
      omega
    · try dsimp only
      omega
    rintro g2 ⟨y, a⟩ hh2 ⟨rfl, hy, ha⟩ IH2
    dsimp only at *
    refine wi_seq <| wi_seq <| wi_reg rfl <| lx_move (.int .i64 ((y : Nat) : Int)) rfl rfl <| lx_move (vp) rfl rfl <| lx_len rfl Try.underlying23 hr_vp rfl <| lx_lssS rfl rfl rfl (fun c2 => ?_) (fun c2 => ?_)
    · refine lx_nil <| wi_true rfl <| wi_skip <| wi_seq <| wi_block <| wi_seq <| wi_reg rfl <| lx_move (vp) rfl rfl <| lx_move (.int .i64 ((y : Nat) : Int)) rfl rfl <| lx_ix (i := y) rfl eT23 hr_vp rfl rfl (by omega) <| lx_ld (i := y) (j := 0) ((gt hs y).v) rfl rfl fl70 (hr_vp.extS hx0_1) (by omega) rfl rfl <| lx_move (.int .i64 ((x : Nat) : Int)) rfl rfl <| lx_ix (i := x) rfl eT70 (ht_vp.2 y (by omega)) rfl rfl (by rw [hp2.2 y (by omega)]; omega) <| lx_ld (i := x) (j := 0) (.bool (gt (gt p y) x)) rfl rfl fl4 ((ht_vp.extS hx0_1).2 y (by omega)) (by rw [hp2.2 y (by omega)]; omega) rfl rfl <| lx_nil <| wi_condS (t := gt (gt p y) x) rfl (fun c3 => ?_) (fun c3 => ?_)
      · refine wi_seq <| wi_reg rfl <| ?_
        obtain ⟨b, hgb, hb4⟩ : ∃ b : Nat, gt xs y = (b : Int) ∧ b < p.length := ⟨(gt xs y).toNat, by have := hrg (y) (by omega); omega, by have := hrg (y) (by omega); omega⟩
        refine lx_move (vp) rfl rfl <| lx_move (.int .i64 ((a : Nat) : Int)) rfl rfl <| lx_move (vl) rfl rfl <| lx_move (.int .i64 ((y : Nat) : Int)) rfl rfl <| lx_ix (i := y) rfl eT25 hr_vl rfl rfl (by omega) <| lx_ld (i := y) (j := 0) (.int .i64 ((b : Nat) : Int)) rfl rfl fl3 (hr_vl.extS hx0_1) (by omega) (by show some (Value.int .i64 (gt xs y)) = _; rw [hgb]) rfl <| lx_call [vp, .int .i64 ((a : Nat) : Int), .int .i64 ((b : Nat) : Int)] rfl rfl Try.call88 rfl (join_spec hh1 vp hs p a b (hr_vp.extS hx0_1) (ht_vp.extS hx0_1) (by omega) (by first | with_reducible assumption | omega) (by omega) (by omega)) (fun _ _ _ => trivial) ?_
        rintro _ h1 ⟨rfl, rfl⟩
        refine lx_assign (.int .i64 (joinF p.length (pb p) a b)) rfl rfl <| lx_nil <| wi_seq <| wi_reg rfl <| lx_move (.int .i64 (joinF p.length (pb p) a b)) rfl rfl <| lx_geqS rfl rfl rfl (fun c4 => ?_) (fun c4 => ?_)
        · refine lx_nil <| wi_true rfl <| wi_reg rfl <| ?_
          obtain ⟨jj, hjj, hjn, _⟩ := joinF_some (show 0 ≤ joinF p.length (pb p) a b by omega)
          rw [hjj]
          refine lx_move (.int .i64 ((jj : Nat) : Int)) rfl rfl <| lx_assign (.int .i64 ((jj : Nat) : Int)) rfl rfl <| lx_nil <| wi_inBlock <| wi_reg rfl <| lx_move (.int .i64 ((y : Nat) : Int)) rfl rfl <| lx_add (((y + 1 : Nat) : Int)) rfl rfl rfl (by omega) (by omega) (by omega) <| lx_assign (.int .i64 ((y + 1 : Nat) : Int)) rfl rfl <| lx_nil <| ?_
          -- L2.1
          refine IH2 _ _ (y + 1, jj) (agree_ups rfl agree_self) ⟨rfl, rfl, trivial⟩ ⟨rfl, ?_, ?_⟩ ?_
          · try dsimp only
            omega
          · try dsimp only
            omega
          · first | omega | (dsimp only; omega)
        · refine lx_nil <| wi_false rfl <| wi_skip <| wi_inBlock <| wi_reg rfl <| lx_move (.int .i64 ((y : Nat) : Int)) rfl rfl <| lx_add (((y + 1 : Nat) : Int)) rfl rfl rfl (by omega) (by omega) (by omega) <| lx_assign (.int .i64 ((y + 1 : Nat) : Int)) rfl rfl <| lx_nil <| ?_
          -- L2.2
          refine IH2 _ _ (y + 1, a) (agree_ups rfl agree_self) ⟨rfl, rfl, trivial⟩ ⟨rfl, ?_, ?_⟩ ?_
          · try dsimp only
            omega
          · try dsimp only
            omega
          · first | omega | (dsimp only; omega)
      · refine wi_skip <| wi_inBlock <| wi_reg rfl <| lx_move (.int .i64 ((y : Nat) : Int)) rfl rfl <| lx_add (((y + 1 : Nat) : Int)) rfl rfl rfl (by omega) (by omega) (by omega) <| lx_assign (.int .i64 ((y + 1 : Nat) : Int)) rfl rfl <| lx_nil <| ?_
        -- L2.3
        refine IH2 _ _ (y + 1, a) (agree_ups rfl agree_self) ⟨rfl, rfl, trivial⟩ ⟨rfl, ?_, ?_⟩ ?_
        · try dsimp only
          omega
        · try dsimp only
          omega
        · first | omega | (dsimp only; omega)
    · refine lx_nil <| wi_false rfl <| wi_exit rfl <| wi_reg rfl <| lx_move (v) rfl rfl <| lx_move (.int .i64 ((a : Nat) : Int)) rfl rfl <| lx_appendL (E := encI) (B := h.size) [((a : Nat) : Int)] [.int .i64 ((a : Nat) : Int)] rfl rfl (fun _ => rfl) rfl eT25 rfl rfl rfl rfl ho1 (fun _ => rfl) (by show ys.length + 1 ≤ _; omega) (by show (ys.length + 1) * 8 ≤ _; omega) hx0_1.size (fun _ _ => trivial) fun u1 v1 h2 ho2 hc1 hg1 => ?_
      have hx0_2 := hx0_1.trans (ho1.ext hc1 hx0_1.size)
      refine lx_assign (v1) rfl rfl <| lx_nil <| wi_inBlock <| wi_reg rfl <| lx_move (.int .i64 ((x : Nat) : Int)) rfl rfl <| lx_add (((x + 1 : Nat) : Int)) rfl rfl rfl (by omega) (by omega) (by omega) <| lx_assign (.int .i64 ((x + 1 : Nat) : Int)) rfl rfl <| lx_nil <| ?_
      -- L0.1
      refine IH1 _ _ (x + 1, v1, ys ++ [((a : Nat) : Int)]) (agree_ups rfl (agree_mix (rngB_sub (by decide) (by decide) rfl) (agree_ups rfl agree_self))) ⟨rfl, rfl, trivial⟩ ⟨?_, hx0_2, ?_, ?_, ?_⟩ ?_
      · first | exact ho2 | (simpa using ho2)
      · try dsimp only
        omega
      · try dsimp only
        first | omega | (simp only [List.length_append, List.length_cons, List.length_nil]; omega)
      · try dsimp only
        intro j hj
        rw [List.length_append, List.length_cons, List.length_nil] at hj
        by_cases e : j < ys.length
        · rw [gt_append_left e]; exact hyr j e
        · rw [show j = ys.length from by omega, gt_append_right]; omega
      · first | omega | (dsimp only; omega)
  · refine lx_nil <| wi_false rfl <| wi_exit rfl <| wi_seq <| wi_seq <| wi_reg rfl <| ?_
    have hyn : ys.length = p.length := by omega
    refine lx_move (vp) rfl rfl <| lx_move (v) rfl rfl <| lx_call [vp, v] rfl rfl Try.call26 rfl (rmap_spec hh1 vp hs p v ys (hr_vp.extS hx0_1) (ht_vp.extS hx0_1) ho1.rd (by omega) (by first | with_reducible assumption | omega) (by omega)) (fun _ _ _ => trivial) ?_
    rintro _ h3 ⟨rfl, rfl⟩
    refine lx_neqS rfl rfl rfl (fun c5 => ?_) (fun c5 => ?_)
    · refine lx_nil <| wi_true rfl <| wi_seq <| wi_reg rfl <| lx_assign (.int .i64 0) rfl rfl <| lx_nil <| wi_block <| ?_
      refine wi_loop (σ := Nat × (List Int)) (rngB 51 61 [10]) (fun (ss : Nat × (List Int)) => [(10, .int .i64 ((ss.1 : Nat) : Int))]) (fun (ss : Nat × (List Int)) (hh : Heap) => OwE encI hh h.size 3 v ss.2 ∧ Ext h.size h hh ∧ (ss.1 ≤ p.length) ∧ (ss.2.length = p.length) ∧ (∀ j, j < ss.1 → gt ss.2 j = (j : Int))) (fun (ss : Nat × (List Int)) => p.length - ss.1) (0, ys) ⟨rfl, trivial⟩ ⟨?_, hx0_1, ?_, ?_, ?_⟩ ?_
      · first | exact ho1 | (simpa using ho1)
      · try dsimp only
        omega
      · try dsimp only
        exact hyn
      · try dsimp only
        intro j hj; omega
      rintro g3 ⟨z, zs⟩ hh3 ⟨ho3, hx0_3, hz, hzl, hzr⟩ IH3
      dsimp only at *
      refine wi_seq <| wi_seq <| wi_reg rfl <| lx_move (.int .i64 ((z : Nat) : Int)) rfl rfl <| lx_move (vp) rfl rfl <| lx_len rfl Try.underlying23 hr_vp rfl <| lx_lssS rfl rfl rfl (fun c6 => ?_) (fun c6 => ?_)
      · refine lx_nil <| wi_true rfl <| wi_skip <| wi_seq <| wi_block <| wi_reg rfl <| lx_move (v) rfl rfl <| lx_move (.int .i64 ((z : Nat) : Int)) rfl rfl <| lx_move (.int .i64 ((z : Nat) : Int)) rfl rfl <| lx_ix (i := z) rfl eT25 ho3.rd rfl rfl (by omega) <| lx_st (i := z) (((z : Nat) : Int)) rfl rfl Try.sizeOf3 ho3 (by omega) rfl rfl (fun _ _ _ _ _ => trivial) fun h4 ho4 hc2 hsz1 => ?_
        have hx0_4 := hx0_3.trans (ho3.ext hc2 hx0_3.size)
        refine lx_nil <| wi_inBlock <| wi_reg rfl <| lx_move (.int .i64 ((z : Nat) : Int)) rfl rfl <| lx_add (((z + 1 : Nat) : Int)) rfl rfl rfl (by omega) (by omega) (by omega) <| lx_assign (.int .i64 ((z + 1 : Nat) : Int)) rfl rfl <| lx_nil <| ?_
        -- L4.1
        refine IH3 _ _ (z + 1, zs.set z (((z : Nat) : Int))) (agree_ups rfl agree_self) ⟨rfl, trivial⟩ ⟨?_, hx0_4, ?_, ?_, ?_⟩ ?_
        · first | exact ho4 | (simpa using ho4)
        · try dsimp only
          omega
        · try dsimp only
          rw [List.length_set]; exact hzl
        · try dsimp only
          intro j hj
          rw [gt_set (by omega)]
          by_cases e : j = z
          · rw [if_pos e, e]
          · rw [if_neg e]; exact hzr j (by omega)
        · first | omega | (dsimp only; omega)
      · refine lx_nil <| wi_false rfl <| wi_exit rfl <| wi_seq <| wi_reg rfl <| lx_move (v) rfl rfl <| lx_assign (v) rfl rfl <| lx_nil <| ?_
        -- R1
        refine wi_ret ⟨v, (res_one rfl rfl), ⟨v, zs, rfl, ho3, ?_, hx0_3⟩⟩
        · exact iota_map hzl fun j hj => hzr j (by omega)
    · refine lx_nil <| wi_false rfl <| wi_skip <| wi_seq <| wi_reg rfl <| lx_move (v) rfl rfl <| lx_assign (v) rfl rfl <| lx_nil <| ?_
      -- R2
      refine wi_ret ⟨v, (res_one rfl rfl), ⟨v, ys, rfl, ho1, ?_, hx0_1⟩⟩
      · omega

end Go.Proofs.Ytdokijbdnajhgaa
namespace Go.Proofs.Ytdokijbdnajhgaa
open Go Go.X

end Go.Proofs.Ytdokijbdnajhgaa
namespace Go.Proofs.Ytdokijbdnajhgaa
open Go Go.X

theorem opnC_of {p : List (List Bool)} (h : chkT p = 0) (hg : ngB p.length (pb p) = true) : opnC p = 0 := by unfold opnC; rw [if_pos h, if_pos hg]
end Go.Proofs.Ytdokijbdnajhgaa
namespace Go.Proofs.Ytdokijbdnajhgaa
open Go Go.X

theorem place_at {n x : Nat} {f : Nat → Nat → Bool} (ho : IsO n f) (hx : x < n) : ∃ j : Nat, gt (placesF n f n) x = (j : Int) ∧ j < (cutsF n f).length ∧ gt (cutsF n f) j = ((dnF n f x : Nat) : Int) := by
  obtain ⟨j, h1, h2, h3⟩ := cuts_at ho hx
  refine ⟨j, ?_, h2, (h3 j h2).2 rfl⟩
  rw [gt_eq (by rw [placesF_len]; exact hx)]
  simp only [placesF, List.getElem_map, List.getElem_range]
  rw [h1]
theorem ng_congr {m : Nat} {f g : Nat → Nat → Bool} (h : ∀ x y, x < m → y < m → f x y = g x y) (hn : noGap m f) : noGap m g := fun i j hij hj => by
  have := hn i j hij hj
  unfold gapB at *
  rw [join_congr h (by omega) hj, show meetF m f i j = meetF m g i j from join_congr (f := flipF f) (g := flipF g) (fun x y hx hy => h y x hy hx) (by omega) hj] at this
  exact this
theorem tab_lat {m : Nat} {h : Nat → Nat → Bool} (h1 : 1 ≤ m) (h2 : m ≤ 12) (ho : IsO m h) (hg : noGap m h) : chkT (tabF m h) = 0 ∧ opnC (tabF m h) = 0 := by
  have hc : chkT (tabF m h) = 0 := chkT_zero (by rw [tabF_length]; exact h1) (by rw [tabF_length]; exact h2) (isT_tabF ho)
  refine ⟨hc, opnC_of hc (ngB_iff.2 ?_)⟩
  rw [tabF_length]
  exact ng_congr (fun x y hx hy => (pb_tabF hx hy).symm) hg
theorem tab_lenB {m : Nat} {h : Nat → Nat → Bool} {r : List (List Bool)} (e : r = tabF m h) (hm : m ≤ 4096) : r.length ≤ 1000000 ∧ ∀ i, i < r.length → (gt r i).length ≤ 1000000 := by
  obtain ⟨h1, h2⟩ := tab_le e hm
  exact ⟨by omega, fun i hi => by have := h2 i hi; omega⟩

set_option maxRecDepth 10000 in
theorem orderTarski_spec (h : Heap) (n : Int) (vl : Value) (ls : List (Int × Int)) (vf : Value) (fs : List Int) (hr_vl : RdE encP h vl ls) (hr_vf : RdE encI h vf fs) (hp1 : ls.length ≤ 9223372036854775807) (hp2 : fs.length ≤ 9223372036854775807) : Fx Try.prog 7 [.int .i64 n, vl, vf] h (fun v h' => v = .bool true ∧ Ext h.size h h') := by
  refine fx_intro (n := 216) [(0, .int .i64 n), (1, vl), (2, vf)] Try.func7 rfl rfl (by simp) ⟨rfl, rfl, rfl, trivial⟩ fun g0 => ?_
  refine wi_seq <| wi_reg rfl <| lx_assign (.bool false) rfl rfl <| lx_nil <| wi_seq <| wi_reg rfl <| lx_move (.int .i64 n) rfl rfl <| lx_move (vl) rfl rfl <| lx_call [.int .i64 n, vl, .int .i64 8] rfl rfl Try.call15 rfl (tame_spec h n vl ls 8 hr_vl (by omega) (by omega) (by omega)) (fun _ _ _ => trivial) ?_
  rintro vp h1 ⟨_, hsp, p, rfl, ho1, hot1, htm, hx1⟩
  have ho2 := ho1.base (Nat.le_refl h.size)
  have hot2 := hot1.base (Nat.le_refl h.size)
  have hl_hot2 := hot2.1
  refine lx_assign (vp) rfl rfl <| lx_nil <| wi_seq <| wi_reg rfl <| ?_
  obtain ⟨hpt, hp0, hpm⟩ := htm
  have hpq : Sq p p.length := isT_sq hpt
  have hio := isT_o hpt
  have hck : chkT p = 0 := chkT_zero hp0 (by omega) hpt
  have hle : ∀ i, i < p.length → (gt p i).length ≤ 1000000 := fun i hi => by rw [hpq.2 i hi]; omega
  refine lx_move (vp) rfl rfl <| lx_call [vp] rfl rfl Try.call23 rfl (completion_spec h1 vp hsp p ho2.rd hot2.rt (by omega) hle) (fun _ _ _ => trivial) ?_
  rintro _ h2 ⟨va, vq, vc, xa, hqq, rq, xc, rfl, ho3, ho4, hot3, ho5, hco, hx2⟩
  have hx0_1 := hx1.trans2 hx2 hx1.size
  have ho6 := ho2.extS hx2
  have hot4 := hot2.extS hx2
  have ho7 := ho3.base hx1.size
  have ho8 := ho4.base hx1.size
  have hot5 := hot3.base hx1.size
  have hl_hot5 := hot5.1
  have ho9 := ho5.base hx1.size
  refine lx_move (.tuple #[va, vq, vc, .int .i64 (chkT p)]) rfl rfl <| lx_extract (va) rfl rfl rfl <| lx_extract (vq) rfl rfl rfl <| lx_extract (vc) rfl rfl rfl <| lx_extract (.int .i64 (chkT p)) rfl rfl rfl <| lx_assign (va) rfl rfl <| lx_assign (vq) rfl rfl <| lx_assign (vc) rfl rfl <| lx_assign (.int .i64 (chkT p)) rfl rfl <| lx_nil <| wi_seq <| wi_seq <| wi_reg rfl <| ?_
  obtain ⟨hxa, hrq, hxc⟩ := goodA hco hck
  have hnb := cutsF_nb (f := pb p) (show p.length ≤ 12 by omega)
  rw [hxa] at hrq
  have hcl : xc.length = p.length := by rw [hxc, placesF_len]
  have hql : rq.length = (cutsF p.length (pb p)).length := by rw [hrq, tabF_length]
  have hqr : ∀ i, i < (cutsF p.length (pb p)).length → (gt rq i).length = (cutsF p.length (pb p)).length := fun i hi => by rw [hrq, gt_tabF hi, rowF_length]
  have hcp : 0 < (cutsF p.length (pb p)).length := List.length_pos_iff.2 (cutsF_ne p.length (pb p))
  have hqle := tab_lenB hrq hnb.1
  refine lx_move (.int .i64 (chkT p)) rfl rfl <| lx_neqF rfl rfl rfl (fun h9 => h9 hck) <| lx_move (.bool false) rfl rfl <| lx_move (vc) rfl rfl <| lx_len rfl Try.underlying25 ho9.rd rfl <| lx_move (vp) rfl rfl <| lx_len rfl Try.underlying23 ho6.rd rfl <| lx_neqF rfl rfl rfl (by omega) <| lx_pick false (.bool false) rfl rfl rfl <| lx_nil <| wi_false rfl <| wi_skip <| wi_seq <| wi_seq <| wi_reg rfl <| lx_assign (.int .i64 0) rfl rfl <| lx_nil <| wi_block <| ?_
  refine wi_loop (σ := Nat) (rngB 54 87 [6, 12, 13]) (fun (x : Nat) => [(12, .int .i64 ((x : Nat) : Int))]) (fun (x : Nat) (hh : Heap) => h2 = hh ∧ (x ≤ p.length)) (fun (x : Nat) => p.length - x) 0 ⟨rfl, trivial⟩ ⟨rfl, ?_⟩ ?_
  · try dsimp only
    omega
  rintro g1 x hh1 ⟨rfl, hx⟩ IH1
  refine wi_seq <| wi_seq <| wi_reg rfl <| lx_move (.int .i64 ((x : Nat) : Int)) rfl rfl <| lx_move (vp) rfl rfl <| lx_len rfl Try.underlying23 ho6.rd rfl <| lx_lssS rfl rfl rfl (fun c1 => ?_) (fun c1 => ?_)
  · refine lx_nil <| wi_true rfl <| wi_skip <| wi_seq <| wi_block <| wi_seq <| wi_reg rfl <| lx_assign (.int .i64 0) rfl rfl <| lx_nil <| wi_block <| ?_
    refine wi_loop (σ := Nat) (rngB 60 87 [6, 13]) (fun (y : Nat) => [(13, .int .i64 ((y : Nat) : Int))]) (fun (y : Nat) (hh : Heap) => h2 = hh ∧ (y ≤ p.length)) (fun (y : Nat) => p.length - y) 0 ⟨rfl, trivial⟩ ⟨rfl, ?_⟩ ?_
    · try dsimp only
      omega
    rintro g2 y hh2 ⟨rfl, hy⟩ IH2
    refine wi_seq <| wi_seq <| wi_reg rfl <| lx_move (.int .i64 ((y : Nat) : Int)) rfl rfl <| lx_move (vp) rfl rfl <| lx_len rfl Try.underlying23 ho6.rd rfl <| lx_lssS rfl rfl rfl (fun c2 => ?_) (fun c2 => ?_)
    · refine lx_nil <| wi_true rfl <| wi_skip <| wi_seq <| wi_block <| wi_seq <| wi_draw mo rfl (by decide +kernel) <| ?_
      obtain ⟨jx, hjx1, hjx2, hjx3⟩ := place_at hio (show x < p.length by omega)
      obtain ⟨jy, hjy1, hjy2, hjy3⟩ := place_at hio (show y < p.length by omega)
      rw [← hxc] at hjx1 hjy1
      have hqx := hqr jx hjx2
      have hqe : pb rq jx jy = pb p x y := by rw [hrq, pb_tabF hjx2 hjy2, incF_at hjx3 hjy3, dn_incl hio (by omega) (by omega)]
      refine lx_move (vq) rfl rfl <| lx_move (vc) rfl rfl <| lx_move (.int .i64 ((x : Nat) : Int)) rfl rfl <| lx_ix (i := x) rfl eT25 ho9.rd rfl rfl (by omega) <| lx_ld (i := x) (j := 0) (.int .i64 ((jx : Nat) : Int)) rfl rfl fl3 ho9.rd (by omega) (by show some (Value.int .i64 (gt xc x)) = _; rw [hjx1]) rfl <| lx_ix (i := jx) rfl eT29 ho8.rd rfl rfl (by omega) <| lx_ld (i := jx) (j := 0) ((gt hqq jx).v) rfl rfl fl70 ho8.rd (by omega) rfl rfl <| lx_move (vc) rfl rfl <| lx_move (.int .i64 ((y : Nat) : Int)) rfl rfl <| lx_ix (i := y) rfl eT25 ho9.rd rfl rfl (by omega) <| lx_ld (i := y) (j := 0) (.int .i64 ((jy : Nat) : Int)) rfl rfl fl3 ho9.rd (by omega) (by show some (Value.int .i64 (gt xc y)) = _; rw [hjy1]) rfl <| lx_ix (i := jy) rfl eT70 (hot5.2.1 jx (by omega)).rd rfl rfl (by omega) <| lx_ld (i := jy) (j := 0) (.bool (gt (gt rq jx) jy)) rfl rfl fl4 (hot5.2.1 jx (by omega)).rd (by omega) rfl rfl <| lx_move (vp) rfl rfl <| lx_move (.int .i64 ((x : Nat) : Int)) rfl rfl <| lx_ix (i := x) rfl eT23 ho6.rd rfl rfl (by omega) <| lx_ld (i := x) (j := 0) ((gt hsp x).v) rfl rfl fl70 ho6.rd (by omega) rfl rfl <| lx_move (.int .i64 ((y : Nat) : Int)) rfl rfl <| lx_ix (i := y) rfl eT70 (hot4.2.1 x (by omega)).rd rfl rfl (by rw [hpq.2 x (by omega)]; omega) <| lx_ld (i := y) (j := 0) (.bool (gt (gt p x) y)) rfl rfl fl4 (hot4.2.1 x (by omega)).rd (by rw [hpq.2 x (by omega)]; omega) rfl rfl <| lx_neqBool false rfl Try.underlying4 rfl rfl (by rw [show gt (gt rq jx) jy = gt (gt p x) y from hqe]; cases gt (gt p x) y <;> rfl) <| lx_nil <| wi_false rfl <| wi_skip <| wi_inBlock <| wi_reg rfl <| lx_move (.int .i64 ((y : Nat) : Int)) rfl rfl <| lx_add (((y + 1 : Nat) : Int)) rfl rfl rfl (by omega) (by omega) (by omega) <| lx_assign (.int .i64 ((y + 1 : Nat) : Int)) rfl rfl <| lx_nil <| ?_
      -- L2.1
      refine IH2 _ _ (y + 1) (agree_ups rfl agree_self) ⟨rfl, trivial⟩ ⟨rfl, ?_⟩ ?_
      · try dsimp only
        omega
      · first | omega | (dsimp only; omega)
    · refine lx_nil <| wi_false rfl <| wi_exit rfl <| wi_inBlock <| wi_reg rfl <| lx_move (.int .i64 ((x : Nat) : Int)) rfl rfl <| lx_add (((x + 1 : Nat) : Int)) rfl rfl rfl (by omega) (by omega) (by omega) <| lx_assign (.int .i64 ((x + 1 : Nat) : Int)) rfl rfl <| lx_nil <| ?_
      -- L0.1
      refine IH1 _ _ (x + 1) (agree_ups rfl (agree_mix (rngB_sub (by decide) (by decide) rfl) (agree_ups rfl agree_self))) ⟨rfl, trivial⟩ ⟨rfl, ?_⟩ ?_
      · try dsimp only
        omega
      · first | omega | (dsimp only; omega)
  · refine lx_nil <| wi_false rfl <| wi_exit rfl <| wi_seq <| wi_seq <| wi_reg rfl <| lx_move (vq) rfl rfl <| lx_len rfl Try.underlying29 ho8.rd rfl <| lx_leqS rfl rfl rfl (fun c3 => ?_) (fun c3 => ?_)
    · refine lx_nil <| wi_true rfl <| wi_seq <| wi_reg rfl <| lx_move (vq) rfl rfl <| lx_call [vq] rfl rfl Try.call29 rfl (lattice_spec h2 vq hqq rq ho8.rd hot5.rt hqle.1 hqle.2) (fun _ _ _ => trivial) ?_
      rintro _ h3 ⟨vj, vm, hj, hm, rj, rm, okq, rfl, ho10, hot6, ho11, hot7, hopq, hx3⟩
      have hx0_2 := hx0_1.trans2 hx3 hx0_1.size
      have ho12 := ho6.extS hx3
      have hot8 := hot4.extS hx3
      have ho13 := ho7.extS hx3
      have ho14 := ho8.extS hx3
      have hot9 := hot5.extS hx3
      have ho15 := ho9.extS hx3
      have ho16 := ho10.base hx0_1.size
      have hot10 := hot6.base hx0_1.size
      have hl_hot10 := hot10.1
      have ho17 := ho11.base hx0_1.size
      have hot11 := hot7.base hx0_1.size
      have hl_hot11 := hot11.1
      refine lx_move (.tuple #[vj, vm, .bool okq, .int .i64 (chkT rq)]) rfl rfl <| lx_extract (vj) rfl rfl rfl <| lx_extract (vm) rfl rfl rfl <| lx_extract (.bool okq) rfl rfl rfl <| lx_extract (.int .i64 (chkT rq)) rfl rfl rfl <| lx_assign (vj) rfl rfl <| lx_assign (vm) rfl rfl <| lx_assign (.bool okq) rfl rfl <| lx_assign (.int .i64 (chkT rq)) rfl rfl <| lx_nil <| wi_seq <| wi_reg rfl <| ?_
      obtain ⟨hqc, hqo⟩ := tab_lat (m := (cutsF p.length (pb p)).length) (h := incF (cutsF p.length (pb p))) (by omega) (by omega) compl_o compl_lat
      rw [← hrq] at hqc hqo
      have hok1 : okq = true := by rw [hopq.2, hqo]; rfl
      subst hok1
      refine lx_move (.int .i64 (chkT rq)) rfl rfl <| lx_neqF rfl rfl rfl (fun h9 => h9 hqc) <| lx_move (.bool false) rfl rfl <| lx_move (.bool true) rfl rfl <| lx_notB false rfl rfl rfl <| lx_pick false (.bool false) rfl rfl rfl <| lx_nil <| wi_false rfl <| wi_skip <| wi_seq <| wi_reg rfl <| lx_move (vp) rfl rfl <| lx_call [vp] rfl rfl Try.call30 rfl (ogap_spec h3 vp hsp p ho12.rd hot8.rt (by omega) hle) (fun _ _ _ => trivial) ?_
      rintro _ h4 ⟨ox, oy, gb, rfl, hog, hx4⟩
      have hx0_3 := hx0_2.trans2 hx4 hx0_2.size
      have ho18 := ho12.extS hx4
      have hot12 := hot8.extS hx4
      have ho19 := ho13.extS hx4
      have ho20 := ho14.extS hx4
      have hot13 := hot9.extS hx4
      have ho21 := ho15.extS hx4
      have ho22 := ho16.extS hx4
      have hot14 := hot10.extS hx4
      have ho23 := ho17.extS hx4
      have hot15 := hot11.extS hx4
      refine lx_move (.tuple #[.int .i64 ((ox : Nat) : Int), .int .i64 ((oy : Nat) : Int), .bool gb, .int .i64 (chkT p)]) rfl rfl <| lx_extract (.int .i64 ((ox : Nat) : Int)) rfl rfl rfl <| lx_extract (.int .i64 ((oy : Nat) : Int)) rfl rfl rfl <| lx_extract (.bool gb) rfl rfl rfl <| lx_extract (.int .i64 (chkT p)) rfl rfl rfl <| lx_assign (.int .i64 ((ox : Nat) : Int)) rfl rfl <| lx_assign (.int .i64 ((oy : Nat) : Int)) rfl rfl <| lx_assign (.bool gb) rfl rfl <| lx_assign (.int .i64 (chkT p)) rfl rfl <| lx_nil <| wi_seq <| wi_seq <| wi_reg rfl <| ?_
      have hgr := goodA hog hck
      have hgb := gapR_ng hgr
      refine lx_move (.int .i64 (chkT p)) rfl rfl <| lx_neqF rfl rfl rfl (fun h9 => h9 hck) <| lx_move (.bool false) rfl rfl <| lx_move (.bool gb) rfl rfl <| lx_pick false (.bool gb) rfl rfl rfl <| lx_nil <| wi_condS (t := gb) rfl (fun c4 => ?_) (fun c4 => ?_)
      · refine wi_seq <| wi_reg rfl <| lx_move (.int .i64 (chkT p)) rfl rfl <| lx_eqlT rfl rfl rfl hck <| lx_move (.bool true) rfl rfl <| lx_call [] rfl rfl Try.call20 rfl (awake_spec h4 ) (fun _ _ _ => trivial) ?_
        rintro _ h5 ⟨rfl, hx5⟩
        have hx0_4 := hx0_3.trans2 hx5 hx0_3.size
        have ho24 := ho18.extS hx5
        have hot16 := hot12.extS hx5
        have ho25 := ho19.extS hx5
        have ho26 := ho20.extS hx5
        have hot17 := hot13.extS hx5
        have ho27 := ho21.extS hx5
        have ho28 := ho22.extS hx5
        have hot18 := hot14.extS hx5
        have ho29 := ho23.extS hx5
        have hot19 := hot15.extS hx5
        refine lx_pick true (.bool true) rfl rfl rfl <| lx_assign (.bool true) rfl rfl <| lx_nil <| ?_
        -- R1
        refine wi_ret ⟨.bool true, (res_one rfl rfl), ⟨rfl, hx0_4⟩⟩
      · refine wi_skip <| wi_seq <| wi_seq <| wi_reg rfl <| ?_
        have hng : noGap p.length (pb p) := ngB_iff.1 (by rw [show gb = false from by assumption] at hgb; simpa using hgb.symm)
        have hcn := cuts_len hio hng hp0
        refine lx_move (vq) rfl rfl <| lx_len rfl Try.underlying29 ho20.rd rfl <| lx_move (vp) rfl rfl <| lx_len rfl Try.underlying23 ho18.rd rfl <| lx_neqF rfl rfl rfl (by omega) <| lx_nil <| wi_false rfl <| wi_skip <| wi_seq <| wi_reg rfl <| lx_assign (.slice none 0 0) rfl rfl <| lx_nil <| wi_seq <| wi_seq <| wi_reg rfl <| lx_assign (.int .i64 0) rfl rfl <| lx_nil <| wi_block <| ?_
        refine wi_loop (σ := Nat × Value × (List Int)) (rngB 125 154 [22, 23, 24]) (fun (ss : Nat × Value × (List Int)) => [(23, .int .i64 ((ss.1 : Nat) : Int)), (22, ss.2.1)]) (fun (ss : Nat × Value × (List Int)) (hh : Heap) => OwE encI hh h.size 3 ss.2.1 ss.2.2 ∧ OwE encHd hh h.size 70 vp hsp ∧ OT encB hh h.size 4 hsp p ∧ Ext h.size h hh ∧ (ss.1 ≤ p.length) ∧ (ss.2.2.length = ss.1) ∧ (∀ j, j < ss.2.2.length → 0 ≤ gt ss.2.2 j ∧ gt ss.2.2 j < p.length)) (fun (ss : Nat × Value × (List Int)) => p.length - ss.1) (0, .slice none 0 0, []) ⟨rfl, rfl, trivial⟩ ⟨?_, ?_, ?_, hx0_3, ?_, ?_, ?_⟩ ?_
        · first | exact (owE_nil encI _ h.size 3) | (simpa using (owE_nil encI _ h.size 3))
        · first | exact ho18 | (simpa using ho18)
        · first | exact hot12 | (simpa using hot12)
        · try dsimp only
          omega
        · try dsimp only
          first | done | rfl
        · try dsimp only
          intro j hj; cases hj
        rintro g3 ⟨x, v, ys⟩ hh3 ⟨ho30, ho31, hot20, hx0_5, hx, hyl, hyr⟩ IH3
        dsimp only at *
        have hl_hot20 := hot20.1
        refine wi_seq <| wi_seq <| wi_reg rfl <| ?_
        have hl_vp9 : hsp.length = p.length := by omega
        refine lx_move (.int .i64 ((x : Nat) : Int)) rfl rfl <| lx_move (vp) rfl rfl <| lx_len rfl Try.underlying23 ho31.rd rfl <| lx_lssS rfl rfl rfl (fun c5 => ?_) (fun c5 => ?_)
        · refine lx_nil <| wi_true rfl <| wi_skip <| wi_seq <| wi_block <| wi_seq <| wi_reg rfl <| lx_move (vp) rfl rfl <| lx_len rfl Try.underlying23 ho31.rd rfl <| lx_sub (((hsp.length - 1 : Nat) : Int)) rfl rfl rfl (by omega) (by omega) (by omega) <| lx_move (.int .i64 ((x : Nat) : Int)) rfl rfl <| lx_sub (((hsp.length - 1 - x : Nat) : Int)) rfl rfl rfl (by omega) (by omega) (by omega) <| lx_assign (.int .i64 ((hsp.length - 1 - x : Nat) : Int)) rfl rfl <| lx_nil <| wi_seq <| wi_seq <| wi_reg rfl <| lx_move (.int .i64 ((x : Nat) : Int)) rfl rfl <| lx_move (vf) rfl rfl <| lx_len rfl Try.underlying25 hr_vf rfl <| lx_lssS rfl rfl rfl (fun c6 => ?_) (fun c6 => ?_)
          · refine lx_nil <| wi_true rfl <| wi_reg rfl <| ?_
            have hmd := Nat.mod_lt (ur (gt fs x)) (show 0 < hsp.length by omega)
            refine lx_move (vf) rfl rfl <| lx_move (.int .i64 ((x : Nat) : Int)) rfl rfl <| lx_ix (i := x) rfl eT25 hr_vf rfl rfl (by omega) <| lx_ld (i := x) (j := 0) (.int .i64 (gt fs x)) rfl rfl fl3 (hr_vf.extS hx0_5) (by omega) rfl rfl <| lx_conv ((ur (gt fs x) : Nat) : Int) rfl Try.underlying3 Try.underlying45 rfl (wrap_ur _) <| lx_move (vp) rfl rfl <| lx_len rfl Try.underlying23 ho31.rd rfl <| lx_conv ((hsp.length : Nat) : Int) rfl Try.underlying3 Try.underlying45 rfl (wrap_u64 (by omega) (by omega)) <| lx_rem (m := ur (gt fs x)) (n := hsp.length) rfl rfl rfl (by omega) <| lx_conv (((ur (gt fs x)) % hsp.length : Nat) : Int) rfl Try.underlying45 Try.underlying3 rfl (wrap_i64 (by omega) (by omega)) <| lx_assign (.int .i64 (((ur (gt fs x)) % hsp.length : Nat) : Int)) rfl rfl <| lx_nil <| wi_reg rfl <| lx_move (v) rfl rfl <| lx_move (.int .i64 (((ur (gt fs x)) % hsp.length : Nat) : Int)) rfl rfl <| lx_appendL (E := encI) (B := h.size) [(((ur (gt fs x)) % hsp.length : Nat) : Int)] [.int .i64 (((ur (gt fs x)) % hsp.length : Nat) : Int)] rfl rfl (fun _ => rfl) rfl eT25 rfl rfl rfl rfl ho30 (fun _ => rfl) (by show ys.length + 1 ≤ _; omega) (by show (ys.length + 1) * 8 ≤ _; omega) hx0_5.size (fun _ _ => trivial) fun u1 v1 h6 ho32 hc1 hg1 => ?_
            have hx0_6 := hx0_5.trans (ho30.ext hc1 hx0_5.size)
            have ho33 := ho31.chg hc1 (dj_ty ho31 ho30 (by decide))
            have hot21 := hot20.chg hc1 (djt_ty hot20 ho30 (by decide))
            refine lx_assign (v1) rfl rfl <| lx_nil <| wi_inBlock <| wi_reg rfl <| lx_move (.int .i64 ((x : Nat) : Int)) rfl rfl <| lx_add (((x + 1 : Nat) : Int)) rfl rfl rfl (by omega) (by omega) (by omega) <| lx_assign (.int .i64 ((x + 1 : Nat) : Int)) rfl rfl <| lx_nil <| ?_
            -- L4.1
            refine IH3 _ _ (x + 1, v1, ys ++ [(((ur (gt fs x)) % hsp.length : Nat) : Int)]) (agree_ups rfl agree_self) ⟨rfl, rfl, trivial⟩ ⟨?_, ?_, ?_, hx0_6, ?_, ?_, ?_⟩ ?_
            · first | exact ho32 | (simpa using ho32)
            · first | exact ho33 | (simpa using ho33)
            · first | exact hot21 | (simpa using hot21)
            · try dsimp only
              omega
            · try dsimp only
              first | omega | (simp only [List.length_append, List.length_cons, List.length_nil]; omega)
            · try dsimp only
              intro j hj
              rw [List.length_append, List.length_cons, List.length_nil] at hj
              by_cases e : j < ys.length
              · rw [gt_append_left e]; exact hyr j e
              · rw [show j = ys.length from by omega, gt_append_right]; omega
            · first | omega | (dsimp only; omega)
          · refine lx_nil <| wi_false rfl <| wi_skip <| wi_reg rfl <| lx_move (v) rfl rfl <| lx_move (.int .i64 ((hsp.length - 1 - x : Nat) : Int)) rfl rfl <| lx_appendL (E := encI) (B := h.size) [((hsp.length - 1 - x : Nat) : Int)] [.int .i64 ((hsp.length - 1 - x : Nat) : Int)] rfl rfl (fun _ => rfl) rfl eT25 rfl rfl rfl rfl ho30 (fun _ => rfl) (by show ys.length + 1 ≤ _; omega) (by show (ys.length + 1) * 8 ≤ _; omega) hx0_5.size (fun _ _ => trivial) fun u2 v2 h7 ho34 hc2 hg2 => ?_
            have hx0_7 := hx0_5.trans (ho30.ext hc2 hx0_5.size)
            have ho35 := ho31.chg hc2 (dj_ty ho31 ho30 (by decide))
            have hot22 := hot20.chg hc2 (djt_ty hot20 ho30 (by decide))
            refine lx_assign (v2) rfl rfl <| lx_nil <| wi_inBlock <| wi_reg rfl <| lx_move (.int .i64 ((x : Nat) : Int)) rfl rfl <| lx_add (((x + 1 : Nat) : Int)) rfl rfl rfl (by omega) (by omega) (by omega) <| lx_assign (.int .i64 ((x + 1 : Nat) : Int)) rfl rfl <| lx_nil <| ?_
            -- L4.2
            refine IH3 _ _ (x + 1, v2, ys ++ [((hsp.length - 1 - x : Nat) : Int)]) (agree_ups rfl agree_self) ⟨rfl, rfl, trivial⟩ ⟨?_, ?_, ?_, hx0_7, ?_, ?_, ?_⟩ ?_
            · first | exact ho34 | (simpa using ho34)
            · first | exact ho35 | (simpa using ho35)
            · first | exact hot22 | (simpa using hot22)
            · try dsimp only
              omega
            · try dsimp only
              first | omega | (simp only [List.length_append, List.length_cons, List.length_nil]; omega)
            · try dsimp only
              intro j hj
              rw [List.length_append, List.length_cons, List.length_nil] at hj
              by_cases e : j < ys.length
              · rw [gt_append_left e]; exact hyr j e
              · rw [show j = ys.length from by omega, gt_append_right]; omega
            · first | omega | (dsimp only; omega)
        · refine lx_nil <| wi_false rfl <| wi_exit rfl <| wi_seq <| wi_reg rfl <| ?_
          have hyn : ys.length = p.length := by omega
          refine lx_move (vp) rfl rfl <| lx_move (vp) rfl rfl <| lx_move (v) rfl rfl <| lx_call [vp, v] rfl rfl Try.call28 rfl (keeping_spec hh3 vp hsp p v ys ho31.rd hot20.rt ho30.rd (by omega) hpq (by omega) hyn hyr) (fun _ _ _ => trivial) ?_
          rintro vk h8 ⟨_, yk, rfl, ho36, hke, hx6⟩
          have hx0_8 := hx0_5.trans2 hx6 hx0_5.size
          have ho37 := ho31.extS hx6
          have hot23 := hot20.extS hx6
          have ho38 := ho30.extS hx6
          have ho39 := ho36.base hx0_5.size
          refine lx_call [vp, vk] rfl rfl Try.call25 rfl (ofixed_spec h8 vp hsp p vk yk ho37.rd hot23.rt ho39.rd (by omega) hle (by have := (mapE_zero hke).1; omega)) (fun _ _ _ => trivial) ?_
          rintro _ h9 ⟨vx, zx, rfl, ho40, hfx, hx7⟩
          have hx0_9 := hx0_8.trans2 hx7 hx0_8.size
          have ho41 := ho37.extS hx7
          have hot24 := hot23.extS hx7
          have ho42 := ho38.extS hx7
          have ho43 := ho39.extS hx7
          have ho44 := ho40.base hx0_8.size
          refine lx_move (.tuple #[vx, .int .i64 (fixE p yk)]) rfl rfl <| lx_extract (vx) rfl rfl rfl <| lx_extract (.int .i64 (fixE p yk)) rfl rfl rfl <| lx_assign (vx) rfl rfl <| lx_assign (.int .i64 (fixE p yk)) rfl rfl <| lx_nil <| wi_seq <| wi_seq <| wi_reg rfl <| ?_
          have hfe : fixE p yk = 0 := by unfold fixE; rw [if_pos hck]; exact hke
          have hz1 : zx = fixF yk := by rw [hfx, if_pos hfe]
          obtain ⟨hkl, hkr, hkm⟩ := mapE_zero hke
          obtain ⟨hf1, hf2, hf3⟩ := fix_lat (zs := zx) hio hng hp0 hkl (fun i hi => hkr i (by omega)) (fun x y hx hy hf => hkm x y (by omega) (by omega) hf) (by rw [hz1]; unfold fixF; rw [hkl]; rfl)
          have hzl : 0 < zx.length := List.length_pos_iff.2 hf1
          have hzl2 : zx.length ≤ p.length := by rw [hz1]; unfold fixF; rw [hkl]; exact filtF_length _ _
          have hzg : ∀ i, i < zx.length → ∃ a : Nat, gt zx i = (a : Int) ∧ a < p.length := fun i hi => by
            rw [hz1] at hi ⊢
            obtain ⟨a, h1, h2, _⟩ := filtF_gt (f := fixB yk) (N := yk.length) hi
            exact ⟨a, h1, by omega⟩
          refine lx_move (.int .i64 (fixE p yk)) rfl rfl <| lx_neqF rfl rfl rfl (fun h9 => h9 hfe) <| lx_move (.bool false) rfl rfl <| lx_move (vx) rfl rfl <| lx_len rfl Try.underlying25 ho44.rd rfl <| lx_eqlF rfl rfl rfl (by omega) <| lx_pick false (.bool false) rfl rfl rfl <| lx_nil <| wi_false rfl <| wi_skip <| wi_seq <| wi_reg rfl <| lx_assign (.slice none 0 0) rfl rfl <| lx_nil <| wi_seq <| wi_seq <| wi_reg rfl <| lx_assign (.int .i64 0) rfl rfl <| lx_nil <| wi_block <| ?_
          refine wi_loop (σ := Nat × Value × (List Hdr) × (List (List Bool))) (rngB 169 201 [27, 28, 29, 30]) (fun (ss : Nat × Value × (List Hdr) × (List (List Bool))) => [(28, .int .i64 ((ss.1 : Nat) : Int)), (27, ss.2.1)]) (fun (ss : Nat × Value × (List Hdr) × (List (List Bool))) (hh : Heap) => OwE encHd hh h.size 70 vp hsp ∧ OT encB hh h.size 4 hsp p ∧ OwE encHd hh h.size 70 ss.2.1 ss.2.2.1 ∧ OT encB hh h.size 4 ss.2.2.1 ss.2.2.2 ∧ Dj vp ss.2.1 ∧ OwE encI hh h.size 3 vx zx ∧ Ext h.size h hh ∧ (ss.1 ≤ zx.length) ∧ (ss.2.2.2 = (List.range ss.1).map fun q => rowF zx.length (subF (pb p) zx q))) (fun (ss : Nat × Value × (List Hdr) × (List (List Bool))) => zx.length - ss.1) (0, .slice none 0 0, [], []) ⟨rfl, rfl, trivial⟩ ⟨?_, ?_, ?_, ?_, (dj_nil_r _), ?_, hx0_9, ?_, ?_⟩ ?_
          · first | exact ho41 | (simpa using ho41)
          · first | exact hot24 | (simpa using hot24)
          · first | exact (owE_nil encHd _ h.size 70) | (simpa using (owE_nil encHd _ h.size 70))
          · first | exact (OT.nil encB _ h.size 4) | (simpa using (OT.nil encB _ h.size 4))
          · first | exact ho44 | (simpa using ho44)
          · try dsimp only
            omega
          · try dsimp only
            first | done | rfl
          rintro g4 ⟨i, vt, ht, rows⟩ hh4 ⟨ho45, hot25, ho46, hot26, hdj1, ho47, hx0_10, hi, hrw⟩ IH4
          dsimp only at *
          have hrl : rows.length = i := by rw [hrw]; simp
          have hl_hot25 := hot25.1
          have hl_hot26 := hot26.1
          refine wi_seq <| wi_seq <| wi_reg rfl <| lx_move (.int .i64 ((i : Nat) : Int)) rfl rfl <| lx_move (vx) rfl rfl <| lx_len rfl Try.underlying25 ho47.rd rfl <| lx_lssS rfl rfl rfl (fun c7 => ?_) (fun c7 => ?_)
          · refine lx_nil <| wi_true rfl <| wi_skip <| wi_seq <| wi_block <| wi_seq <| wi_reg rfl <| lx_assign (.slice none 0 0) rfl rfl <| lx_nil <| wi_seq <| wi_seq <| wi_reg rfl <| lx_assign (.int .i64 0) rfl rfl <| lx_nil <| wi_block <| ?_
            refine wi_loop (σ := Nat × Value × (List Bool)) (rngB 175 197 [29, 30]) (fun (ss : Nat × Value × (List Bool)) => [(30, .int .i64 ((ss.1 : Nat) : Int)), (29, ss.2.1)]) (fun (ss : Nat × Value × (List Bool)) (hh : Heap) => OwE encHd hh h.size 70 vp hsp ∧ OT encB hh h.size 4 hsp p ∧ OwE encHd hh h.size 70 vt ht ∧ OT encB hh h.size 4 ht rows ∧ Dj vp vt ∧ OwE encB hh h.size 4 ss.2.1 ss.2.2 ∧ Djt hsp ss.2.1 ∧ Djt ht ss.2.1 ∧ OwE encI hh h.size 3 vx zx ∧ Ext h.size h hh ∧ (ss.1 ≤ zx.length) ∧ (ss.2.2 = (List.range ss.1).map (subF (pb p) zx i))) (fun (ss : Nat × Value × (List Bool)) => zx.length - ss.1) (0, .slice none 0 0, []) ⟨rfl, rfl, trivial⟩ ⟨?_, ?_, ?_, ?_, hdj1, ?_, (djt_nil _), (djt_nil _), ?_, hx0_10, ?_, ?_⟩ ?_
            · first | exact ho45 | (simpa using ho45)
            · first | exact hot25 | (simpa using hot25)
            · first | exact ho46 | (simpa using ho46)
            · first | exact hot26 | (simpa using hot26)
            · first | exact (owE_nil encB _ h.size 4) | (simpa using (owE_nil encB _ h.size 4))
            · first | exact ho47 | (simpa using ho47)
            · try dsimp only
              omega
            · try dsimp only
              first | done | rfl
            rintro g5 ⟨j, w, l⟩ hh5 ⟨ho48, hot27, ho49, hot28, hdj2, ho50, hdt1, hdt2, ho51, hx0_11, hj, hl⟩ IH5
            dsimp only at *
            have hll : l.length = j := by rw [hl]; simp
            have hl_hot27 := hot27.1
            have hl_hot28 := hot28.1
            refine wi_seq <| wi_seq <| wi_reg rfl <| lx_move (.int .i64 ((j : Nat) : Int)) rfl rfl <| lx_move (vx) rfl rfl <| lx_len rfl Try.underlying25 ho51.rd rfl <| lx_lssS rfl rfl rfl (fun c8 => ?_) (fun c8 => ?_)
            · refine lx_nil <| wi_true rfl <| wi_skip <| wi_seq <| wi_block <| wi_draw mo rfl (by decide +kernel) <| ?_
              obtain ⟨a, hga, ha4⟩ := hzg i (by omega)
              obtain ⟨b, hgb, hb4⟩ := hzg j (by omega)
              refine lx_move (w) rfl rfl <| lx_move (vp) rfl rfl <| lx_move (vx) rfl rfl <| lx_move (.int .i64 ((i : Nat) : Int)) rfl rfl <| lx_ix (i := i) rfl eT25 ho51.rd rfl rfl (by omega) <| lx_ld (i := i) (j := 0) (.int .i64 ((a : Nat) : Int)) rfl rfl fl3 ho51.rd (by omega) (by show some (Value.int .i64 (gt zx i)) = _; rw [hga]) rfl <| lx_ix (i := a) rfl eT23 ho48.rd rfl rfl (by omega) <| lx_ld (i := a) (j := 0) ((gt hsp a).v) rfl rfl fl70 ho48.rd (by omega) rfl rfl <| lx_move (vx) rfl rfl <| lx_move (.int .i64 ((j : Nat) : Int)) rfl rfl <| lx_ix (i := j) rfl eT25 ho51.rd rfl rfl (by omega) <| lx_ld (i := j) (j := 0) (.int .i64 ((b : Nat) : Int)) rfl rfl fl3 ho51.rd (by omega) (by show some (Value.int .i64 (gt zx j)) = _; rw [hgb]) rfl <| lx_ix (i := b) rfl eT70 (hot27.2.1 a (by omega)).rd rfl rfl (by rw [hpq.2 a (by omega)]; omega) <| lx_ld (i := b) (j := 0) (.bool (gt (gt p a) b)) rfl rfl fl4 (hot27.2.1 a (by omega)).rd (by rw [hpq.2 a (by omega)]; omega) rfl rfl <| lx_appendL (E := encB) (B := h.size) [gt (gt p a) b] [.bool (gt (gt p a) b)] rfl rfl (fun _ => rfl) rfl eT70 rfl rfl rfl rfl ho50 (fun _ => rfl) (by show l.length + 1 ≤ _; omega) (by show (l.length + 1) * 1 ≤ _; omega) hx0_11.size (fun _ _ => trivial) fun u3 v3 h10 ho52 hc3 hg3 => ?_
              have hx0_12 := hx0_11.trans (ho50.ext hc3 hx0_11.size)
              have ho53 := ho48.chg hc3 (dj_ty ho48 ho50 (by decide))
              have ho54 := ho51.chg hc3 (dj_ty ho51 ho50 (by decide))
              have ho55 := ho49.chg hc3 (dj_ty ho49 ho50 (by decide))
              have hot29 := hot27.chg hc3 hdt1
              have hot30 := hot28.chg hc3 hdt2
              refine lx_assign (v3) rfl rfl <| lx_nil <| wi_inBlock <| wi_reg rfl <| lx_move (.int .i64 ((j : Nat) : Int)) rfl rfl <| lx_add (((j + 1 : Nat) : Int)) rfl rfl rfl (by omega) (by omega) (by omega) <| lx_assign (.int .i64 ((j + 1 : Nat) : Int)) rfl rfl <| lx_nil <| ?_
              -- L8.1
              refine IH5 _ _ (j + 1, v3, l ++ [gt (gt p a) b]) (agree_ups rfl agree_self) ⟨rfl, rfl, trivial⟩ ⟨?_, ?_, ?_, ?_, hdj2, ?_, (djt_app hdt1 hot27 hg3), (djt_app hdt2 hot28 hg3), ?_, hx0_12, ?_, ?_⟩ ?_
              · first | exact ho53 | (simpa using ho53)
              · first | exact hot29 | (simpa using hot29)
              · first | exact ho55 | (simpa using ho55)
              · first | exact hot30 | (simpa using hot30)
              · first | exact ho52 | (simpa using ho52)
              · first | exact ho54 | (simpa using ho54)
              · try dsimp only
                omega
              · try dsimp only
                rw [hl, List.range_succ, List.map_append]
                congr 1
                show [_] = [subF (pb p) zx i j]
                unfold subF; rw [hga, hgb]; rfl
              · first | omega | (dsimp only; omega)
            · have hot31 : OT encB hh5 h.size 4 (ht ++ [hdrOf w]) (rows ++ [l]) := OT.snoc hot28 ho50 hdt2
              refine lx_nil <| wi_false rfl <| wi_exit rfl <| wi_reg rfl <| lx_move (vt) rfl rfl <| lx_move (w) rfl rfl <| lx_appendL (E := encHd) (B := h.size) [hdrOf w] [w] rfl rfl (fun _ => rfl) rfl eT29 rfl rfl (hdr_cells1 ho50.rd) rfl ho49 (fun _ => rfl) (by show ht.length + 1 ≤ _; omega) (by show (ht.length + 1) * 24 ≤ _; omega) hx0_11.size (fun _ _ => trivial) fun u4 v4 h11 ho56 hc4 hg4 => ?_
              have hx0_13 := hx0_11.trans (ho49.ext hc4 hx0_11.size)
              have ho57 := ho48.chg hc4 hdj2
              have ho58 := ho51.chg hc4 (dj_ty ho51 ho49 (by decide))
              have hot32 := hot27.chg hc4 (djt_ty hot27 ho49 (by decide))
              have hot33 : OT encB h11 h.size 4 (ht ++ [hdrOf w]) (rows ++ [l]) := hot31.chg hc4 (djt_ty hot31 ho49 (by decide))
              have hl_hot33 := hot33.1
              refine lx_assign (v4) rfl rfl <| lx_nil <| wi_inBlock <| wi_reg rfl <| lx_move (.int .i64 ((i : Nat) : Int)) rfl rfl <| lx_add (((i + 1 : Nat) : Int)) rfl rfl rfl (by omega) (by omega) (by omega) <| lx_assign (.int .i64 ((i + 1 : Nat) : Int)) rfl rfl <| lx_nil <| ?_
              -- L6.1
              refine IH4 _ _ (i + 1, v4, ht ++ [hdrOf w], rows ++ [l]) (agree_ups rfl (agree_mix (rngB_sub (by decide) (by decide) rfl) (agree_ups rfl agree_self))) ⟨rfl, rfl, trivial⟩ ⟨?_, ?_, ?_, ?_, (dj_app hdj2 ho48 hg4), ?_, hx0_13, ?_, ?_⟩ ?_
              · first | exact ho57 | (simpa using ho57)
              · first | exact hot32 | (simpa using hot32)
              · first | exact ho56 | (simpa using ho56)
              · first | exact hot33 | (simpa using hot33)
              · first | exact ho58 | (simpa using ho58)
              · try dsimp only
                omega
              · try dsimp only
                rw [hrw, List.range_succ, List.map_append, hl, show j = zx.length from by omega]; rfl
              · first | omega | (dsimp only; omega)
          · refine lx_nil <| wi_false rfl <| wi_exit rfl <| wi_seq <| wi_reg rfl <| ?_
            have hpart : rows = tabF zx.length (subF (pb p) zx) := by rw [hrw, show i = zx.length from by omega]; rfl
            have hple := tab_lenB hpart (by omega)
            obtain ⟨hpc, hpo⟩ := tab_lat (m := zx.length) (h := subF (pb p) zx) (by omega) (by omega) hf2 hf3
            rw [← hpart] at hpc hpo
            refine lx_move (vt) rfl rfl <| lx_call [vt] rfl rfl Try.call29 rfl (lattice_spec hh4 vt ht rows ho46.rd hot26.rt hple.1 hple.2) (fun _ _ _ => trivial) ?_
            rintro _ h12 ⟨vj, vm, hj, hm, rj, rm, okr, rfl, ho59, hot34, ho60, hot35, hopr, hx8⟩
            have hx0_14 := hx0_10.trans2 hx8 hx0_10.size
            have ho61 := ho45.extS hx8
            have hot36 := hot25.extS hx8
            have ho62 := ho47.extS hx8
            have ho63 := ho46.extS hx8
            have hot37 := hot26.extS hx8
            have ho64 := ho59.base hx0_10.size
            have hot38 := hot34.base hx0_10.size
            have hl_hot38 := hot38.1
            have ho65 := ho60.base hx0_10.size
            have hot39 := hot35.base hx0_10.size
            have hl_hot39 := hot39.1
            refine lx_move (.tuple #[vj, vm, .bool okr, .int .i64 (chkT rows)]) rfl rfl <| lx_extract (vj) rfl rfl rfl <| lx_extract (vm) rfl rfl rfl <| lx_extract (.bool okr) rfl rfl rfl <| lx_extract (.int .i64 (chkT rows)) rfl rfl rfl <| lx_assign (vj) rfl rfl <| lx_assign (vm) rfl rfl <| lx_assign (.bool okr) rfl rfl <| lx_assign (.int .i64 (chkT rows)) rfl rfl <| lx_nil <| wi_seq <| wi_reg rfl <| ?_
            have hok2 : okr = true := by rw [hopr.2, hpo]; rfl
            subst hok2
            refine lx_move (.int .i64 (chkT rows)) rfl rfl <| lx_eqlT rfl rfl rfl hpc <| lx_move (.bool true) rfl rfl <| lx_move (.bool true) rfl rfl <| lx_pick true (.bool true) rfl rfl rfl <| lx_move (.bool true) rfl rfl <| lx_call [] rfl rfl Try.call20 rfl (awake_spec h12 ) (fun _ _ _ => trivial) ?_
            rintro _ h13 ⟨rfl, hx9⟩
            have hx0_15 := hx0_14.trans2 hx9 hx0_14.size
            have ho66 := ho61.extS hx9
            have hot40 := hot36.extS hx9
            have ho67 := ho64.extS hx9
            have hot41 := hot38.extS hx9
            have ho68 := ho65.extS hx9
            have hot42 := hot39.extS hx9
            have ho69 := ho62.extS hx9
            have ho70 := ho63.extS hx9
            have hot43 := hot37.extS hx9
            refine lx_pick true (.bool true) rfl rfl rfl <| lx_assign (.bool true) rfl rfl <| lx_nil <| ?_
            -- R2
            refine wi_ret ⟨.bool true, (res_one rfl rfl), ⟨rfl, hx0_15⟩⟩
    · refine lx_nil <| wi_false rfl <| wi_skip <| wi_seq <| wi_reg rfl <| lx_move (vp) rfl rfl <| lx_call [vp] rfl rfl Try.call30 rfl (ogap_spec h2 vp hsp p ho6.rd hot4.rt (by omega) hle) (fun _ _ _ => trivial) ?_
      rintro _ h14 ⟨ox, oy, gb, rfl, hog, hx10⟩
      have hx0_16 := hx0_1.trans2 hx10 hx0_1.size
      have ho71 := ho6.extS hx10
      have hot44 := hot4.extS hx10
      have ho72 := ho7.extS hx10
      have ho73 := ho8.extS hx10
      have hot45 := hot5.extS hx10
      have ho74 := ho9.extS hx10
      refine lx_move (.tuple #[.int .i64 ((ox : Nat) : Int), .int .i64 ((oy : Nat) : Int), .bool gb, .int .i64 (chkT p)]) rfl rfl <| lx_extract (.int .i64 ((ox : Nat) : Int)) rfl rfl rfl <| lx_extract (.int .i64 ((oy : Nat) : Int)) rfl rfl rfl <| lx_extract (.bool gb) rfl rfl rfl <| lx_extract (.int .i64 (chkT p)) rfl rfl rfl <| lx_assign (.int .i64 ((ox : Nat) : Int)) rfl rfl <| lx_assign (.int .i64 ((oy : Nat) : Int)) rfl rfl <| lx_assign (.bool gb) rfl rfl <| lx_assign (.int .i64 (chkT p)) rfl rfl <| lx_nil <| wi_seq <| wi_seq <| wi_reg rfl <| ?_
      have hgr := goodA hog hck
      have hgb := gapR_ng hgr
      refine lx_move (.int .i64 (chkT p)) rfl rfl <| lx_neqF rfl rfl rfl (fun h9 => h9 hck) <| lx_move (.bool false) rfl rfl <| lx_move (.bool gb) rfl rfl <| lx_pick false (.bool gb) rfl rfl rfl <| lx_nil <| wi_condS (t := gb) rfl (fun c9 => ?_) (fun c9 => ?_)
      · refine wi_seq <| wi_reg rfl <| lx_move (.int .i64 (chkT p)) rfl rfl <| lx_eqlT rfl rfl rfl hck <| lx_move (.bool true) rfl rfl <| lx_call [] rfl rfl Try.call20 rfl (awake_spec h14 ) (fun _ _ _ => trivial) ?_
        rintro _ h15 ⟨rfl, hx11⟩
        have hx0_17 := hx0_16.trans2 hx11 hx0_16.size
        have ho75 := ho71.extS hx11
        have hot46 := hot44.extS hx11
        have ho76 := ho72.extS hx11
        have ho77 := ho73.extS hx11
        have hot47 := hot45.extS hx11
        have ho78 := ho74.extS hx11
        refine lx_pick true (.bool true) rfl rfl rfl <| lx_assign (.bool true) rfl rfl <| lx_nil <| ?_
        -- R3
        refine wi_ret ⟨.bool true, (res_one rfl rfl), ⟨rfl, hx0_17⟩⟩
      · refine wi_skip <| wi_seq <| wi_seq <| wi_reg rfl <| ?_
        have hng : noGap p.length (pb p) := ngB_iff.1 (by rw [show gb = false from by assumption] at hgb; simpa using hgb.symm)
        have hcn := cuts_len hio hng hp0
        refine lx_move (vq) rfl rfl <| lx_len rfl Try.underlying29 ho73.rd rfl <| lx_move (vp) rfl rfl <| lx_len rfl Try.underlying23 ho71.rd rfl <| lx_neqF rfl rfl rfl (by omega) <| lx_nil <| wi_false rfl <| wi_skip <| wi_seq <| wi_reg rfl <| lx_assign (.slice none 0 0) rfl rfl <| lx_nil <| wi_seq <| wi_seq <| wi_reg rfl <| lx_assign (.int .i64 0) rfl rfl <| lx_nil <| wi_block <| ?_
        refine wi_loop (σ := Nat × Value × (List Int)) (rngB 125 154 [22, 23, 24]) (fun (ss : Nat × Value × (List Int)) => [(23, .int .i64 ((ss.1 : Nat) : Int)), (22, ss.2.1)]) (fun (ss : Nat × Value × (List Int)) (hh : Heap) => OwE encI hh h.size 3 ss.2.1 ss.2.2 ∧ OwE encHd hh h.size 70 vp hsp ∧ OT encB hh h.size 4 hsp p ∧ Ext h.size h hh ∧ (ss.1 ≤ p.length) ∧ (ss.2.2.length = ss.1) ∧ (∀ j, j < ss.2.2.length → 0 ≤ gt ss.2.2 j ∧ gt ss.2.2 j < p.length)) (fun (ss : Nat × Value × (List Int)) => p.length - ss.1) (0, .slice none 0 0, []) ⟨rfl, rfl, trivial⟩ ⟨?_, ?_, ?_, hx0_16, ?_, ?_, ?_⟩ ?_
        · first | exact (owE_nil encI _ h.size 3) | (simpa using (owE_nil encI _ h.size 3))
        · first | exact ho71 | (simpa using ho71)
        · first | exact hot44 | (simpa using hot44)
        · try dsimp only
          omega
        · try dsimp only
          first | done | rfl
        · try dsimp only
          intro j hj; cases hj
        rintro g6 ⟨x, v, ys⟩ hh6 ⟨ho79, ho80, hot48, hx0_18, hx, hyl, hyr⟩ IH6
        dsimp only at *
        have hl_hot48 := hot48.1
        refine wi_seq <| wi_seq <| wi_reg rfl <| ?_
        have hl_vp9 : hsp.length = p.length := by omega
        refine lx_move (.int .i64 ((x : Nat) : Int)) rfl rfl <| lx_move (vp) rfl rfl <| lx_len rfl Try.underlying23 ho80.rd rfl <| lx_lssS rfl rfl rfl (fun c10 => ?_) (fun c10 => ?_)
        · refine lx_nil <| wi_true rfl <| wi_skip <| wi_seq <| wi_block <| wi_seq <| wi_reg rfl <| lx_move (vp) rfl rfl <| lx_len rfl Try.underlying23 ho80.rd rfl <| lx_sub (((hsp.length - 1 : Nat) : Int)) rfl rfl rfl (by omega) (by omega) (by omega) <| lx_move (.int .i64 ((x : Nat) : Int)) rfl rfl <| lx_sub (((hsp.length - 1 - x : Nat) : Int)) rfl rfl rfl (by omega) (by omega) (by omega) <| lx_assign (.int .i64 ((hsp.length - 1 - x : Nat) : Int)) rfl rfl <| lx_nil <| wi_seq <| wi_seq <| wi_reg rfl <| lx_move (.int .i64 ((x : Nat) : Int)) rfl rfl <| lx_move (vf) rfl rfl <| lx_len rfl Try.underlying25 hr_vf rfl <| lx_lssS rfl rfl rfl (fun c11 => ?_) (fun c11 => ?_)
          · refine lx_nil <| wi_true rfl <| wi_reg rfl <| ?_
            have hmd := Nat.mod_lt (ur (gt fs x)) (show 0 < hsp.length by omega)
            refine lx_move (vf) rfl rfl <| lx_move (.int .i64 ((x : Nat) : Int)) rfl rfl <| lx_ix (i := x) rfl eT25 hr_vf rfl rfl (by omega) <| lx_ld (i := x) (j := 0) (.int .i64 (gt fs x)) rfl rfl fl3 (hr_vf.extS hx0_18) (by omega) rfl rfl <| lx_conv ((ur (gt fs x) : Nat) : Int) rfl Try.underlying3 Try.underlying45 rfl (wrap_ur _) <| lx_move (vp) rfl rfl <| lx_len rfl Try.underlying23 ho80.rd rfl <| lx_conv ((hsp.length : Nat) : Int) rfl Try.underlying3 Try.underlying45 rfl (wrap_u64 (by omega) (by omega)) <| lx_rem (m := ur (gt fs x)) (n := hsp.length) rfl rfl rfl (by omega) <| lx_conv (((ur (gt fs x)) % hsp.length : Nat) : Int) rfl Try.underlying45 Try.underlying3 rfl (wrap_i64 (by omega) (by omega)) <| lx_assign (.int .i64 (((ur (gt fs x)) % hsp.length : Nat) : Int)) rfl rfl <| lx_nil <| wi_reg rfl <| lx_move (v) rfl rfl <| lx_move (.int .i64 (((ur (gt fs x)) % hsp.length : Nat) : Int)) rfl rfl <| lx_appendL (E := encI) (B := h.size) [(((ur (gt fs x)) % hsp.length : Nat) : Int)] [.int .i64 (((ur (gt fs x)) % hsp.length : Nat) : Int)] rfl rfl (fun _ => rfl) rfl eT25 rfl rfl rfl rfl ho79 (fun _ => rfl) (by show ys.length + 1 ≤ _; omega) (by show (ys.length + 1) * 8 ≤ _; omega) hx0_18.size (fun _ _ => trivial) fun u5 v5 h16 ho81 hc5 hg5 => ?_
            have hx0_19 := hx0_18.trans (ho79.ext hc5 hx0_18.size)
            have ho82 := ho80.chg hc5 (dj_ty ho80 ho79 (by decide))
            have hot49 := hot48.chg hc5 (djt_ty hot48 ho79 (by decide))
            refine lx_assign (v5) rfl rfl <| lx_nil <| wi_inBlock <| wi_reg rfl <| lx_move (.int .i64 ((x : Nat) : Int)) rfl rfl <| lx_add (((x + 1 : Nat) : Int)) rfl rfl rfl (by omega) (by omega) (by omega) <| lx_assign (.int .i64 ((x + 1 : Nat) : Int)) rfl rfl <| lx_nil <| ?_
            -- L4.1
            refine IH6 _ _ (x + 1, v5, ys ++ [(((ur (gt fs x)) % hsp.length : Nat) : Int)]) (agree_ups rfl agree_self) ⟨rfl, rfl, trivial⟩ ⟨?_, ?_, ?_, hx0_19, ?_, ?_, ?_⟩ ?_
            · first | exact ho81 | (simpa using ho81)
            · first | exact ho82 | (simpa using ho82)
            · first | exact hot49 | (simpa using hot49)
            · try dsimp only
              omega
            · try dsimp only
              first | omega | (simp only [List.length_append, List.length_cons, List.length_nil]; omega)
            · try dsimp only
              intro j hj
              rw [List.length_append, List.length_cons, List.length_nil] at hj
              by_cases e : j < ys.length
              · rw [gt_append_left e]; exact hyr j e
              · rw [show j = ys.length from by omega, gt_append_right]; omega
            · first | omega | (dsimp only; omega)
          · refine lx_nil <| wi_false rfl <| wi_skip <| wi_reg rfl <| lx_move (v) rfl rfl <| lx_move (.int .i64 ((hsp.length - 1 - x : Nat) : Int)) rfl rfl <| lx_appendL (E := encI) (B := h.size) [((hsp.length - 1 - x : Nat) : Int)] [.int .i64 ((hsp.length - 1 - x : Nat) : Int)] rfl rfl (fun _ => rfl) rfl eT25 rfl rfl rfl rfl ho79 (fun _ => rfl) (by show ys.length + 1 ≤ _; omega) (by show (ys.length + 1) * 8 ≤ _; omega) hx0_18.size (fun _ _ => trivial) fun u6 v6 h17 ho83 hc6 hg6 => ?_
            have hx0_20 := hx0_18.trans (ho79.ext hc6 hx0_18.size)
            have ho84 := ho80.chg hc6 (dj_ty ho80 ho79 (by decide))
            have hot50 := hot48.chg hc6 (djt_ty hot48 ho79 (by decide))
            refine lx_assign (v6) rfl rfl <| lx_nil <| wi_inBlock <| wi_reg rfl <| lx_move (.int .i64 ((x : Nat) : Int)) rfl rfl <| lx_add (((x + 1 : Nat) : Int)) rfl rfl rfl (by omega) (by omega) (by omega) <| lx_assign (.int .i64 ((x + 1 : Nat) : Int)) rfl rfl <| lx_nil <| ?_
            -- L4.2
            refine IH6 _ _ (x + 1, v6, ys ++ [((hsp.length - 1 - x : Nat) : Int)]) (agree_ups rfl agree_self) ⟨rfl, rfl, trivial⟩ ⟨?_, ?_, ?_, hx0_20, ?_, ?_, ?_⟩ ?_
            · first | exact ho83 | (simpa using ho83)
            · first | exact ho84 | (simpa using ho84)
            · first | exact hot50 | (simpa using hot50)
            · try dsimp only
              omega
            · try dsimp only
              first | omega | (simp only [List.length_append, List.length_cons, List.length_nil]; omega)
            · try dsimp only
              intro j hj
              rw [List.length_append, List.length_cons, List.length_nil] at hj
              by_cases e : j < ys.length
              · rw [gt_append_left e]; exact hyr j e
              · rw [show j = ys.length from by omega, gt_append_right]; omega
            · first | omega | (dsimp only; omega)
        · refine lx_nil <| wi_false rfl <| wi_exit rfl <| wi_seq <| wi_reg rfl <| ?_
          have hyn : ys.length = p.length := by omega
          refine lx_move (vp) rfl rfl <| lx_move (vp) rfl rfl <| lx_move (v) rfl rfl <| lx_call [vp, v] rfl rfl Try.call28 rfl (keeping_spec hh6 vp hsp p v ys ho80.rd hot48.rt ho79.rd (by omega) hpq (by omega) hyn hyr) (fun _ _ _ => trivial) ?_
          rintro vk h18 ⟨_, yk, rfl, ho85, hke, hx12⟩
          have hx0_21 := hx0_18.trans2 hx12 hx0_18.size
          have ho86 := ho80.extS hx12
          have hot51 := hot48.extS hx12
          have ho87 := ho79.extS hx12
          have ho88 := ho85.base hx0_18.size
          refine lx_call [vp, vk] rfl rfl Try.call25 rfl (ofixed_spec h18 vp hsp p vk yk ho86.rd hot51.rt ho88.rd (by omega) hle (by have := (mapE_zero hke).1; omega)) (fun _ _ _ => trivial) ?_
          rintro _ h19 ⟨vx, zx, rfl, ho89, hfx, hx13⟩
          have hx0_22 := hx0_21.trans2 hx13 hx0_21.size
          have ho90 := ho86.extS hx13
          have hot52 := hot51.extS hx13
          have ho91 := ho87.extS hx13
          have ho92 := ho88.extS hx13
          have ho93 := ho89.base hx0_21.size
          refine lx_move (.tuple #[vx, .int .i64 (fixE p yk)]) rfl rfl <| lx_extract (vx) rfl rfl rfl <| lx_extract (.int .i64 (fixE p yk)) rfl rfl rfl <| lx_assign (vx) rfl rfl <| lx_assign (.int .i64 (fixE p yk)) rfl rfl <| lx_nil <| wi_seq <| wi_seq <| wi_reg rfl <| ?_
          have hfe : fixE p yk = 0 := by unfold fixE; rw [if_pos hck]; exact hke
          have hz1 : zx = fixF yk := by rw [hfx, if_pos hfe]
          obtain ⟨hkl, hkr, hkm⟩ := mapE_zero hke
          obtain ⟨hf1, hf2, hf3⟩ := fix_lat (zs := zx) hio hng hp0 hkl (fun i hi => hkr i (by omega)) (fun x y hx hy hf => hkm x y (by omega) (by omega) hf) (by rw [hz1]; unfold fixF; rw [hkl]; rfl)
          have hzl : 0 < zx.length := List.length_pos_iff.2 hf1
          have hzl2 : zx.length ≤ p.length := by rw [hz1]; unfold fixF; rw [hkl]; exact filtF_length _ _
          have hzg : ∀ i, i < zx.length → ∃ a : Nat, gt zx i = (a : Int) ∧ a < p.length := fun i hi => by
            rw [hz1] at hi ⊢
            obtain ⟨a, h1, h2, _⟩ := filtF_gt (f := fixB yk) (N := yk.length) hi
            exact ⟨a, h1, by omega⟩
          refine lx_move (.int .i64 (fixE p yk)) rfl rfl <| lx_neqF rfl rfl rfl (fun h9 => h9 hfe) <| lx_move (.bool false) rfl rfl <| lx_move (vx) rfl rfl <| lx_len rfl Try.underlying25 ho93.rd rfl <| lx_eqlF rfl rfl rfl (by omega) <| lx_pick false (.bool false) rfl rfl rfl <| lx_nil <| wi_false rfl <| wi_skip <| wi_seq <| wi_reg rfl <| lx_assign (.slice none 0 0) rfl rfl <| lx_nil <| wi_seq <| wi_seq <| wi_reg rfl <| lx_assign (.int .i64 0) rfl rfl <| lx_nil <| wi_block <| ?_
          refine wi_loop (σ := Nat × Value × (List Hdr) × (List (List Bool))) (rngB 169 201 [27, 28, 29, 30]) (fun (ss : Nat × Value × (List Hdr) × (List (List Bool))) => [(28, .int .i64 ((ss.1 : Nat) : Int)), (27, ss.2.1)]) (fun (ss : Nat × Value × (List Hdr) × (List (List Bool))) (hh : Heap) => OwE encHd hh h.size 70 vp hsp ∧ OT encB hh h.size 4 hsp p ∧ OwE encHd hh h.size 70 ss.2.1 ss.2.2.1 ∧ OT encB hh h.size 4 ss.2.2.1 ss.2.2.2 ∧ Dj vp ss.2.1 ∧ OwE encI hh h.size 3 vx zx ∧ Ext h.size h hh ∧ (ss.1 ≤ zx.length) ∧ (ss.2.2.2 = (List.range ss.1).map fun q => rowF zx.length (subF (pb p) zx q))) (fun (ss : Nat × Value × (List Hdr) × (List (List Bool))) => zx.length - ss.1) (0, .slice none 0 0, [], []) ⟨rfl, rfl, trivial⟩ ⟨?_, ?_, ?_, ?_, (dj_nil_r _), ?_, hx0_22, ?_, ?_⟩ ?_
          · first | exact ho90 | (simpa using ho90)
          · first | exact hot52 | (simpa using hot52)
          · first | exact (owE_nil encHd _ h.size 70) | (simpa using (owE_nil encHd _ h.size 70))
          · first | exact (OT.nil encB _ h.size 4) | (simpa using (OT.nil encB _ h.size 4))
          · first | exact ho93 | (simpa using ho93)
          · try dsimp only
            omega
          · try dsimp only
            first | done | rfl
          rintro g7 ⟨i, vt, ht, rows⟩ hh7 ⟨ho94, hot53, ho95, hot54, hdj3, ho96, hx0_23, hi, hrw⟩ IH7
          dsimp only at *
          have hrl : rows.length = i := by rw [hrw]; simp
          have hl_hot53 := hot53.1
          have hl_hot54 := hot54.1
          refine wi_seq <| wi_seq <| wi_reg rfl <| lx_move (.int .i64 ((i : Nat) : Int)) rfl rfl <| lx_move (vx) rfl rfl <| lx_len rfl Try.underlying25 ho96.rd rfl <| lx_lssS rfl rfl rfl (fun c12 => ?_) (fun c12 => ?_)
          · refine lx_nil <| wi_true rfl <| wi_skip <| wi_seq <| wi_block <| wi_seq <| wi_reg rfl <| lx_assign (.slice none 0 0) rfl rfl <| lx_nil <| wi_seq <| wi_seq <| wi_reg rfl <| lx_assign (.int .i64 0) rfl rfl <| lx_nil <| wi_block <| ?_
            refine wi_loop (σ := Nat × Value × (List Bool)) (rngB 175 197 [29, 30]) (fun (ss : Nat × Value × (List Bool)) => [(30, .int .i64 ((ss.1 : Nat) : Int)), (29, ss.2.1)]) (fun (ss : Nat × Value × (List Bool)) (hh : Heap) => OwE encHd hh h.size 70 vp hsp ∧ OT encB hh h.size 4 hsp p ∧ OwE encHd hh h.size 70 vt ht ∧ OT encB hh h.size 4 ht rows ∧ Dj vp vt ∧ OwE encB hh h.size 4 ss.2.1 ss.2.2 ∧ Djt hsp ss.2.1 ∧ Djt ht ss.2.1 ∧ OwE encI hh h.size 3 vx zx ∧ Ext h.size h hh ∧ (ss.1 ≤ zx.length) ∧ (ss.2.2 = (List.range ss.1).map (subF (pb p) zx i))) (fun (ss : Nat × Value × (List Bool)) => zx.length - ss.1) (0, .slice none 0 0, []) ⟨rfl, rfl, trivial⟩ ⟨?_, ?_, ?_, ?_, hdj3, ?_, (djt_nil _), (djt_nil _), ?_, hx0_23, ?_, ?_⟩ ?_
            · first | exact ho94 | (simpa using ho94)
            · first | exact hot53 | (simpa using hot53)
            · first | exact ho95 | (simpa using ho95)
            · first | exact hot54 | (simpa using hot54)
            · first | exact (owE_nil encB _ h.size 4) | (simpa using (owE_nil encB _ h.size 4))
            · first | exact ho96 | (simpa using ho96)
            · try dsimp only
              omega
            · try dsimp only
              first | done | rfl
            rintro g8 ⟨j, w, l⟩ hh8 ⟨ho97, hot55, ho98, hot56, hdj4, ho99, hdt3, hdt4, ho100, hx0_24, hj, hl⟩ IH8
            dsimp only at *
            have hll : l.length = j := by rw [hl]; simp
            have hl_hot55 := hot55.1
            have hl_hot56 := hot56.1
            refine wi_seq <| wi_seq <| wi_reg rfl <| lx_move (.int .i64 ((j : Nat) : Int)) rfl rfl <| lx_move (vx) rfl rfl <| lx_len rfl Try.underlying25 ho100.rd rfl <| lx_lssS rfl rfl rfl (fun c13 => ?_) (fun c13 => ?_)
            · refine lx_nil <| wi_true rfl <| wi_skip <| wi_seq <| wi_block <| wi_draw mo rfl (by decide +kernel) <| ?_
              obtain ⟨a, hga, ha4⟩ := hzg i (by omega)
              obtain ⟨b, hgb, hb4⟩ := hzg j (by omega)
              refine lx_move (w) rfl rfl <| lx_move (vp) rfl rfl <| lx_move (vx) rfl rfl <| lx_move (.int .i64 ((i : Nat) : Int)) rfl rfl <| lx_ix (i := i) rfl eT25 ho100.rd rfl rfl (by omega) <| lx_ld (i := i) (j := 0) (.int .i64 ((a : Nat) : Int)) rfl rfl fl3 ho100.rd (by omega) (by show some (Value.int .i64 (gt zx i)) = _; rw [hga]) rfl <| lx_ix (i := a) rfl eT23 ho97.rd rfl rfl (by omega) <| lx_ld (i := a) (j := 0) ((gt hsp a).v) rfl rfl fl70 ho97.rd (by omega) rfl rfl <| lx_move (vx) rfl rfl <| lx_move (.int .i64 ((j : Nat) : Int)) rfl rfl <| lx_ix (i := j) rfl eT25 ho100.rd rfl rfl (by omega) <| lx_ld (i := j) (j := 0) (.int .i64 ((b : Nat) : Int)) rfl rfl fl3 ho100.rd (by omega) (by show some (Value.int .i64 (gt zx j)) = _; rw [hgb]) rfl <| lx_ix (i := b) rfl eT70 (hot55.2.1 a (by omega)).rd rfl rfl (by rw [hpq.2 a (by omega)]; omega) <| lx_ld (i := b) (j := 0) (.bool (gt (gt p a) b)) rfl rfl fl4 (hot55.2.1 a (by omega)).rd (by rw [hpq.2 a (by omega)]; omega) rfl rfl <| lx_appendL (E := encB) (B := h.size) [gt (gt p a) b] [.bool (gt (gt p a) b)] rfl rfl (fun _ => rfl) rfl eT70 rfl rfl rfl rfl ho99 (fun _ => rfl) (by show l.length + 1 ≤ _; omega) (by show (l.length + 1) * 1 ≤ _; omega) hx0_24.size (fun _ _ => trivial) fun u7 v7 h20 ho101 hc7 hg7 => ?_
              have hx0_25 := hx0_24.trans (ho99.ext hc7 hx0_24.size)
              have ho102 := ho97.chg hc7 (dj_ty ho97 ho99 (by decide))
              have ho103 := ho100.chg hc7 (dj_ty ho100 ho99 (by decide))
              have ho104 := ho98.chg hc7 (dj_ty ho98 ho99 (by decide))
              have hot57 := hot55.chg hc7 hdt3
              have hot58 := hot56.chg hc7 hdt4
              refine lx_assign (v7) rfl rfl <| lx_nil <| wi_inBlock <| wi_reg rfl <| lx_move (.int .i64 ((j : Nat) : Int)) rfl rfl <| lx_add (((j + 1 : Nat) : Int)) rfl rfl rfl (by omega) (by omega) (by omega) <| lx_assign (.int .i64 ((j + 1 : Nat) : Int)) rfl rfl <| lx_nil <| ?_
              -- L8.1
              refine IH8 _ _ (j + 1, v7, l ++ [gt (gt p a) b]) (agree_ups rfl agree_self) ⟨rfl, rfl, trivial⟩ ⟨?_, ?_, ?_, ?_, hdj4, ?_, (djt_app hdt3 hot55 hg7), (djt_app hdt4 hot56 hg7), ?_, hx0_25, ?_, ?_⟩ ?_
              · first | exact ho102 | (simpa using ho102)
              · first | exact hot57 | (simpa using hot57)
              · first | exact ho104 | (simpa using ho104)
              · first | exact hot58 | (simpa using hot58)
              · first | exact ho101 | (simpa using ho101)
              · first | exact ho103 | (simpa using ho103)
              · try dsimp only
                omega
              · try dsimp only
                rw [hl, List.range_succ, List.map_append]
                congr 1
                show [_] = [subF (pb p) zx i j]
                unfold subF; rw [hga, hgb]; rfl
              · first | omega | (dsimp only; omega)
            · have hot59 : OT encB hh8 h.size 4 (ht ++ [hdrOf w]) (rows ++ [l]) := OT.snoc hot56 ho99 hdt4
              refine lx_nil <| wi_false rfl <| wi_exit rfl <| wi_reg rfl <| lx_move (vt) rfl rfl <| lx_move (w) rfl rfl <| lx_appendL (E := encHd) (B := h.size) [hdrOf w] [w] rfl rfl (fun _ => rfl) rfl eT29 rfl rfl (hdr_cells1 ho99.rd) rfl ho98 (fun _ => rfl) (by show ht.length + 1 ≤ _; omega) (by show (ht.length + 1) * 24 ≤ _; omega) hx0_24.size (fun _ _ => trivial) fun u8 v8 h21 ho105 hc8 hg8 => ?_
              have hx0_26 := hx0_24.trans (ho98.ext hc8 hx0_24.size)
              have ho106 := ho97.chg hc8 hdj4
              have ho107 := ho100.chg hc8 (dj_ty ho100 ho98 (by decide))
              have hot60 := hot55.chg hc8 (djt_ty hot55 ho98 (by decide))
              have hot61 : OT encB h21 h.size 4 (ht ++ [hdrOf w]) (rows ++ [l]) := hot59.chg hc8 (djt_ty hot59 ho98 (by decide))
              have hl_hot61 := hot61.1
              refine lx_assign (v8) rfl rfl <| lx_nil <| wi_inBlock <| wi_reg rfl <| lx_move (.int .i64 ((i : Nat) : Int)) rfl rfl <| lx_add (((i + 1 : Nat) : Int)) rfl rfl rfl (by omega) (by omega) (by omega) <| lx_assign (.int .i64 ((i + 1 : Nat) : Int)) rfl rfl <| lx_nil <| ?_
              -- L6.1
              refine IH7 _ _ (i + 1, v8, ht ++ [hdrOf w], rows ++ [l]) (agree_ups rfl (agree_mix (rngB_sub (by decide) (by decide) rfl) (agree_ups rfl agree_self))) ⟨rfl, rfl, trivial⟩ ⟨?_, ?_, ?_, ?_, (dj_app hdj4 ho97 hg8), ?_, hx0_26, ?_, ?_⟩ ?_
              · first | exact ho106 | (simpa using ho106)
              · first | exact hot60 | (simpa using hot60)
              · first | exact ho105 | (simpa using ho105)
              · first | exact hot61 | (simpa using hot61)
              · first | exact ho107 | (simpa using ho107)
              · try dsimp only
                omega
              · try dsimp only
                rw [hrw, List.range_succ, List.map_append, hl, show j = zx.length from by omega]; rfl
              · first | omega | (dsimp only; omega)
          · refine lx_nil <| wi_false rfl <| wi_exit rfl <| wi_seq <| wi_reg rfl <| ?_
            have hpart : rows = tabF zx.length (subF (pb p) zx) := by rw [hrw, show i = zx.length from by omega]; rfl
            have hple := tab_lenB hpart (by omega)
            obtain ⟨hpc, hpo⟩ := tab_lat (m := zx.length) (h := subF (pb p) zx) (by omega) (by omega) hf2 hf3
            rw [← hpart] at hpc hpo
            refine lx_move (vt) rfl rfl <| lx_call [vt] rfl rfl Try.call29 rfl (lattice_spec hh7 vt ht rows ho95.rd hot54.rt hple.1 hple.2) (fun _ _ _ => trivial) ?_
            rintro _ h22 ⟨vj, vm, hj, hm, rj, rm, okr, rfl, ho108, hot62, ho109, hot63, hopr, hx14⟩
            have hx0_27 := hx0_23.trans2 hx14 hx0_23.size
            have ho110 := ho94.extS hx14
            have hot64 := hot53.extS hx14
            have ho111 := ho96.extS hx14
            have ho112 := ho95.extS hx14
            have hot65 := hot54.extS hx14
            have ho113 := ho108.base hx0_23.size
            have hot66 := hot62.base hx0_23.size
            have hl_hot66 := hot66.1
            have ho114 := ho109.base hx0_23.size
            have hot67 := hot63.base hx0_23.size
            have hl_hot67 := hot67.1
            refine lx_move (.tuple #[vj, vm, .bool okr, .int .i64 (chkT rows)]) rfl rfl <| lx_extract (vj) rfl rfl rfl <| lx_extract (vm) rfl rfl rfl <| lx_extract (.bool okr) rfl rfl rfl <| lx_extract (.int .i64 (chkT rows)) rfl rfl rfl <| lx_assign (vj) rfl rfl <| lx_assign (vm) rfl rfl <| lx_assign (.bool okr) rfl rfl <| lx_assign (.int .i64 (chkT rows)) rfl rfl <| lx_nil <| wi_seq <| wi_reg rfl <| ?_
            have hok2 : okr = true := by rw [hopr.2, hpo]; rfl
            subst hok2
            refine lx_move (.int .i64 (chkT rows)) rfl rfl <| lx_eqlT rfl rfl rfl hpc <| lx_move (.bool true) rfl rfl <| lx_move (.bool true) rfl rfl <| lx_pick true (.bool true) rfl rfl rfl <| lx_move (.bool true) rfl rfl <| lx_call [] rfl rfl Try.call20 rfl (awake_spec h22 ) (fun _ _ _ => trivial) ?_
            rintro _ h23 ⟨rfl, hx15⟩
            have hx0_28 := hx0_27.trans2 hx15 hx0_27.size
            have ho115 := ho110.extS hx15
            have hot68 := hot64.extS hx15
            have ho116 := ho111.extS hx15
            have ho117 := ho112.extS hx15
            have hot69 := hot65.extS hx15
            have ho118 := ho113.extS hx15
            have hot70 := hot66.extS hx15
            have ho119 := ho114.extS hx15
            have hot71 := hot67.extS hx15
            refine lx_pick true (.bool true) rfl rfl rfl <| lx_assign (.bool true) rfl rfl <| lx_nil <| ?_
            -- R4
            refine wi_ret ⟨.bool true, (res_one rfl rfl), ⟨rfl, hx0_28⟩⟩

end Go.Proofs.Ytdokijbdnajhgaa
namespace Go.Proofs.Ytdokijbdnajhgaa
open Go Go.X Go.ChangeShapes Go.WideShapes Go.ChangeAt Go.RowKit

theorem orderTarski_own : ownKnob Try.prog.godebug = none := by kernel_rfl
theorem orderTarski_laidOut : laidOutB Try.prog = true := by kernel_rfl

set_option maxRecDepth 100000 in
theorem orderTarski_lifted (os : Os) (started : os.Started) (H : Type) (enc : TypeId × Value → H) :
    ReturnsInHanded {} Try.checked os 7 .any (Rows.orderTarskiSpec.pre6 enc Try.prog Try.f7 Rows.orderTarskiRow.domain false) (Rows.orderTarskiSpec.post enc Try.prog Try.f7 false true false false) := by
  refine returnsInHanded_of_change (C := Try.checked) orderTarski_own started (by kernel_rfl) Try.func7
    (ChangeSpec.witness6 (enc := enc) (C := Try.checked) false ⟨#[], #[.int .i64 0, .slice none 0 0, .slice none 0 0], []⟩ 8 (by kernel_rfl) (by kernel_rfl) (by kernel_rfl) (by kernel_rfl)) ?_
  intro W base args ds gs before hval0 hW hcnd _
  have hval : ∀ (j : Nat) t v, Try.f7.params[j]? = some t → args[j]? = some v → Value.okWide Try.prog W .any base t v := hval0
  have hW' := hW
  obtain ⟨p, q, hA0, hV, rfl, hfz, hnd⟩ := hW
  have hA : DataW.TrodAll enc Try.prog W 0 (fun _ => true) true Try.f7.params.toList args.toList ds p := hA0
  rw [Try.params7] at hA hval
  obtain ⟨v0, vs0, d0, ds0, p0, q0, hargs, rfl, rfl, h0, r0⟩ := trodAll_cons hA
  obtain ⟨v1, vs1, d1, ds1, p1, q1, rfl, rfl, rfl, h1, r1⟩ := trodAll_cons r0
  obtain ⟨v2, vs2, d2, ds2, p2, q2, rfl, rfl, rfl, h2, r2⟩ := trodAll_cons r1
  obtain ⟨rfl, rfl, rfl⟩ := trodAll_nil r2
  obtain rfl : args = #[v0, v1, v2] := by cases args; simp_all
  obtain ⟨rfl, rfl⟩ := trodVars_none hV
  obtain ⟨n, rfl, rfl, rfl, w0⟩ := open_int Try.underlying3 (hval 0 3 v0 rfl rfl) h0
  have hb_n := bounds_i64 w0
  have k1 := h1
  have lt1 : ∀ x ∈ p1, x.block < W.heap.size := by obtain ⟨m, hm⟩ := k1; exact DataW.trod_lt m _ _ _ hm
  obtain ⟨l, hr_l, hl_l, hb_l⟩ := lift_pairs Try.underlying22 Try.underlying85 Try.underlying3 (by kernel_rfl) (by kernel_rfl) (hval 1 22 v1 rfl rfl) h1
  have k2 := h2
  have lt2 : ∀ x ∈ p2, x.block < W.heap.size := by obtain ⟨m, hm⟩ := k2; exact DataW.trod_lt m _ _ _ hm
  obtain ⟨f, hr_f, hl_f, hb_f⟩ := lift_ints Try.underlying25 Try.underlying3 (by kernel_rfl) (hval 2 25 v2 rfl rfl) h2
  clear hA0 hval0
  refine (lift_walk (args := [.int .i64 n, v1, v2]) (orderTarski_spec W.heap n v1 l v2 f hr_l hr_f hl_l hl_f)).mono fun e W' ⟨he, bel⟩ => ?_
  subst he
  exact ⟨_, rfl, _, _, _, [], _, [], hW', trodAll_mk1 (shut_bool Try.underlying4 _), (trodAll_cons_mk (shut_int Try.underlying3 w0) (trodAll_cons_mk (Below.trod orderTarski_laidOut (by kernel_rfl) (of_decide_eq_true (by kernel_rfl)) k1 bel lt1) (trodAll_cons_mk (Below.trod orderTarski_laidOut (by kernel_rfl) (of_decide_eq_true (by kernel_rfl)) k2 bel lt2) trodAll_mk0))), rfl, bel.frame _, fun h => by cases h⟩

theorem orderTarski_holds : Rows.OrderTarskiSaid :=
  OpenClaim.holds_of_wide 7 Try.f7 rfl rfl rfl rfl rfl rfl rfl ⟨rfl, rfl, rfl, rfl, rfl⟩ rfl rfl rfl rfl rfl (by kernel_rfl) Try.func7 (by kernel_rfl)
    (of_decide_eq_true (by kernel_rfl)) (by unfold Func.isWrapper; first | (rw [if_pos (by decide +kernel)]; kernel_rfl) | (rw [if_neg (by decide +kernel)]; exact ⟨rfl, rfl⟩))
    (fun os started H enc _ => orderTarski_lifted os started H enc)
#print axioms orderTarski_holds
end Go.Proofs.Ytdokijbdnajhgaa
