/- SwissPairs: of all pairings the one that costs least. -/
import Derived.Test.YtemfkhafkhkffaaPSwissPairsx6
import Derived.Test.YtemfkhafkhkffaaAid
namespace Go.Proofs.Ytemfkhafkhkffaa.Pure
open Go.RowKit Go.Proofs.Ytemfkhafkhkffaa.PSwissPairs Go.Proofs.YtemfkhafkhkffaaW.PrintWords Go.Proofs.YtemfkhafkhkffaaW.PrintLast
set_option linter.unusedSimpArgs false
set_option linter.unusedVariables false
namespace Sw
open Aid
theorem rdS (l : List S33) (i : Nat) (h : i < l.length) : rd_T33 l (i : Int) = l[i] := by simp [rd_T33, List.getD_eq_getElem?_getD, h]
theorem wn1 (i : Nat) (h : i ≤ 100000) : wrap64 ((i : Int) + 1) = ((i + 1 : Nat) : Int) := by rw [w64s (by omega) (by omega)]; omega
def T (l : List S33) (i j : Nat) : Int := cntO (j : Int) (rd_T33 l (i : Int)).f1
/-! what is wrong with players -/
def badO (l : List S33) (i : Nat) (o : Int) : Bool := decide (o < 0) || (decide (o ≥ (l.length : Int)) || decide (o = (i : Int)))
def badR (p : S33) : Bool := decide (p.f0 < 0) || (decide (p.f0 > 40) || (decide (p.f2 < -20) || decide (p.f2 > 20)))
def rowsE (l : List S33) (z : Int) : Nat → Nat → Int
  | 0, _ => z
  | d + 1, i => if badR (rd_T33 l (i : Int)) = true then 4 else if ((rd_T33 l (i : Int)).f1.length : Int) > 20 then 2 else if (rd_T33 l (i : Int)).f1.any (badO l i) = true then 3 else rowsE l z d (i + 1)
def colE (l : List S33) (i : Nat) (z : Int) : Nat → Nat → Int
  | 0, _ => z
  | d + 1, j => if T l i j = T l j i then (if T l i j > 1 then 7 else colE l i z d (j + 1)) else 3
def tabE (l : List S33) : Nat → Nat → Int
  | 0, _ => 0
  | d + 1, i => colE l i (tabE l d (i + 1)) i 0
def faultV (l : List S33) : Int := if (l.length : Int) < 2 ∨ (l.length : Int) > 8 then 2 else rowsE l (tabE l l.length 0) l.length 0
theorem times_ev (l : List S33) (i j : Nat) (hi : i < l.length) (ho : (rd_T33 l (i : Int)).f1.length ≤ 20) : Ev (fun k => swiss_times.f k l (i : Int) (j : Int)) (T l i j) := by
  unfold swiss_times.f
  refine ite (fun _ => ?_) (fun h => absurd (Int.natCast_nonneg _) h)
  refine ite (fun _ => ?_) (fun h => absurd (by omega) h)
  unfold T
  generalize (rd_T33 l (i : Int)).f1 = os at ho ⊢
  have key : ∀ (d s : Nat) (n : Int), s + d = os.length → 0 ≤ n → n ≤ (s : Int) → Ev (fun k => swiss_times.l0 k (j : Int) n os (os.length : Int) (s : Int)) (n + cntO (j : Int) (os.drop s)) := by
    intro d
    induction d with
    | zero =>
      intro s n hs _ _
      rw [List.drop_of_length_le (by omega)]
      refine Ev.step (fun k => by rw [swiss_times.l0]) ?_
      exact ite (fun h => absurd h (by omega)) (fun _ => now (by rw [cntO, Int.add_zero]))
    | succ d ih =>
      intro s n hs n0 n1
      refine Ev.step (fun k => by rw [swiss_times.l0]) ?_
      refine ite (fun _ => ?_) (fun h => absurd (by omega) h)
      refine ite (fun _ => ?_) (fun h => absurd (Int.natCast_nonneg _) h)
      refine ite (fun _ => ?_) (fun h => absurd (by omega) h)
      rw [wn1 s (by omega), drop_int os s (by omega), cntO]
      refine ite (fun h => ?_) (fun h => ?_)
      · rw [if_pos h, w64 (n := n + 1) (by omega) (by omega)]
        exact ev_eq (ih (s + 1) (n + 1) (by omega) (by omega) (by omega)) (by omega)
      · rw [if_neg h]
        exact ev_eq (ih (s + 1) n (by omega) n0 (by omega)) (by omega)
  have := key os.length 0 0 (by omega) (by omega) (by omega)
  rw [List.drop_zero, Int.zero_add] at this
  exact this
theorem chk_l3 (l : List S33) (hn : l.length ≤ 8) (ho : ∀ i, i < l.length → (rd_T33 l (i : Int)).f1.length ≤ 20) (i : Nat) (hi : i < l.length) (z : Int) (e : Ev (fun k => swiss_Check.l2 k l (l.length : Int) (wrap64 ((i : Int) + 1))) z) : ∀ (d j : Nat), j + d = i → Ev (fun k => swiss_Check.l3 k l (i : Int) (l.length : Int) (i : Int) (i : Int) (j : Int)) (colE l i z d j) := by
  intro d
  induction d with
  | zero =>
    intro j hj
    refine Ev.step (fun k => by rw [swiss_Check.l3]) ?_
    exact ite (fun h => absurd h (by omega)) (fun _ => e)
  | succ d ih =>
    intro j hj
    refine Ev.step (fun k => by rw [swiss_Check.l3]) ?_
    refine ite (fun _ => ?_) (fun h => absurd (by omega) h)
    refine Ev.bind (times_ev l i j hi (ho i hi)) (Ev.bind (times_ev l j i (by omega) (ho j (by omega))) ?_)
    rw [colE, wn1 j (by omega)]
    refine ite (fun h => ?_) (fun h => now (by rw [if_neg h]))
    rw [if_pos h]
    refine Ev.bind (times_ev l i j hi (ho i hi)) ?_
    exact ite (fun h => now (by rw [if_pos h])) (fun h => by rw [if_neg h]; exact ih (j + 1) (by omega))
theorem chk_l2 (l : List S33) (hn : l.length ≤ 8) (ho : ∀ i, i < l.length → (rd_T33 l (i : Int)).f1.length ≤ 20) : ∀ (d i : Nat), i + d = l.length → Ev (fun k => swiss_Check.l2 k l (l.length : Int) (i : Int)) (tabE l d i) := by
  intro d
  induction d with
  | zero =>
    intro i hi
    refine Ev.step (fun k => by rw [swiss_Check.l2]) ?_
    exact ite (fun h => absurd h (by omega)) (fun _ => now rfl)
  | succ d ih =>
    intro i hi
    have e := ih (i + 1) (by omega)
    rw [← wn1 i (by omega)] at e
    refine Ev.step (fun k => by rw [swiss_Check.l2]) ?_
    refine ite (fun _ => ?_) (fun h => absurd (by omega) h)
    exact chk_l3 l hn ho i (by omega) _ e i 0 (by omega)
theorem chk_l1 (l : List S33) (i : Nat) (os : List Int) (ho : os.length ≤ 20) (z : Int) (e : Ev (fun k => swiss_Check.l0 k l l (l.length : Int) (wrap64 ((i : Int) + 1))) z) : ∀ (d s : Nat), s + d = os.length → Ev (fun k => swiss_Check.l1 k l (i : Int) l (l.length : Int) (i : Int) os (os.length : Int) (s : Int)) (if (os.drop s).any (badO l i) = true then 3 else z) := by
  intro d
  induction d with
  | zero =>
    intro s hs
    rw [List.drop_of_length_le (by omega)]
    refine Ev.step (fun k => by rw [swiss_Check.l1]) ?_
    exact ite (fun h => absurd h (by omega)) (fun _ => e)
  | succ d ih =>
    intro s hs
    have e2 := ih (s + 1) (by omega)
    refine Ev.step (fun k => by rw [swiss_Check.l1]) ?_
    rw [wn1 s (by omega), drop_int os s (by omega), List.any_cons]
    refine ite (fun _ => ?_) (fun h => absurd (by omega) h)
    refine ite (fun _ => ?_) (fun h => absurd (Int.natCast_nonneg _) h)
    refine ite (fun _ => ?_) (fun h => absurd (by omega) h)
    refine ite (fun h => now ?_) (fun h1 => ?_)
    · rw [show badO l i (rd os (s : Int)) = true by unfold badO; rw [decide_eq_true h]; rfl]; rfl
    refine ite (fun h => now ?_) (fun h2 => ?_)
    · rw [show badO l i (rd os (s : Int)) = true by unfold badO; rw [decide_eq_true h, Bool.true_or, Bool.or_true]]; rfl
    refine ite (fun h => now ?_) (fun h3 => ?_)
    · rw [show badO l i (rd os (s : Int)) = true by unfold badO; rw [decide_eq_true h, Bool.or_true, Bool.or_true]]; rfl
    rw [show badO l i (rd os (s : Int)) = false by unfold badO; rw [decide_eq_false h1, decide_eq_false h2, decide_eq_false h3]; rfl, Bool.false_or]
    exact e2
theorem chk_l0 (l : List S33) (hn : l.length ≤ 8) (z : Int) (e : (∀ i, i < l.length → (rd_T33 l (i : Int)).f1.length ≤ 20) → Ev (fun k => swiss_Check.l2 k l (l.length : Int) 0) z) : ∀ (d i : Nat), i + d = l.length → (∀ j, j < i → (rd_T33 l (j : Int)).f1.length ≤ 20) → Ev (fun k => swiss_Check.l0 k l l (l.length : Int) (i : Int)) (rowsE l z d i) := by
  intro d
  induction d with
  | zero =>
    intro i hi hj
    refine Ev.step (fun k => by rw [swiss_Check.l0]) ?_
    exact ite (fun h => absurd h (by omega)) (fun _ => e (fun j hj2 => hj j (by omega)))
  | succ d ih =>
    intro i hi hj
    have j2 : ∀ b, Ev (fun k => swiss_Check.j2 k l (i : Int) l (l.length : Int) (i : Int) b (rd_T33 l (i : Int)).f0 (rd_T33 l (i : Int)).f1 (rd_T33 l (i : Int)).f2 (rd_T33 l (i : Int)).f3) (if b = true then 4 else if ((rd_T33 l (i : Int)).f1.length : Int) > 20 then 2 else if (rd_T33 l (i : Int)).f1.any (badO l i) = true then 3 else rowsE l z d (i + 1)) := by
      intro b
      refine Ev.step (fun k => by rw [swiss_Check.j2]) ?_
      refine ite (fun h => now (by rw [if_pos h])) (fun h => ?_)
      rw [if_neg h]
      refine ite (fun h => now (by rw [if_pos h])) (fun h => ?_)
      rw [if_neg h]
      have e2 := ih (i + 1) (by omega) (fun j hj3 => by
        rcases Nat.lt_succ_iff_lt_or_eq.1 hj3 with h4 | rfl
        · exact hj j h4
        · omega)
      rw [← wn1 i (by omega)] at e2
      have := chk_l1 l i (rd_T33 l (i : Int)).f1 (by omega) _ e2 (rd_T33 l (i : Int)).f1.length 0 (by omega)
      rw [List.drop_zero] at this
      exact this
    refine Ev.step (fun k => by rw [swiss_Check.l0]) ?_
    refine ite (fun _ => ?_) (fun h => absurd (by omega) h)
    refine ite (fun _ => ?_) (fun h => absurd (Int.natCast_nonneg _) h)
    refine ite (fun _ => ?_) (fun h => absurd (by omega) h)
    rw [rowsE]
    unfold badR
    refine ite (fun h => ev_eq (j2 true) (by rw [decide_eq_true h]; rfl)) (fun h1 => ?_)
    refine ite (fun h => ev_eq (j2 true) (by rw [decide_eq_true h, Bool.true_or, Bool.or_true])) (fun h2 => ?_)
    refine ite (fun h => ev_eq (j2 true) (by rw [decide_eq_true h, Bool.true_or, Bool.or_true, Bool.or_true])) (fun h3 => ?_)
    exact ev_eq (j2 _) (by rw [decide_eq_false h1, decide_eq_false h2, decide_eq_false h3, Bool.false_or, Bool.false_or, Bool.false_or])
theorem chk_f (l : List S33) : Ev (fun k => swiss_Check.f k l) (faultV l) := by
  have j0 : ∀ b, (b = false → l.length ≤ 8) → Ev (fun k => swiss_Check.j0 k l b) (if b = true then 2 else rowsE l (tabE l l.length 0) l.length 0) := by
    intro b hb
    refine Ev.step (fun k => by rw [swiss_Check.j0]) ?_
    refine ite (fun h => now (by rw [if_pos h])) (fun h => ?_)
    rw [if_neg h]
    have hn := hb (Bool.eq_false_iff.mpr h)
    exact chk_l0 l hn _ (fun ho => chk_l2 l hn ho l.length 0 (by omega)) l.length 0 (by omega) (fun j hj => absurd hj (Nat.not_lt_zero j))
  unfold swiss_Check.f faultV
  refine ite (fun h => ?_) (fun h => ?_)
  · rw [if_pos (.inl h)]; exact ev_eq (j0 true (fun h => by cases h)) rfl
  · by_cases h8 : (l.length : Int) > 8
    · rw [if_pos (.inr h8), decide_eq_true h8]; exact ev_eq (j0 true (fun h => by cases h)) rfl
    · rw [if_neg (fun hh => hh.elim h h8), decide_eq_false h8]; exact ev_eq (j0 false (fun _ => by omega)) rfl
/-! the reference's table -/
theorem cntO_in (j : Int) : ∀ os : List Int, 0 ≤ cntO j os ∧ cntO j os ≤ (os.length : Int)
  | [] => ⟨Int.le_refl _, Int.le_refl _⟩
  | o :: os => by
    have := cntO_in j os
    rw [cntO, List.length_cons]
    split <;> omega
theorem cntO_take (j : Int) : ∀ (os : List Int) (s : Nat), s < os.length → cntO j (os.take (s + 1)) = cntO j (os.take s) + (if rd os (s : Int) = j then 1 else 0)
  | [], s, h => absurd h (Nat.not_lt_zero s)
  | o :: os, 0, _ => by
    rw [show rd (o :: os) ((0 : Nat) : Int) = o from rfl]
    simp [cntO]
  | o :: os, s + 1, h => by
    have := cntO_take j os s (by simpa using h)
    rw [show rd (o :: os) ((s + 1 : Nat) : Int) = rd os (s : Int) by unfold rd; rw [Int.toNat_natCast, Int.toNat_natCast, List.getD_cons_succ], List.take_succ_cons, List.take_succ_cons, cntO, cntO, this]
    omega
structure MI (l : List S33) (i s : Nat) (m : List Int) : Prop where
  n : m.length = 64
  v : ∀ a b : Nat, a < 8 → b < 8 → rd m ((8 * a + b : Nat) : Int) = if a < i then T l a b else if a = i then cntO (b : Int) ((rd_T33 l (i : Int)).f1.take s) else 0
theorem mi_step {l : List S33} {i s : Nat} {m : List Int} (h : MI l i s m) (hi : i < 8) (hs : s < (rd_T33 l (i : Int)).f1.length) (hl : (rd_T33 l (i : Int)).f1.length ≤ 20) (o : Nat) (ho : o < 8) (he : rd (rd_T33 l (i : Int)).f1 (s : Int) = (o : Int)) : MI l i (s + 1) (m.set (8 * i + o) (wrap64 (rd m ((8 * i + o : Nat) : Int) + 1))) := by
  refine ⟨by rw [List.length_set]; exact h.n, fun a b ha hb => ?_⟩
  have hv := h.v i o hi ho
  rw [if_neg (Nat.lt_irrefl i), if_pos rfl] at hv
  have hc := cntO_in (o : Int) ((rd_T33 l (i : Int)).f1.take s)
  rw [List.length_take] at hc
  have hw : wrap64 (rd m ((8 * i + o : Nat) : Int) + 1) = rd m ((8 * i + o : Nat) : Int) + 1 := w64 (by omega) (by omega)
  rw [hw]
  have hset : ∀ (k : Nat) (v : Int) (j : Nat), k < 64 → rd (m.set k v) (j : Int) = if j = k then v else rd m (j : Int) := by
    intro k v j hk
    unfold rd
    rw [Int.toNat_natCast]
    simp only [List.getD_eq_getElem?_getD, List.getElem?_set]
    by_cases hkj : k = j
    · subst hkj; simp [h.n, hk]
    · rw [if_neg hkj, if_neg (fun e => hkj e.symm)]
  rw [hset _ _ _ (by omega), h.v a b ha hb]
  by_cases ha1 : a < i
  · rw [if_pos ha1, if_pos ha1, if_neg (by omega)]
  · rw [if_neg ha1, if_neg ha1]
    by_cases ha2 : a = i
    · subst ha2
      rw [if_pos rfl, if_pos rfl, cntO_take _ _ _ hs, he]
      by_cases hb2 : b = o
      · subst hb2; rw [if_pos rfl, if_pos rfl, hv]
      · rw [if_neg (by omega), if_neg (by omega), Int.add_zero]
    · rw [if_neg ha2, if_neg ha2, if_neg (by omega)]
theorem mi_next {l : List S33} {i : Nat} {m : List Int} (h : MI l i (rd_T33 l (i : Int)).f1.length m) : MI l (i + 1) 0 m := by
  refine ⟨h.n, fun a b ha hb => ?_⟩
  rw [h.v a b ha hb]
  by_cases h1 : a < i
  · rw [if_pos h1, if_pos (by omega)]
  · rw [if_neg h1]
    by_cases h2 : a = i
    · subst h2; rw [if_pos rfl, if_pos (by omega), List.take_length]; rfl
    · rw [if_neg h2, if_neg (by omega)]
      split
      · rw [List.take_zero]; rfl
      · rfl
theorem mi_zero (l : List S33) : MI l 0 0 (List.replicate 64 0) := by
  refine ⟨rfl, fun a b ha hb => ?_⟩
  rw [if_neg (Nat.not_lt_zero _), List.take_zero]
  have : rd (List.replicate 64 0) ((8 * a + b : Nat) : Int) = 0 := by
    unfold rd
    rw [Int.toNat_natCast, List.getD_eq_getElem?_getD, List.getElem?_replicate]
    split <;> rfl
  rw [this]
  split <;> rfl
theorem ix (i j : Nat) (hi : i < 8) (hj : j < 8) : wrap64 (wrap64 (8 * (i : Int)) + (j : Int)) = ((8 * i + j : Nat) : Int) := by
  rw [w64 (n := 8 * (i : Int)) (by omega) (by omega), w64 (by omega) (by omega)]; omega
theorem flt_l3 (l : List S33) (hn : l.length ≤ 8) (m : List Int) (hm : MI l l.length 0 m) (i : Nat) (hi : i < l.length) (z : Int) (e : Ev (fun k => gamehallref3_SwissFault.l2 k m (l.length : Int) (wrap64 ((i : Int) + 1))) z) : ∀ (d j : Nat), j + d = i → Ev (fun k => gamehallref3_SwissFault.l3 k m (i : Int) (l.length : Int) (i : Int) (i : Int) (j : Int)) (colE l i z d j) := by
  intro d
  induction d with
  | zero =>
    intro j hj
    refine Ev.step (fun k => by rw [gamehallref3_SwissFault.l3]) ?_
    exact ite (fun h => absurd h (by omega)) (fun _ => e)
  | succ d ih =>
    intro j hj
    have h1 := hm.v i j (by omega) (by omega)
    have h2 := hm.v j i (by omega) (by omega)
    have h64 := hm.n
    rw [if_pos hi] at h1
    rw [if_pos (by omega)] at h2
    refine Ev.step (fun k => by rw [gamehallref3_SwissFault.l3]) ?_
    rw [ix i j (by omega) (by omega), ix j i (by omega) (by omega), h1, h2, colE, wn1 j (by omega)]
    refine ite (fun _ => ?_) (fun h => absurd (by omega) h)
    refine ite (fun _ => ?_) (fun h => absurd (Int.natCast_nonneg _) h)
    refine ite (fun _ => ?_) (fun h => absurd (by omega) h)
    refine ite (fun _ => ?_) (fun h => absurd (Int.natCast_nonneg _) h)
    refine ite (fun _ => ?_) (fun h => absurd (by omega) h)
    refine ite (fun h => ?_) (fun h => now (by rw [if_neg h]))
    rw [if_pos h]
    exact ite (fun h => now (by rw [if_pos h])) (fun h => by rw [if_neg h]; exact ih (j + 1) (by omega))
theorem flt_l2 (l : List S33) (hn : l.length ≤ 8) (m : List Int) (hm : MI l l.length 0 m) : ∀ (d i : Nat), i + d = l.length → Ev (fun k => gamehallref3_SwissFault.l2 k m (l.length : Int) (i : Int)) (tabE l d i) := by
  intro d
  induction d with
  | zero =>
    intro i hi
    refine Ev.step (fun k => by rw [gamehallref3_SwissFault.l2]) ?_
    exact ite (fun h => absurd h (by omega)) (fun _ => now rfl)
  | succ d ih =>
    intro i hi
    have e := ih (i + 1) (by omega)
    rw [← wn1 i (by omega)] at e
    refine Ev.step (fun k => by rw [gamehallref3_SwissFault.l2]) ?_
    refine ite (fun _ => ?_) (fun h => absurd (by omega) h)
    exact flt_l3 l hn m hm i (by omega) _ e i 0 (by omega)
theorem flt_l1 (l : List S33) (hn : l.length ≤ 8) (i : Nat) (hi : i < l.length) (ho : (rd_T33 l (i : Int)).f1.length ≤ 20) (z : Int) (e : ∀ m, MI l (i + 1) 0 m → Ev (fun k => gamehallref3_SwissFault.l0 k l m l (l.length : Int) (wrap64 ((i : Int) + 1))) z) : ∀ (d s : Nat) (m : List Int), s + d = (rd_T33 l (i : Int)).f1.length → MI l i s m → Ev (fun k => gamehallref3_SwissFault.l1 k l m (i : Int) l (l.length : Int) (i : Int) (rd_T33 l (i : Int)).f1 ((rd_T33 l (i : Int)).f1.length : Int) (s : Int)) (if ((rd_T33 l (i : Int)).f1.drop s).any (badO l i) = true then 3 else z) := by
  intro d
  induction d with
  | zero =>
    intro s m hs hm
    rw [List.drop_of_length_le (by omega)]
    refine Ev.step (fun k => by rw [gamehallref3_SwissFault.l1]) ?_
    refine ite (fun h => absurd h (by omega)) (fun _ => ?_)
    rw [show s = (rd_T33 l (i : Int)).f1.length by omega] at hm
    exact e m (mi_next hm)
  | succ d ih =>
    intro s m hs hm
    have h64 := hm.n
    refine Ev.step (fun k => by rw [gamehallref3_SwissFault.l1]) ?_
    rw [wn1 s (by omega), drop_int _ s (by omega), List.any_cons]
    refine ite (fun _ => ?_) (fun h => absurd (by omega) h)
    refine ite (fun _ => ?_) (fun h => absurd (Int.natCast_nonneg _) h)
    refine ite (fun _ => ?_) (fun h => absurd (by omega) h)
    obtain ⟨o, hoo⟩ : ∃ o, rd (rd_T33 l (i : Int)).f1 (s : Int) = o := ⟨_, rfl⟩
    have hstep := fun (n : Nat) (hn8 : n < 8) (e : o = (n : Int)) => mi_step hm (by omega) (show s < (rd_T33 l (i : Int)).f1.length by omega) ho n hn8 (hoo.trans e)
    rw [hoo]
    refine ite (fun h => now ?_) (fun h1 => ?_)
    · rw [show badO l i o = true by unfold badO; rw [decide_eq_true h]; rfl]; rfl
    refine ite (fun h => now ?_) (fun h2 => ?_)
    · rw [show badO l i o = true by unfold badO; rw [decide_eq_true h, Bool.true_or, Bool.or_true]]; rfl
    refine ite (fun h => now ?_) (fun h3 => ?_)
    · rw [show badO l i o = true by unfold badO; rw [decide_eq_true h, Bool.or_true, Bool.or_true]]; rfl
    rw [show badO l i o = false by unfold badO; rw [decide_eq_false h1, decide_eq_false h2, decide_eq_false h3]; rfl, Bool.false_or]
    obtain ⟨n, hn0⟩ := Int.eq_ofNat_of_zero_le (show 0 ≤ o by omega)
    have hst := hstep n (by omega) hn0
    subst hn0
    rw [ix i n (by omega) (by omega), Int.toNat_natCast]
    refine ite (fun _ => ?_) (fun h => absurd (Int.natCast_nonneg _) h)
    refine ite (fun _ => ?_) (fun h => absurd (by omega) h)
    exact ih (s + 1) _ (by omega) hst
theorem flt_l0 (l : List S33) (hn : l.length ≤ 8) : ∀ (d i : Nat) (m : List Int), i + d = l.length → MI l i 0 m → Ev (fun k => gamehallref3_SwissFault.l0 k l m l (l.length : Int) (i : Int)) (rowsE l (tabE l l.length 0) d i) := by
  intro d
  induction d with
  | zero =>
    intro i m hi hm
    refine Ev.step (fun k => by rw [gamehallref3_SwissFault.l0]) ?_
    refine ite (fun h => absurd h (by omega)) (fun _ => ?_)
    rw [show i = l.length by omega] at hm
    exact flt_l2 l hn m hm l.length 0 (by omega)
  | succ d ih =>
    intro i m hi hm
    have j2 : ∀ b, Ev (fun k => gamehallref3_SwissFault.j2 k l m (i : Int) l (l.length : Int) (i : Int) b (rd_T33 l (i : Int)).f0 (rd_T33 l (i : Int)).f1 (rd_T33 l (i : Int)).f2 (rd_T33 l (i : Int)).f3) (if b = true then 4 else if ((rd_T33 l (i : Int)).f1.length : Int) > 20 then 2 else if (rd_T33 l (i : Int)).f1.any (badO l i) = true then 3 else rowsE l (tabE l l.length 0) d (i + 1)) := by
      intro b
      refine Ev.step (fun k => by rw [gamehallref3_SwissFault.j2]) ?_
      refine ite (fun h => now (by rw [if_pos h])) (fun h => ?_)
      rw [if_neg h]
      refine ite (fun h => now (by rw [if_pos h])) (fun h => ?_)
      rw [if_neg h]
      have := flt_l1 l hn i (by omega) (by omega) _ (fun m' hm' => by
        have e2 := ih (i + 1) m' (by omega) hm'
        rw [← wn1 i (by omega)] at e2
        exact e2) (rd_T33 l (i : Int)).f1.length 0 m (by omega) hm
      rw [List.drop_zero] at this
      exact this
    refine Ev.step (fun k => by rw [gamehallref3_SwissFault.l0]) ?_
    refine ite (fun _ => ?_) (fun h => absurd (by omega) h)
    refine ite (fun _ => ?_) (fun h => absurd (Int.natCast_nonneg _) h)
    refine ite (fun _ => ?_) (fun h => absurd (by omega) h)
    rw [rowsE]
    unfold badR
    refine ite (fun h => ev_eq (j2 true) (by rw [decide_eq_true h]; rfl)) (fun h1 => ?_)
    refine ite (fun h => ev_eq (j2 true) (by rw [decide_eq_true h, Bool.true_or, Bool.or_true])) (fun h2 => ?_)
    refine ite (fun h => ev_eq (j2 true) (by rw [decide_eq_true h, Bool.true_or, Bool.or_true, Bool.or_true])) (fun h3 => ?_)
    exact ev_eq (j2 _) (by rw [decide_eq_false h1, decide_eq_false h2, decide_eq_false h3, Bool.false_or, Bool.false_or, Bool.false_or])
theorem flt_f (l : List S33) : Ev (fun k => gamehallref3_SwissFault.f k l) (faultV l) := by
  have j0 : ∀ b, (b = false → l.length ≤ 8) → Ev (fun k => gamehallref3_SwissFault.j0 k l b) (if b = true then 2 else rowsE l (tabE l l.length 0) l.length 0) := by
    intro b hb
    refine Ev.step (fun k => by rw [gamehallref3_SwissFault.j0]) ?_
    refine ite (fun h => now (by rw [if_pos h])) (fun h => ?_)
    rw [if_neg h]
    have hn := hb (Bool.eq_false_iff.mpr h)
    refine ite (fun _ => ?_) (fun h => absurd (by decide) h)
    exact flt_l0 l hn l.length 0 _ (by omega) (mi_zero l)
  unfold gamehallref3_SwissFault.f faultV
  refine ite (fun h => ?_) (fun h => ?_)
  · rw [if_pos (.inl h)]; exact ev_eq (j0 true (fun h => by cases h)) rfl
  · by_cases h8 : (l.length : Int) > 8
    · rw [if_pos (.inr h8), decide_eq_true h8]; exact ev_eq (j0 true (fun h => by cases h)) rfl
    · rw [if_neg (fun hh => hh.elim h h8), decide_eq_false h8]; exact ev_eq (j0 false (fun _ => by omega)) rfl
theorem rows_ok (l : List S33) (z : Int) : ∀ (d i : Nat), i + d = l.length → rowsE l z d i = 0 → ∀ j, i ≤ j → j < l.length → (0 ≤ (rd_T33 l (j : Int)).f0 ∧ (rd_T33 l (j : Int)).f0 ≤ 40) ∧ (-20 ≤ (rd_T33 l (j : Int)).f2 ∧ (rd_T33 l (j : Int)).f2 ≤ 20) ∧ (rd_T33 l (j : Int)).f1.length ≤ 20 := by
  intro d
  induction d with
  | zero => intro i hi _ j hj hjl; omega
  | succ d ih =>
    intro i hi h j hj hjl
    rw [rowsE] at h
    split at h
    · cases h
    rename_i hb
    split at h
    · cases h
    rename_i ho
    split at h
    · cases h
    rcases Nat.eq_or_lt_of_le hj with e | hlt
    · subst e
      unfold badR at hb
      simp only [Bool.or_eq_true, decide_eq_true_eq, not_or] at hb
      omega
    · exact ih (i + 1) (by omega) h j hlt hjl
theorem lv_ok (l : List S33) (h : faultV l = 0) : lvB l = true := by
  unfold faultV at h
  split at h
  · cases h
  rename_i hn
  unfold lvB
  refine Bool.and_eq_true_iff.2 ⟨decide_eq_true (by omega), List.all_eq_true.2 fun p hp => decide_eq_true ?_⟩
  obtain ⟨j, hj, rfl⟩ := List.getElem_of_mem hp
  have := rows_ok l _ l.length 0 (by omega) h j (Nat.zero_le _) hj
  rw [rdS l j hj] at this
  exact this
/-! the search and the list of all pairings -/
theorem sq_nn (a : Int) : 0 ≤ a * a := by
  rcases Int.le_total 0 a with h | h
  · exact Int.mul_nonneg h h
  · exact Int.mul_nonneg_of_nonpos_of_nonpos h h
theorem nn (l : List S33) : Swiss.Nonneg (sysL l) := by
  refine ⟨fun i j => ?_, fun i => ?_⟩
  · show 0 ≤ cstL l i j
    unfold cstL
    rw [Int.mul_assoc]
    have h1 := sq_nn ((rd_T33 l (i : Int)).f0 - (rd_T33 l (j : Int)).f0)
    have h2 := sq_nn ((rd_T33 l (i : Int)).f2 + (rd_T33 l (j : Int)).f2)
    omega
  · show 0 ≤ byeL l i
    unfold byeL
    rw [Int.mul_assoc]
    have h1 := sq_nn (rd_T33 l (i : Int)).f0
    omega
def E (l : List S33) : List (List Int × Int) := Swiss.enum (sysL l) (l.length + 1) (List.replicate l.length (-2)) 0 false
theorem found_is (l : List S33) : foundV l = (E l).foldl Swiss.upd (none, 0) :=
  Swiss.try_is (sysL l) (nn l) (l.length + 1) _ 0 false (none, 0) List.length_replicate ⟨fun h => (by cases h), fun h => (by have := (List.mem_replicate.1 h).2; omega)⟩
def PW (n : Nat) (w : List Int) : Prop := w.length = n ∧ ∀ a, a < n → w.getD a 0 = -2 ∨ w.getD a 0 = -1 ∨ (0 ≤ w.getD a 0 ∧ w.getD a 0 < (n : Int) ∧ w.getD a 0 ≠ (a : Int))
def OKW (n : Nat) (w : List Int) : Prop := w.length = n ∧ ∀ a, a < n → w.getD a 0 = -1 ∨ (0 ≤ w.getD a 0 ∧ w.getD a 0 < (n : Int) ∧ w.getD a 0 ≠ (a : Int))
theorem getD_set (w : List Int) (k : Nat) (v : Int) (a : Nat) (hk : k < w.length) : (w.set k v).getD a 0 = if a = k then v else w.getD a 0 := by
  simp only [List.getD_eq_getElem?_getD, List.getElem?_set]
  by_cases h : k = a
  · subst h; simp [hk]
  · rw [if_neg h, if_neg (fun e => h e.symm)]
theorem pw_put2 {n : Nat} {w : List Int} (h : PW n w) (i j : Nat) (hi : i < n) (hj : j < n) (hij : i ≠ j) : PW n (Swiss.put2 w i j) := by
  obtain ⟨h1, h2⟩ := h
  refine ⟨by rw [Swiss.put2_len]; exact h1, fun a ha => ?_⟩
  unfold Swiss.put2
  rw [getD_set _ j _ a (by rw [List.length_set]; omega), getD_set _ i _ a (by omega)]
  by_cases e1 : a = j
  · rw [if_pos e1]; exact .inr (.inr (by omega))
  · rw [if_neg e1]
    by_cases e2 : a = i
    · rw [if_pos e2]; exact .inr (.inr (by omega))
    · rw [if_neg e2]; exact h2 a ha
theorem pw_bye {n : Nat} {w : List Int} (h : PW n w) (i : Nat) (hi : i < n) : PW n (w.set i (-1)) := by
  obtain ⟨h1, h2⟩ := h
  refine ⟨by rw [List.length_set]; exact h1, fun a ha => ?_⟩
  rw [getD_set _ i _ a (by omega)]
  split
  · exact .inr (.inl rfl)
  · exact h2 a ha
theorem first_all : ∀ (w : List Int), Swiss.first w = w.length → ∀ a, a < w.length → w.getD a 0 ≠ -2
  | [], _, a, h => absurd h (Nat.not_lt_zero a)
  | x :: xs, h, a, ha => by
    rw [Swiss.first] at h
    split at h
    · simp at h
    rename_i hx
    cases a with
    | zero => exact hx
    | succ a => rw [List.getD_cons_succ]; exact first_all xs (by simpa using h) a (by simpa using ha)
theorem enum_ok (S : Swiss.Sys) : ∀ f w c off, PW S.n w → ∀ x ∈ Swiss.enum S f w c off, OKW S.n x.1 := by
  intro f
  induction f with
  | zero => intro w c off _ x h; rw [Swiss.enum] at h; cases h
  | succ f ih =>
    have hj : ∀ d w c off i j, PW S.n w → i < j → j + d ≤ S.n → ∀ x ∈ Swiss.enumJ S f w c off i j d, OKW S.n x.1 := by
      intro d
      induction d with
      | zero => intro w c off i j _ _ _ x h; rw [Swiss.enumJ] at h; cases h
      | succ d ihd =>
        intro w c off i j hw hij hjd x h
        rw [Swiss.enumJ] at h
        rcases List.mem_append.1 h with h | h
        · split at h
          · exact ih _ _ _ (pw_put2 hw i j (by omega) (by omega) (by omega)) x h
          · cases h
        · exact ihd _ _ _ _ _ hw (by omega) (by omega) x h
    intro w c off hw x h
    rw [Swiss.enum] at h
    obtain ⟨f1, f2⟩ := Swiss.first_is w
    have hl := hw.1
    split at h
    · rename_i hf
      rw [List.mem_singleton.1 h]
      refine ⟨hl, fun a ha => ?_⟩
      have := first_all w (by omega) a (by omega)
      rcases hw.2 a ha with h1 | h1 | h1
      · exact absurd h1 this
      · exact .inl h1
      · exact .inr h1
    · rename_i hf
      rcases List.mem_append.1 h with h | h
      · exact hj _ _ _ _ _ _ hw (Nat.lt_succ_self _) (by omega) x h
      · split at h
        · exact ih _ _ _ (pw_bye hw _ (by omega)) x h
        · cases h
theorem E_ok (l : List S33) : ∀ x ∈ E l, OKW l.length x.1 := by
  refine enum_ok (sysL l) _ _ _ _ ⟨List.length_replicate, fun a ha => .inl ?_⟩
  have ha' : a < l.length := ha
  rw [List.getD_eq_getElem?_getD, List.getElem?_replicate, if_pos ha']; rfl
theorem best_mem : ∀ (l : List (List Int × Int)) (b : List Int × Int), Swiss.best l b = b ∨ Swiss.best l b ∈ l
  | [], b => .inl rfl
  | x :: l, b => by
    rw [Swiss.best]
    rcases best_mem l (if x.2 < b.2 then x else b) with h | h
    · rw [h]
      split
      · exact .inr List.mem_cons_self
      · exact .inl rfl
    · exact .inr (List.mem_cons_of_mem _ h)
theorem found_cons (l : List S33) (x : List Int × Int) (xs : List (List Int × Int)) (h : E l = x :: xs) : foundV l = (some (Swiss.best xs x).1, (Swiss.best xs x).2) ∧ OKW l.length (Swiss.best xs x).1 := by
  refine ⟨by rw [found_is, h]; exact Swiss.fold_first x xs 0, ?_⟩
  rcases best_mem xs x with e | e
  · rw [e]; exact E_ok l x (by rw [h]; exact List.mem_cons_self)
  · exact E_ok l _ (by rw [h]; exact List.mem_cons_of_mem _ e)
theorem found_nil (l : List S33) (h : E l = []) : foundV l = (none, 0) := by rw [found_is, h]; rfl
theorem ok_b (l : List S33) : okB l = true := by
  unfold okB
  cases hE : E l with
  | nil => rw [found_nil l hE]
  | cons x xs =>
    obtain ⟨h1, h2⟩ := found_cons l x xs hE
    rw [h1]
    refine List.all_eq_true.2 fun j hj => decide_eq_true ?_
    obtain ⟨a, ha, rfl⟩ := List.getElem_of_mem hj
    have hl := h2.1
    have := h2.2 a (by omega)
    rw [show (Swiss.best xs x).1.getD a 0 = (Swiss.best xs x).1[a] by simp [List.getD_eq_getElem?_getD, ha]] at this
    omega
theorem pair_ev (l : List S33) : Ev (fun k => swiss_Pair.f k l) (if faultV l ≠ 0 then ([], 0, 0, faultV l) else pairV l) := by
  unfold swiss_Pair.f
  refine Ev.bind (chk_f l) ?_
  refine ite (fun h => now (by rw [if_pos h])) (fun h => ?_)
  rw [if_neg h, if_pos (Bool.and_eq_true_iff.2 ⟨lv_ok l (by omega), ok_b l⟩)]
  exact now rfl
/-! the law -/
theorem pre (l : List S33) : ∀ (js : List Int) (i : Int) (out : List S39) (o : Int), ∃ t, (gamesF l i js out o).1 = out ++ t
  | [], i, out, o => ⟨[], by rw [gamesF, List.append_nil]⟩
  | j :: js, i, out, o => by
    rw [gamesF]
    split
    · exact pre l js _ out i
    · split
      · obtain ⟨t, ht⟩ := pre l js (i + 1) (out ++ [if (rd_T33 l j).f2 < (rd_T33 l i).f2 then ⟨j, i⟩ else ⟨i, j⟩]) o
        exact ⟨_, by rw [ht, List.append_assoc]⟩
      · exact pre l js _ out o
theorem law_l1 (l : List S33) (hn : l.length ≤ 8) (gs : List S39) (nn off : Int) (bw : List Int) (hw : OKW l.length bw) : ∀ (d a : Nat) (out : List S39) (o : Int), a + d = bw.length → out.length ≤ a → gamesF l (a : Int) (bw.drop a) out o = (gs, off) → Ev (fun k => gamehalllaw3_SwissPairs.l1 k l gs nn off 0 (out.length : Int) o bw (bw.length : Int) (a : Int) bw nn) true := by
  have hwl := hw.1
  intro d
  induction d with
  | zero =>
    intro a out o ha hol hg
    rw [List.drop_of_length_le (by omega), gamesF] at hg
    simp only [Prod.mk.injEq] at hg
    obtain ⟨rfl, rfl⟩ := hg
    refine Ev.step (fun k => by rw [gamehalllaw3_SwissPairs.l1]) ?_
    refine ite (fun h => absurd h (by omega)) (fun _ => ?_)
    refine ite (fun _ => ?_) (fun h => absurd rfl h)
    refine ite (fun _ => ?_) (fun h => absurd rfl h)
    exact ite (fun _ => now (beq_self_eq_true _)) (fun h => absurd rfl h)
  | succ d ih =>
    intro a out o ha hol hg
    rw [drop_int bw a (by omega), gamesF, show (a : Int) + 1 = ((a + 1 : Nat) : Int) by omega] at hg
    have hv := hw.2 a (by omega)
    rw [← getD_rd] at hv
    refine Ev.step (fun k => by rw [gamehalllaw3_SwissPairs.l1]) ?_
    refine ite (fun _ => ?_) (fun h => absurd (by omega) h)
    refine ite (fun _ => ?_) (fun h => absurd (Int.natCast_nonneg _) h)
    refine ite (fun _ => ?_) (fun h => absurd (by omega) h)
    refine ite (fun h => ?_) (fun h => ?_)
    · rw [if_pos (by omega)] at hg
      refine Ev.step (fun k => by rw [gamehalllaw3_SwissPairs.j4]) ?_
      refine ite (fun _ => ?_) (fun hh => absurd (by omega) hh)
      rw [wn1 a (by omega)]
      exact ih (a + 1) out _ (by omega) (by omega) hg
    · have hv2 := hv.resolve_left h
      obtain ⟨j, hj⟩ := Int.eq_ofNat_of_zero_le hv2.1
      rw [hj] at hg hv2 ⊢
      rw [if_neg (by omega)] at hg
      refine Ev.step (fun k => by rw [gamehalllaw3_SwissPairs.j4]) ?_
      refine ite (fun hlt => ?_) (fun hlt => ?_)
      · rw [if_neg (by omega)] at hg
        rw [wn1 a (by omega)]
        exact ih (a + 1) out o (by omega) (by omega) hg
      · rw [if_pos (by omega)] at hg
        refine ite (fun _ => ?_) (fun hh => absurd (by omega) hh)
        refine ite (fun _ => ?_) (fun hh => absurd (by omega) hh)
        refine ite (fun _ => ?_) (fun hh => absurd (by omega) hh)
        refine ite (fun _ => ?_) (fun hh => absurd (by omega) hh)
        obtain ⟨t, ht⟩ := pre l (bw.drop (a + 1)) ((a + 1 : Nat) : Int) (out ++ [if (rd_T33 l (j : Int)).f2 < (rd_T33 l (a : Int)).f2 then ⟨(j : Int), (a : Int)⟩ else ⟨(a : Int), (j : Int)⟩]) o
        rw [hg, List.append_assoc] at ht
        have ht2 : gs = out ++ ((if (rd_T33 l (j : Int)).f2 < (rd_T33 l (a : Int)).f2 then ⟨(j : Int), (a : Int)⟩ else ⟨(a : Int), (j : Int)⟩) :: t) := ht
        have hlen : out.length < gs.length := by rw [ht2]; simp
        have hget : rd_T39 gs (out.length : Int) = (if (rd_T33 l (j : Int)).f2 < (rd_T33 l (a : Int)).f2 then ⟨(j : Int), (a : Int)⟩ else ⟨(a : Int), (j : Int)⟩) := by
          rw [ht2]; unfold rd_T39; rw [Int.toNat_natCast, List.getD_eq_getElem?_getD]; simp
        have e := ih (a + 1) _ o (by omega) (by rw [List.length_append, List.length_singleton]; omega) hg
        rw [List.length_append, List.length_singleton, ← wn1 a (by omega), ← wn1 out.length (by omega)] at e
        refine ite (fun hc => ?_) (fun hc => ?_)
        · rw [if_pos hc] at hget
          refine ite (fun hh => absurd hh (by omega)) (fun _ => ?_)
          refine ite (fun _ => ?_) (fun hh => absurd (Int.natCast_nonneg _) hh)
          refine ite (fun _ => ?_) (fun hh => absurd (by omega) hh)
          rw [hget]
          refine ite (fun hh => absurd hh (by simp)) (fun _ => e)
        · rw [if_neg hc] at hget
          refine ite (fun hh => absurd hh (by omega)) (fun _ => ?_)
          refine ite (fun _ => ?_) (fun hh => absurd (Int.natCast_nonneg _) hh)
          refine ite (fun _ => ?_) (fun hh => absurd (by omega) hh)
          rw [hget]
          refine ite (fun hh => absurd hh (by simp)) (fun _ => e)
theorem E_len (l : List S33) (hn : l.length ≤ 8) : (E l).length ≤ 140000000 := by
  unfold E
  exact Nat.le_trans (Swiss.enum_len (sysL l) hn _ _ _ _) (Nat.le_trans (Nat.pow_le_pow_right (n := 8) (by omega) (show l.length + 1 ≤ 9 by omega)) (by decide))
theorem law_l0 (l : List S33) (es : List (List Int × Int)) (hes : es.length ≤ 140000000) (gs : List S39) (nn off : Int) (B : List Int × Int) (hl1 : Ev (fun k => gamehalllaw3_SwissPairs.l1 k l gs nn off 0 0 (-1) B.1 (B.1.length : Int) 0 B.1 B.2) true) : ∀ (d s : Nat) (b : List Int × Int), s + d = es.length → Swiss.best (es.drop s) b = B → Ev (fun k => gamehalllaw3_SwissPairs.l0 k l gs nn off 0 (es.map toP) ((es.map toP).length : Int) (s : Int) b.1 b.2) true := by
  intro d
  induction d with
  | zero =>
    intro s b hs hb
    rw [List.drop_of_length_le (by omega), Swiss.best] at hb
    subst hb
    refine Ev.step (fun k => by rw [gamehalllaw3_SwissPairs.l0]) ?_
    exact ite (fun h => absurd h (by rw [List.length_map]; omega)) (fun _ => hl1)
  | succ d ih =>
    intro s b hs hb
    have hlt : s < es.length := by omega
    rw [List.drop_eq_getElem_cons hlt, Swiss.best] at hb
    have hrd : rd_T37 (es.map toP) (s : Int) = toP es[s] := by unfold rd_T37; rw [Int.toNat_natCast, List.getD_eq_getElem?_getD]; simp [hlt]
    refine Ev.step (fun k => by rw [gamehalllaw3_SwissPairs.l0]) ?_
    rw [hrd, w64s (by omega) (by omega), show (s : Int) + 1 = ((s + 1 : Nat) : Int) by omega]
    refine ite (fun _ => ?_) (fun h => absurd (by rw [List.length_map]; omega) h)
    refine ite (fun _ => ?_) (fun h => absurd (Int.natCast_nonneg _) h)
    refine ite (fun _ => ?_) (fun h => absurd (by rw [List.length_map]; omega) h)
    refine ite (fun h => ?_) (fun h => ?_)
    · have h' : es[s].2 < b.2 := h
      rw [if_pos h'] at hb
      exact ih (s + 1) es[s] (by omega) hb
    · have h' : ¬ es[s].2 < b.2 := h
      rw [if_neg h'] at hb
      exact ih (s + 1) b (by omega) hb
theorem j1_ev (l : List S33) (hf : faultV l = 0) : Ev (fun k => gamehalllaw3_SwissPairs.j1 k l (pairV l).1 (pairV l).2.1 (pairV l).2.2.1 (pairV l).2.2.2) true := by
  have hlv := lv_ok l hf
  have hn : l.length ≤ 8 := (lv_of hlv).n.2
  refine Ev.step (fun k => by rw [gamehalllaw3_SwissPairs.j1]) ?_
  refine Ev.bind (a := (E l).map toP) (by unfold gamehallref3_Pairings.f; rw [if_pos hlv]; exact now rfl) ?_
  cases hE : E l with
  | nil =>
    have hp : pairV l = ([], 0, 0, 8) := by unfold pairV; rw [found_nil l hE]
    rw [hp]
    refine ite (fun _ => ?_) (fun h => absurd rfl h)
    exact ite (fun _ => now (by decide +kernel)) (fun h => absurd rfl h)
  | cons x xs =>
    obtain ⟨h1, h2⟩ := found_cons l x xs hE
    have hp : pairV l = ((gamesF l 0 (Swiss.best xs x).1 [] (-1)).1, (Swiss.best xs x).2, (gamesF l 0 (Swiss.best xs x).1 [] (-1)).2, 0) := by unfold pairV; rw [h1]
    rw [hp]
    have hlen := E_len l hn
    rw [hE] at hlen
    have hl1 := law_l1 l hn (gamesF l 0 (Swiss.best xs x).1 [] (-1)).1 (Swiss.best xs x).2 (gamesF l 0 (Swiss.best xs x).1 [] (-1)).2 (Swiss.best xs x).1 h2 (Swiss.best xs x).1.length 0 [] (-1) (by omega) (Nat.le_refl _) rfl
    have hl0 := law_l0 l (x :: xs) hlen _ _ _ (Swiss.best xs x) hl1 (x :: xs).length 0 x (by omega) (by rw [List.drop_zero, Swiss.best, if_neg (by omega)])
    refine ite (fun h => absurd h (by simp; omega)) (fun _ => ?_)
    refine ite (fun _ => ?_) (fun h => absurd (by simp) h)
    exact hl0
theorem cost_ev (l : List S33) (a b : Int) : Ev (fun k => swiss_Cost.f k l a b) (if faultV l ≠ 0 then (0, faultV l) else if mn a b < 0 ∨ mx a b ≥ (l.length : Int) ∨ a = b then (0, 1) else ((swiss_cost.f l a b).getD 0, 0)) := by
  unfold swiss_Cost.f
  refine Ev.bind (chk_f l) ?_
  refine ite (fun h => ?_) (fun h => now (by rw [if_pos h]))
  rw [if_neg (show ¬ faultV l ≠ 0 from fun hh => hh h)]
  refine ite (fun h1 => now (by rw [if_pos (.inl h1)])) (fun h1 => ?_)
  refine ite (fun h2 => now (by rw [if_pos (.inr (.inl h2))])) (fun h2 => ?_)
  refine ite (fun h3 => now (by rw [if_pos (.inr (.inr h3))])) (fun h3 => ?_)
  rw [if_neg (fun hh => hh.elim h1 (fun hh => hh.elim h2 h3))]
  have hm : 0 ≤ a ∧ a < (l.length : Int) ∧ 0 ≤ b ∧ b < (l.length : Int) := by
    unfold mn at h1; unfold mx at h2
    split at h1 <;> split at h2 <;> omega
  obtain ⟨i, rfl⟩ := Int.eq_ofNat_of_zero_le hm.1
  obtain ⟨j, rfl⟩ := Int.eq_ofNat_of_zero_le hm.2.2.1
  have hc := cost_f (lv_of (lv_ok l h)) i j (by omega) (by omega)
  rw [hc]
  exact bind_now rfl (now rfl)
theorem swisses_ev : Ev (fun k => gamehalllaw3_swisses.f k) true := by
  unfold gamehalllaw3_swisses.f
  refine ite (fun _ => ?_) (fun h => absurd (by decide) h)
  have hf : faultV (List.replicate 2 z33) = 0 := by decide +kernel
  have hE : E (List.replicate 2 z33) = [([1, 0], 0)] := by
    unfold E
    simp [Swiss.enum, Swiss.enumJ, Swiss.first, Swiss.put2, sysL, cstL, byeL, cntO, rd_T33, z33, List.replicate]
  have hp : pairV (List.replicate 2 z33) = ([⟨0, 1⟩], 0, -1, 0) := by
    unfold pairV
    rw [found_is, hE]
    rfl
  have e := pair_ev (List.replicate 2 z33)
  rw [if_neg (show ¬ faultV (List.replicate 2 z33) ≠ 0 from fun h => h hf), hp] at e
  refine Ev.bind e ?_
  refine ite (fun _ => ?_) (fun h => absurd rfl h)
  exact ite (fun _ => now rfl) (fun h => absurd rfl h)
theorem law_f (l : List S33) (a b : Int) : Ev (fun k => gamehalllaw3_SwissPairs.f k l a b) true := by
  unfold gamehalllaw3_SwissPairs.f
  refine Ev.bind swisses_ev ?_
  refine ite (fun _ => ?_) (fun h => absurd rfl h)
  refine Ev.bind (flt_f l) (Ev.bind (pair_ev l) (Ev.bind (cost_ev l a b) (Ev.bind (chk_f l) ?_)))
  refine ite (fun _ => ?_) (fun h => absurd rfl h)
  refine ite (fun hf => ?_) (fun hf => ?_)
  · rw [if_neg (show ¬ faultV l ≠ 0 from fun h => h hf), if_neg (show ¬ faultV l ≠ 0 from fun h => h hf)]
    have hj := j1_ev l hf
    have bad : Ev (fun k => gamehalllaw3_SwissPairs.j0 k l a b (pairV l).1 (pairV l).2.1 (pairV l).2.2.1 (pairV l).2.2.2 0 1 true) true := by
      refine Ev.step (fun k => by rw [gamehalllaw3_SwissPairs.j0]) ?_
      refine ite (fun _ => ?_) (fun h => absurd rfl h)
      refine ite (fun _ => ?_) (fun h => absurd rfl h)
      exact ite (fun _ => hj) (fun h => absurd rfl h)
    refine ite (fun h => by rw [if_pos (.inl h)]; exact bad) (fun h1 => ?_)
    refine ite (fun h => by rw [if_pos (.inr (.inl h))]; exact bad) (fun h2 => ?_)
    by_cases h3 : a = b
    · rw [if_pos (.inr (.inr h3)), show (a == b) = true from beq_iff_eq.mpr h3]; exact bad
    · rw [if_neg (fun hh => hh.elim h1 (fun hh => hh.elim h2 h3)), show (a == b) = false from beq_eq_false_iff_ne.mpr h3]
      have hm : 0 ≤ a ∧ a < (l.length : Int) ∧ 0 ≤ b ∧ b < (l.length : Int) := by
        unfold mn at h1; unfold mx at h2
        split at h1 <;> split at h2 <;> omega
      refine Ev.step (fun k => by rw [gamehalllaw3_SwissPairs.j0]) ?_
      refine ite (fun h => absurd h (by decide)) (fun _ => ?_)
      refine ite (fun _ => ?_) (fun h => absurd hm.1 h)
      refine ite (fun _ => ?_) (fun h => absurd hm.2.1 h)
      refine ite (fun _ => ?_) (fun h => absurd hm.2.2.1 h)
      refine ite (fun _ => ?_) (fun h => absurd hm.2.2.2 h)
      refine ite (fun _ => ?_) (fun h => absurd rfl h)
      refine ite (fun _ => hj) (fun h => absurd ?_ h)
      unfold swiss_cost.f
      rw [if_pos hm.1, if_pos hm.2.1, if_pos hm.2.2.1, if_pos hm.2.2.2]; rfl
  · rw [if_pos hf, if_pos hf]
    refine ite (fun _ => ?_) (fun h => absurd rfl h)
    refine ite (fun _ => ?_) (fun h => absurd rfl h)
    refine now ?_
    show (wrap64 (wrap64 (wrap64 ((([] : List S39).length : Int) + 0) + 0) + 0) == 0) = true
    decide +kernel
end Sw
theorem SwissPairs : gamehalllaw3_SwissPairs.Pure := fun l a b _ _ _ => (Sw.law_f l a b).rounds
end Go.Proofs.Ytemfkhafkhkffaa.Pure
