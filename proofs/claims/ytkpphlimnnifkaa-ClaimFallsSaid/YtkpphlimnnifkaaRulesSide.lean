/- What rules.Check answers, for a text that says nothing of the reference. -/
import Derived.Test.YtkpphlimnnifkaaPClaimFallsx12
import Derived.Test.YtkpphlimnnifkaaAid
import Derived.Laws.Closers25b
namespace Go.Proofs.Ytkpphlimnnifkaa.Pure
open Go.RowKit Go.Proofs.Ytkpphlimnnifkaa.PClaimFalls Go.Proofs.YtkpphlimnnifkaaW.PrintWords Go.Proofs.YtkpphlimnnifkaaW.PrintLast
set_option linter.unusedSimpArgs false
set_option linter.unusedVariables false
namespace Rc
open Aid
def okc (c : Int) : Prop := (65 ≤ c ∧ c ≤ 90) ∨ (48 ≤ c ∧ c ≤ 57)
theorem w8 (s : ByteArray) (i : Int) : wrap64 (bt s i) = bt s i := by
  have := bt_range s i
  exact w64 (by omega) (by omega)
theorem name_l0 (s : ByteArray) (hs : s.size ≤ 140737488351232) : ∀ (d i : Nat), i + d = s.size → ∃ r, Ev (fun k => rules_Name.l0 k s (s.size : Int) (i : Int)) r := by
  intro d
  induction d with
  | zero => exact fun i hi => ⟨true, Ev.step (fun k => by rw [rules_Name.l0]) (ite (fun h => absurd h (by omega)) (fun _ => Ev.now _))⟩
  | succ d ih =>
    intro i hi
    obtain ⟨r, e1⟩ := ih (i + 1) (by omega)
    have hw : ((i + 1 : Nat) : Int) = wrap64 ((i : Int) + 1) := by rw [w64s (by omega) (by omega)]; omega
    rw [hw] at e1
    refine ⟨if (65 ≤ bt s i ∧ bt s i ≤ 90) ∨ (48 ≤ bt s i ∧ bt s i ≤ 57) then r else false, Ev.step (fun k => by rw [rules_Name.l0]) ?_⟩
    refine ite (fun _ => ?_) (fun h => absurd (show (i : Int) < (s.size : Int) by omega) h)
    refine ite (fun _ => ?_) (fun h => absurd (show (0 : Int) ≤ (i : Int) by omega) h)
    refine ite (fun _ => ?_) (fun h => absurd (show (i : Int) < (s.size : Int) by omega) h)
    refine ite (fun _ => ?_) (fun _ => ?_)
    · refine ite (fun _ => now (by rw [if_neg (by omega)])) (fun _ => ?_)
      exact ite (fun _ => now (by rw [if_neg (by omega)])) (fun _ => by rw [if_pos (by omega)]; exact e1)
    · refine ite (fun _ => ?_) (fun _ => by rw [if_pos (by omega)]; exact e1)
      refine ite (fun _ => now (by rw [if_neg (by omega)])) (fun _ => ?_)
      exact ite (fun _ => now (by rw [if_neg (by omega)])) (fun _ => by rw [if_pos (by omega)]; exact e1)
theorem name_j0 (s : ByteArray) (hs : s.size ≤ 140737488351232) (b : Bool) : ∃ r, Ev (fun k => rules_Name.j0 k s b) r := by
  cases b
  · obtain ⟨r, e⟩ := name_l0 s hs s.size 0 (by omega)
    have e : Ev (fun k => rules_Name.l0 k s (s.size : Int) 0) r := e
    exact ⟨r, Ev.step (fun k => by rw [rules_Name.j0]) (ite (fun h => absurd h (by decide)) (fun _ => e))⟩
  · exact ⟨false, Ev.step (fun k => by rw [rules_Name.j0]) (ite (fun _ => Ev.now _) (fun h => absurd rfl h))⟩
theorem name_code (s : ByteArray) (hs : s.size ≤ 140737488351232) : ∃ r, Ev (fun k => rules_Name.f k s) r := by
  have hz : s.toList = [] ↔ s.size = 0 := (toList_nil_iff_emptyBytes s).trans (by simp)
  unfold rules_Name.f
  by_cases h1 : s.toList = []
  · obtain ⟨r, e⟩ := name_j0 s hs true
    exact ⟨r, ite (fun _ => e) (fun h => absurd h1 h)⟩
  by_cases h2 : (s.size : Int) > 8
  · obtain ⟨r, e⟩ := name_j0 s hs true
    exact ⟨r, ite (fun h => absurd h h1) (fun _ => ite (fun _ => e) (fun h => absurd h2 h))⟩
  have h3 : 0 < (s.size : Int) := by have : ¬ s.size = 0 := fun e => h1 (hz.2 e); omega
  by_cases h4 : bt s 0 ≥ 48
  · obtain ⟨r, e⟩ := name_j0 s hs (decide (bt s 0 ≤ 57))
    exact ⟨r, ite (fun h => absurd h h1) (fun _ => ite (fun h => absurd h h2) (fun _ => ite (fun _ => ite (fun _ => e) (fun h => absurd h4 h)) (fun h => absurd h3 h)))⟩
  · obtain ⟨r, e⟩ := name_j0 s hs false
    exact ⟨r, ite (fun h => absurd h h1) (fun _ => ite (fun h => absurd h h2) (fun _ => ite (fun _ => ite (fun h => absurd h h4) (fun _ => e)) (fun h => absurd h3 h)))⟩
def wayE (w : S106) : Int := if -7 ≤ w.f0 ∧ w.f0 ≤ 7 ∧ -7 ≤ w.f1 ∧ w.f1 ≤ 7 ∧ ¬ (w.f0 = 0 ∧ w.f1 = 0) ∧ 1 ≤ w.f2 ∧ w.f2 ≤ 7 ∧ 0 ≤ w.f3 ∧ w.f3 ≤ 2 then 0 else 4
theorem way_f (w : S106) : rules_way.f w.f0 w.f1 w.f2 w.f3 = some (wayE w) := by
  unfold rules_way.f wayE
  repeat' split
  all_goals first | rfl | (exfalso; omega)
def waysE : List S106 → Int
  | [] => 0
  | w :: t => if wayE w = 0 then waysE t else 4
theorem rd179 (xs : List S106) (i : Nat) (h : i < xs.length) : rd_T106 xs (i : Int) = xs[i] := by simp [rd_T106, List.getD_eq_getElem?_getD, h]
theorem rd136 (xs : List S104) (i : Nat) (h : i < xs.length) : rd_T104 xs (i : Int) = xs[i] := by simp [rd_T104, List.getD_eq_getElem?_getD, h]
theorem rd132 (xs : List S98) (i : Nat) (h : i < xs.length) : rd_T98 xs (i : Int) = xs[i] := by simp [rd_T98, List.getD_eq_getElem?_getD, h]
theorem rd_at (xs : List Int) (i : Nat) (h : i < xs.length) : rd xs (i : Int) = xs[i] := by simp [rd, List.getD_eq_getElem?_getD, h]
theorem wayE_or (w : S106) : wayE w = 0 ∨ wayE w = 4 := by unfold wayE; split <;> simp
theorem ways_drop (xs : List S106) (i : Nat) (h : i < xs.length) : waysE (xs.drop i) = if wayE (rd_T106 xs (i : Int)) = 0 then waysE (xs.drop (i + 1)) else 4 := by
  rw [rd179 xs i h, List.drop_eq_getElem_cons h, waysE]
theorem ways_code (x0 x18 : List S104) (x19 x20 : Int) (xs : List S106) (hl : xs.length ≤ 140737488351232) (r : Int) : ∀ (d i : Nat), i + d = xs.length →
    (waysE (xs.drop i) = 0 → Ev (fun k => rules_pieces.l0 k x0 x18 x19 (wrap64 (x20 + 1))) r) → (waysE (xs.drop i) ≠ 0 → r = waysE (xs.drop i)) →
    Ev (fun k => rules_pieces.l2 k x0 x18 x19 x20 xs (xs.length : Int) (i : Int)) r := by
  intro d
  induction d with
  | zero =>
    intro i hi h1 h2
    rw [List.drop_of_length_le (by omega)] at h1
    refine Ev.step (fun k => by rw [rules_pieces.l2]) ?_
    exact ite (fun h => absurd h (by omega)) (fun _ => h1 rfl)
  | succ d ih =>
    intro i hi h1 h2
    rw [ways_drop xs i (by omega)] at h1 h2
    have hw : ((i + 1 : Nat) : Int) = wrap64 ((i : Int) + 1) := by rw [w64s (by omega) (by omega)]; omega
    refine Ev.step (fun k => by rw [rules_pieces.l2]) ?_
    refine ite (fun _ => ?_) (fun h => absurd (show (i : Int) < (xs.length : Int) by omega) h)
    refine ite (fun _ => ?_) (fun h => absurd (show (0 : Int) ≤ (i : Int) by omega) h)
    refine ite (fun _ => ?_) (fun h => absurd (show (i : Int) < (xs.length : Int) by omega) h)
    refine bind_now (way_f _) ?_
    refine ite (fun hz => ?_) (fun hz => ?_)
    · rw [if_pos hz] at h1 h2
      rw [← hw]
      exact ih (i + 1) (by omega) h1 h2
    · rw [if_neg hz] at h2
      refine now ?_
      have := wayE_or (rd_T106 xs (i : Int))
      rw [h2 (by decide)]; omega
def twice (l : List S104) (c : Int) : Nat → Nat → Bool
  | 0, _ => false
  | d + 1, j => if (rd_T104 l (j : Int)).f0 = c then true else twice l c d (j + 1)
def pieceE (l : List S104) (i : Nat) : Int :=
  if ¬ (65 ≤ (rd_T104 l (i : Int)).f0 ∧ (rd_T104 l (i : Int)).f0 ≤ 90) then 6
  else if twice l (rd_T104 l (i : Int)).f0 i 0 = true then 7
  else if ¬ (0 ≤ (rd_T104 l (i : Int)).f1 ∧ (rd_T104 l (i : Int)).f1 ≤ 64 ∧ 0 ≤ (rd_T104 l (i : Int)).f2 ∧ (rd_T104 l (i : Int)).f2 ≤ (l.length : Int)) then 4
  else if ((rd_T104 l (i : Int)).f3.length : Int) > 16 then 2
  else waysE (rd_T104 l (i : Int)).f3
def piecesE (l : List S104) : Nat → Nat → Int
  | 0, _ => 0
  | d + 1, i => if pieceE l i = 0 then piecesE l d (i + 1) else pieceE l i
def restE (l : List S104) (p : S104) : Int :=
  if ¬ (0 ≤ p.f1 ∧ p.f1 ≤ 64 ∧ 0 ≤ p.f2 ∧ p.f2 ≤ (l.length : Int)) then 4
  else if (p.f3.length : Int) > 16 then 2 else waysE p.f3
theorem rest_code (l : List S104) (p : S104) (x19 x20 r : Int) (hw : p.f3.length ≤ 140737488351232)
    (h1 : restE l p = 0 → Ev (fun k => rules_pieces.l0 k l l x19 (wrap64 (x20 + 1))) r) (h2 : restE l p ≠ 0 → r = restE l p) :
    ∀ b, b = decide (¬ (0 ≤ p.f1 ∧ p.f1 ≤ 64 ∧ 0 ≤ p.f2 ∧ p.f2 ≤ (l.length : Int))) → Ev (fun k => rules_pieces.j3 k l l x19 x20 b p.f0 p.f1 p.f2 p.f3) r := by
  intro b hb
  unfold restE at h1 h2
  refine Ev.step (fun k => by rw [rules_pieces.j3]) ?_
  refine ite (fun h => ?_) (fun h => ?_)
  · rw [hb] at h
    have h := of_decide_eq_true h
    rw [if_pos h] at h2
    exact now (h2 (by decide)).symm
  · have h : ¬ ¬ _ := fun hc => h (by rw [hb]; exact decide_eq_true hc)
    rw [if_neg h] at h1 h2
    refine ite (fun hg => ?_) (fun hg => ?_)
    · rw [if_pos hg] at h2; exact now (h2 (by decide)).symm
    · rw [if_neg hg] at h1 h2
      exact ways_code l l x19 x20 p.f3 hw r p.f3.length 0 (by omega) h1 h2
theorem twice_code (l : List S104) (p : S104) (i : Nat) (hi : i ≤ l.length) (hl : l.length ≤ 140737488351232) (x19 x20 r : Int) (hw : p.f3.length ≤ 140737488351232)
    (h1 : restE l p = 0 → Ev (fun k => rules_pieces.l0 k l l x19 (wrap64 (x20 + 1))) r) (h2 : restE l p ≠ 0 → r = restE l p) : ∀ (d j : Nat), j + d = i →
    Ev (fun k => rules_pieces.l1 k l l x19 x20 (l.take i) ((l.take i).length : Int) (j : Int) p.f0 p.f1 p.f2 p.f3) (if twice l p.f0 d j = true then 7 else r) := by
  have hlen : (l.take i).length = i := by rw [List.length_take]; omega
  have hj := rest_code l p x19 x20 r hw h1 h2
  intro d
  induction d with
  | zero =>
    intro j hj'
    refine Ev.step (fun k => by rw [rules_pieces.l1]) ?_
    rw [hlen]
    refine ite (fun h => absurd h (by omega)) (fun _ => ?_)
    rw [if_neg (by simp [twice])]
    refine ite (fun h => hj _ ?_) (fun a => ite (fun h => hj _ ?_) (fun b => ite (fun h => hj _ ?_) (fun c => hj _ ?_)))
    · exact (decide_eq_true (by omega)).symm
    · exact (decide_eq_true (by omega)).symm
    · exact (decide_eq_true (by omega)).symm
    · congr 1; apply propext; constructor <;> intro <;> omega
  | succ d ih =>
    intro j hj'
    have e := ih (j + 1) (by omega)
    have hwj : ((j + 1 : Nat) : Int) = wrap64 ((j : Int) + 1) := by rw [w64s (by omega) (by omega)]; omega
    rw [hwj] at e
    refine Ev.step (fun k => by rw [rules_pieces.l1]) ?_
    rw [hlen] at e ⊢
    refine ite (fun _ => ?_) (fun h => absurd (show (j : Int) < (i : Int) by omega) h)
    refine ite (fun _ => ?_) (fun h => absurd (show (0 : Int) ≤ (j : Int) by omega) h)
    refine ite (fun _ => ?_) (fun h => absurd (show (j : Int) < (i : Int) by omega) h)
    have hr : rd_T104 (l.take i) (j : Int) = rd_T104 l (j : Int) := by
      rw [rd136 _ _ (by rw [hlen]; omega), rd136 _ _ (by omega), List.getElem_take]
    rw [hr]
    refine ite (fun h => now (by rw [twice, if_pos h, if_pos rfl])) (fun h => ?_)
    rw [twice, if_neg h]
    exact e
theorem pieces_code (l : List S104) (hl : l.length ≤ 140737488351232) (hw : ∀ p ∈ l, wf104 p) : ∀ (d i : Nat), i + d = l.length →
    Ev (fun k => rules_pieces.l0 k l l (l.length : Int) (i : Int)) (piecesE l d i) := by
  intro d
  induction d with
  | zero =>
    intro i hi
    refine Ev.step (fun k => by rw [rules_pieces.l0]) ?_
    exact ite (fun h => absurd h (by omega)) (fun _ => Ev.now _)
  | succ d ih =>
    intro i hi
    have e := ih (i + 1) (by omega)
    have hwi : ((i + 1 : Nat) : Int) = wrap64 ((i : Int) + 1) := by rw [w64s (by omega) (by omega)]; omega
    rw [hwi] at e
    have hp : wf104 (rd_T104 l (i : Int)) := by rw [rd136 l i (by omega)]; exact hw _ (List.getElem_mem _)
    have hf3 : (rd_T104 l (i : Int)).f3.length ≤ 140737488351232 := by have := hp.2.2.2.1; omega
    refine Ev.step (fun k => by rw [rules_pieces.l0]) ?_
    refine ite (fun _ => ?_) (fun h => absurd (show (i : Int) < (l.length : Int) by omega) h)
    refine ite (fun _ => ?_) (fun h => absurd (show (0 : Int) ≤ (i : Int) by omega) h)
    refine ite (fun _ => ?_) (fun h => absurd (show (i : Int) < (l.length : Int) by omega) h)
    have main : ∀ b, b = decide (¬ (65 ≤ (rd_T104 l (i : Int)).f0 ∧ (rd_T104 l (i : Int)).f0 ≤ 90)) → Ev (fun k => rules_pieces.j1 k l (i : Int) l (l.length : Int) (i : Int) b (rd_T104 l (i : Int)).f0 (rd_T104 l (i : Int)).f1 (rd_T104 l (i : Int)).f2 (rd_T104 l (i : Int)).f3) (piecesE l (d + 1) i) := by
      intro b hb
      refine Ev.step (fun k => by rw [rules_pieces.j1]) ?_
      refine ite (fun h => ?_) (fun h => ?_)
      · rw [hb] at h
        have h := of_decide_eq_true h
        have he : pieceE l i = 6 := by unfold pieceE; rw [if_pos h]
        exact now (by rw [piecesE, he]; rfl)
      · have h : ¬ ¬ _ := fun hc => h (by rw [hb]; exact decide_eq_true hc)
        refine ite (fun _ => ?_) (fun h => absurd (show (0 : Int) ≤ (i : Int) by omega) h)
        refine ite (fun _ => ?_) (fun h => absurd (show (i : Int) ≤ (l.length : Int) by omega) h)
        refine bind_now rfl ?_
        rw [Int.toNat_natCast]
        refine ev_eq (twice_code l (rd_T104 l (i : Int)) i (by omega) hl (l.length : Int) (i : Int) (if restE l (rd_T104 l (i : Int)) = 0 then piecesE l d (i + 1) else restE l (rd_T104 l (i : Int))) hf3 (fun h0 => by rw [if_pos h0]; exact e) (fun h0 => by rw [if_neg h0]) i 0 (by omega)) ?_
        have hpe : pieceE l i = if twice l (rd_T104 l (i : Int)).f0 i 0 = true then 7 else restE l (rd_T104 l (i : Int)) := by
          unfold pieceE restE; rw [if_neg h]
        rw [piecesE, hpe]
        by_cases ht : twice l (rd_T104 l (i : Int)).f0 i 0 = true
        · rw [if_pos ht, if_pos ht, if_neg (by decide)]
        · rw [if_neg ht, if_neg ht]
    refine ite (fun h => main _ ?_) (fun h => main _ ?_)
    · exact (decide_eq_true (by omega)).symm
    · congr 1; apply propext; constructor <;> intro <;> omega
def cellsE (n : Int) (xs : List Int) : Nat → Nat → Int
  | 0, _ => 0
  | d + 1, i => if 0 ≤ rd xs (i : Int) ∧ rd xs (i : Int) ≤ n then cellsE n xs d (i + 1) else 4
def endE (x : S98) (n : Int) : Int :=
  if x.f0 = 0 then (if x.f1 = 0 ∧ 1 ≤ x.f2 ∧ x.f2 ≤ 64 then 0 else 4)
  else if x.f0 = 1 then (if 0 ≤ x.f1 ∧ x.f1 < n ∧ x.f2 = 0 then 0 else 4)
  else if x.f0 = 2 then (if 0 ≤ x.f1 ∧ x.f1 < n ∧ 1 ≤ x.f2 ∧ x.f2 ≤ 64 then 0 else 4)
  else 1
theorem end_f (x : S98) (n : Int) : rules_end.f x.f0 x.f1 x.f2 x.f3 n = some (endE x n) := by
  unfold rules_end.f endE
  repeat' split
  all_goals first | rfl | (exfalso; omega)
def endsE (n : Int) (xs : List S98) : Nat → Nat → Int
  | 0, _ => 0
  | d + 1, i => if endE (rd_T98 xs (i : Int)) n = 0 then endsE n xs d (i + 1) else endE (rd_T98 xs (i : Int)) n
def lastE (a b c : Int) : Int := if 0 ≤ a ∧ a ≤ 2 ∧ 0 ≤ b ∧ b ≤ 200 ∧ (c = 0 ∨ 2 ≤ c ∧ c ≤ 5) then 0 else 4
def tailE (x : S26) : Int :=
  if endsE (x.f3.length : Int) x.f7 x.f7.length 0 = 0 then lastE x.f8 x.f9 x.f10 else endsE (x.f3.length : Int) x.f7 x.f7.length 0
def cellTailE (x : S26) : Int :=
  if cellsE (wrap64 (2 * (x.f3.length : Int))) x.f4 x.f4.length 0 = 0 then (if (x.f7.length : Int) > 6 then 2 else tailE x) else 4
theorem cells_or (n : Int) (xs : List Int) : ∀ d i, cellsE n xs d i = 0 ∨ cellsE n xs d i = 4 := by
  intro d
  induction d with
  | zero => intro i; exact .inl rfl
  | succ d ih => intro i; rw [cellsE]; split; exact ih _; exact .inr rfl
theorem ends_code (x : S26) (hl : x.f7.length ≤ 140737488351232) : ∀ (d i : Nat), i + d = x.f7.length →
    Ev (fun k => rules_Check.l1 k x.f7 (x.f7.length : Int) (i : Int) x.f0 x.f1 x.f2 x.f3 x.f4 x.f5 x.f6 x.f7 x.f8 x.f9 x.f10)
      (if endsE (x.f3.length : Int) x.f7 d i = 0 then lastE x.f8 x.f9 x.f10 else endsE (x.f3.length : Int) x.f7 d i) := by
  intro d
  induction d with
  | zero =>
    intro i hi
    refine Ev.step (fun k => by rw [rules_Check.l1]) ?_
    refine ite (fun h => absurd h (by omega)) (fun _ => ?_)
    rw [endsE, if_pos rfl]
    unfold lastE
    refine ite (fun _ => now (by rw [if_neg (by omega)])) (fun _ => ?_)
    refine ite (fun _ => now (by rw [if_neg (by omega)])) (fun _ => ?_)
    refine ite (fun _ => now (by rw [if_neg (by omega)])) (fun _ => ?_)
    refine ite (fun _ => now (by rw [if_neg (by omega)])) (fun _ => ?_)
    refine ite (fun _ => now (by rw [if_neg (by omega)])) (fun _ => ?_)
    refine ite (fun _ => now (by rw [if_neg (by omega)])) (fun _ => ?_)
    exact ite (fun _ => now (by rw [if_neg (by omega)])) (fun _ => now (by rw [if_pos (by omega)]))
  | succ d ih =>
    intro i hi
    have e := ih (i + 1) (by omega)
    have hwi : ((i + 1 : Nat) : Int) = wrap64 ((i : Int) + 1) := by rw [w64s (by omega) (by omega)]; omega
    rw [hwi] at e
    refine Ev.step (fun k => by rw [rules_Check.l1]) ?_
    refine ite (fun _ => ?_) (fun h => absurd (show (i : Int) < (x.f7.length : Int) by omega) h)
    refine ite (fun _ => ?_) (fun h => absurd (show (0 : Int) ≤ (i : Int) by omega) h)
    refine ite (fun _ => ?_) (fun h => absurd (show (i : Int) < (x.f7.length : Int) by omega) h)
    refine bind_now (end_f _ _) ?_
    rw [endsE]
    refine ite (fun h => ?_) (fun h => ?_)
    · rw [if_pos h]; exact e
    · rw [if_neg h, if_neg h]; exact Ev.now _
theorem cells_code (x : S26) (hl : x.f7.length ≤ 140737488351232) (hc : x.f4.length ≤ 140737488351232) : ∀ (d i : Nat), i + d = x.f4.length →
    Ev (fun k => rules_Check.l0 k x.f4 (x.f4.length : Int) (i : Int) x.f0 x.f1 x.f2 x.f3 x.f4 x.f5 x.f6 x.f7 x.f8 x.f9 x.f10)
      (if cellsE (wrap64 (2 * (x.f3.length : Int))) x.f4 d i = 0 then (if (x.f7.length : Int) > 6 then 2 else tailE x) else 4) := by
  intro d
  induction d with
  | zero =>
    intro i hi
    refine Ev.step (fun k => by rw [rules_Check.l0]) ?_
    refine ite (fun h => absurd h (by omega)) (fun _ => ?_)
    rw [cellsE, if_pos rfl]
    refine ite (fun h => now (by rw [if_pos h])) (fun h => ?_)
    rw [if_neg h]
    exact ends_code x hl x.f7.length 0 (by omega)
  | succ d ih =>
    intro i hi
    have e := ih (i + 1) (by omega)
    have hwi : ((i + 1 : Nat) : Int) = wrap64 ((i : Int) + 1) := by rw [w64s (by omega) (by omega)]; omega
    rw [hwi] at e
    refine Ev.step (fun k => by rw [rules_Check.l0]) ?_
    refine ite (fun _ => ?_) (fun h => absurd (show (i : Int) < (x.f4.length : Int) by omega) h)
    refine ite (fun _ => ?_) (fun h => absurd (show (0 : Int) ≤ (i : Int) by omega) h)
    refine ite (fun _ => ?_) (fun h => absurd (show (i : Int) < (x.f4.length : Int) by omega) h)
    rw [cellsE]
    refine ite (fun h => now (by rw [if_neg (c := 0 ≤ rd x.f4 (i : Int) ∧ _) (by omega), if_neg (by decide)])) (fun h => ?_)
    refine ite (fun h => now (by rw [if_neg (c := 0 ≤ rd x.f4 (i : Int) ∧ _) (by omega), if_neg (by decide)])) (fun h => ?_)
    rw [if_pos (c := 0 ≤ rd x.f4 (i : Int) ∧ _) (by omega)]
    exact e
def bodyE (x : S26) : Int :=
  if ¬ (1 ≤ x.f1 ∧ x.f1 ≤ 8 ∧ 1 ≤ x.f2 ∧ x.f2 ≤ 8) then 4
  else if (x.f3.length : Int) = 0 then 8 else if (x.f3.length : Int) > 6 then 2
  else if piecesE x.f3 x.f3.length 0 = 0 then (if (x.f4.length : Int) = wrap64 (x.f1 * x.f2) then cellTailE x else 3) else piecesE x.f3 x.f3.length 0
theorem pieces_f (l : List S104) (hl : l.length ≤ 140737488351232) (hw : ∀ p ∈ l, wf104 p) : Ev (fun k => rules_pieces.f k l) (if (l.length : Int) = 0 then 8 else if (l.length : Int) > 6 then 2 else piecesE l l.length 0) := by
  unfold rules_pieces.f
  refine ite (fun h => now (by rw [if_pos h])) (fun h => ?_)
  rw [if_neg h]
  refine ite (fun h => now (by rw [if_pos h])) (fun h => ?_)
  rw [if_neg h]
  exact pieces_code l hl hw l.length 0 (by omega)
theorem check_f (x : S26) (hw : wf26 x) (b : Bool) (hb : Ev (fun k => rules_Name.f k x.f0) b) : Ev (fun k => rules_Check.f k x.f0 x.f1 x.f2 x.f3 x.f4 x.f5 x.f6 x.f7 x.f8 x.f9 x.f10) (if b = true then bodyE x else 6) := by
  have hl3 : x.f3.length ≤ 140737488351232 := by have := hw.2.2.2.1.1; omega
  have hl4 : x.f4.length ≤ 140737488351232 := by have := hw.2.2.2.2.1.1; omega
  have hl7 : x.f7.length ≤ 140737488351232 := by have := hw.2.2.2.2.2.2.2.1.1; omega
  have hp := hw.2.2.2.1.2
  unfold rules_Check.f
  refine Ev.bind hb ?_
  refine ite (fun h => ?_) (fun h => now (by rw [if_neg h]))
  rw [if_pos h]
  unfold bodyE
  refine ite (fun _ => now (by rw [if_pos (by omega)])) (fun _ => ?_)
  refine ite (fun _ => now (by rw [if_pos (by omega)])) (fun _ => ?_)
  refine ite (fun _ => now (by rw [if_pos (by omega)])) (fun _ => ?_)
  refine ite (fun _ => now (by rw [if_pos (by omega)])) (fun _ => ?_)
  rw [if_neg (c := ¬ _) (by omega)]
  refine Ev.bind (pieces_f x.f3 hl3 hp) ?_
  by_cases h0 : (x.f3.length : Int) = 0
  · simp only [if_pos h0]
    exact ite (fun h => absurd h (by decide)) (fun _ => Ev.now _)
  · simp only [if_neg h0]
    by_cases h6 : (x.f3.length : Int) > 6
    · simp only [if_pos h6]
      exact ite (fun h => absurd h (by decide)) (fun _ => Ev.now _)
    · simp only [if_neg h6]
      refine ite (fun h => ?_) (fun h => now (by rw [if_neg h]))
      rw [if_pos h]
      refine ite (fun h => ?_) (fun h => now (by rw [if_neg h]))
      rw [if_pos h]
      exact cells_code x hl7 hl4 x.f4.length 0 (by omega)
theorem body0 (x : S26) (h : bodyE x = 0) : (1 ≤ x.f1 ∧ x.f1 ≤ 8 ∧ 1 ≤ x.f2 ∧ x.f2 ≤ 8) ∧ (x.f4.length : Int) = wrap64 (x.f1 * x.f2) := by
  unfold bodyE at h
  by_cases h1 : 1 ≤ x.f1 ∧ x.f1 ≤ 8 ∧ 1 ≤ x.f2 ∧ x.f2 ≤ 8
  · refine ⟨h1, ?_⟩
    rw [if_neg (fun hc => hc h1)] at h
    split at h
    · exact absurd h (by decide)
    split at h
    · exact absurd h (by decide)
    split at h
    · split at h
      · assumption
      · exact absurd h (by decide)
    · exact absurd h (by assumption)
  · rw [if_pos h1] at h; exact absurd h (by decide)
theorem rules_ev (x : S26) (hw : wf26 x) : ∃ e, Ev (fun k => rules_Check.f k x.f0 x.f1 x.f2 x.f3 x.f4 x.f5 x.f6 x.f7 x.f8 x.f9 x.f10) e ∧ (e = 0 → (1 ≤ x.f1 ∧ x.f1 ≤ 8 ∧ 1 ≤ x.f2 ∧ x.f2 ≤ 8) ∧ (x.f4.length : Int) = wrap64 (x.f1 * x.f2)) := by
  obtain ⟨b, hb⟩ := name_code x.f0 (by have := hw.1; simpa using this)
  refine ⟨_, check_f x hw b hb, ?_⟩
  intro h
  cases b
  · simp at h
  · exact body0 x (by simpa using h)
end Rc
end Go.Proofs.Ytkpphlimnnifkaa.Pure
