/- ends.Result and the reference's Result answer the same at valid positions. -/
import Derived.Test.YtloadbbndnmdlaaCoreEnds
namespace Go.Proofs.Ytloadbbndnmdlaa.Pure
open Go.RowKit Go.Proofs.Ytloadbbndnmdlaa.PEndsOf Go.Proofs.YtloadbbndnmdlaaW.PrintWords Go.Proofs.YtloadbbndnmdlaaW.PrintLast
set_option linter.unusedSimpArgs false
set_option linter.unusedVariables false
namespace Co
open Aid
def v1 (q : S64) (pl : Int) : Int := 2 * q.f1 + pl + 1
def anyF (r : S26) (p : S29) (pl v : Int) (s d : Nat) : Bool := (List.range' s d).any fun s => decide (rd p.f0 (s : Int) = v) && farB r pl (s : Int)
def cnt (p : S29) (v : Int) (s : Nat) : Int := (((p.f0.drop s).count v : Nat) : Int)
def holdsB (r : S26) (p : S29) (q : S64) : Bool := if q.f0 = 0 then rowB r p (1 - p.f2) q.f2 else if q.f0 = 1 then anyF r p (1 - p.f2) (v1 q (1 - p.f2)) 0 p.f0.length else decide (cnt p (v1 q p.f2) 0 < q.f2)
def resL (r : S26) (p : S29) (tl : Int) : List S64 → Int
  | [] => tl
  | q :: qs => if holdsB r p q = true then (if q.f3 = true then 1 + p.f2 else 1 + (1 - p.f2)) else resL r p tl qs
def tailR (r : S26) (p : S29) : Int := if r.f9 > 0 ∧ p.f3 ≥ r.f9 then 3 else if ((movesL r p).length : Int) > 0 then 0 else if r.f8 = 0 then 1 + (1 - p.f2) else if r.f8 = 1 then 1 + p.f2 else 3
structure QV (r : S26) (q : S64) : Prop where
  k : 0 ≤ q.f0 ∧ q.f0 ≤ 2
  p : 0 ≤ q.f1 ∧ q.f1 ≤ 6
  c : q.f0 ≠ 1 → 1 ≤ q.f2 ∧ q.f2 ≤ 64
theorem qv_of (r : S26) (hr : VR r) (q : S64) (h : q ∈ r.f7) : QV r q := by
  obtain ⟨h0, h1, h2, h3, h4⟩ := hr.e.2 q h
  have ht := hr.t
  refine ⟨⟨h0, h1⟩, ?_, ?_⟩
  · rcases (show q.f0 = 0 ∨ q.f0 = 1 ∨ q.f0 = 2 by omega) with h | h | h
    · have := h2 h; omega
    · have := h3 h; omega
    · have := h4 h; omega
  · intro hk
    rcases (show q.f0 = 0 ∨ q.f0 = 2 by omega) with h | h
    · have := h2 h; omega
    · have := h4 h; omega
theorem cell_v (a pl : Int) (h : 0 ≤ a ∧ a ≤ 6) (hpl : 0 ≤ pl ∧ pl ≤ 1) : wrap64 (wrap64 (wrap64 (2 * a) + pl) + 1) = 2 * a + pl + 1 := by
  rw [w64 (n := 2 * a) (by omega) (by omega), w64 (n := 2 * a + pl) (by omega) (by omega), w64 (by omega) (by omega)]
theorem Cell_f (q : S64) (pl : Int) (h : 0 ≤ q.f1 ∧ q.f1 ≤ 6) (hpl : 0 ≤ pl ∧ pl ≤ 1) : moves_Cell.f q.f1 pl = some (v1 q pl) := by
  unfold moves_Cell.f v1; rw [cell_v _ _ h hpl]
theorem drop_rd (xs : List Int) (s : Nat) (h : s < xs.length) : xs.drop s = rd xs (s : Int) :: xs.drop (s + 1) := by
  rw [List.drop_eq_getElem_cons h, rd_nat xs s h]
theorem cnt_step (p : S29) (v : Int) (s : Nat) (h : s < p.f0.length) : cnt p v s = (if rd p.f0 (s : Int) = v then 1 else 0) + cnt p v (s + 1) := by
  unfold cnt
  rw [drop_rd p.f0 s h, List.count_cons]
  by_cases h : rd p.f0 (s : Int) = v
  · simp [h]; omega
  · simp [h]
theorem cnt_end (p : S29) (v : Int) (s : Nat) (h : s = p.f0.length) : cnt p v s = 0 := by
  unfold cnt; rw [h, List.drop_length]; rfl
theorem drop_en (xs : List S64) (s : Nat) (h : s < xs.length) : xs.drop s = rd_T64 xs (s : Int) :: xs.drop (s + 1) := by
  rw [List.drop_eq_getElem_cons h]; simp [rd_T64, List.getD_eq_getElem?_getD, h]
theorem en_mem (xs : List S64) (s : Nat) (h : s < xs.length) : rd_T64 xs (s : Int) ∈ xs := by
  have : rd_T64 xs (s : Int) = xs[s] := by simp [rd_T64, List.getD_eq_getElem?_getD, h]
  rw [this]; exact List.getElem_mem h
theorem nxt (s n : Nat) (h : s < n) (hn : n ≤ 100) : wrap64 ((s : Int) + 1) = ((s + 1 : Nat) : Int) := by rw [w64s (by omega) (by omega)]; omega
/-! ends.holds -/
theorem hold_l0 (r : S26) (p : S29) (hr : VR r) (hp : VP r p) (q : S64) (hq : QV r q) (pl : Int) (hpl : 0 ≤ pl ∧ pl ≤ 1) :
    ∀ (d s : Nat), s + d = p.f0.length → Ev (fun k => ends_holds.l0 k pl p.f0 (p.f0.length : Int) (s : Int) r.f0 r.f1 r.f2 r.f3 r.f4 r.f5 r.f6 r.f7 r.f8 r.f9 r.f10 q.f0 q.f1 q.f2 q.f3) (anyF r p pl (v1 q pl) s d) := by
  have hl := hp.len hr
  intro d
  induction d with
  | zero =>
    intro s hs
    refine Ev.step (fun k => by rw [ends_holds.l0]) ?_
    exact ite (fun h => absurd h (by omega)) (fun _ => now (by simp [anyF]))
  | succ d ih =>
    intro s hs
    have hs1 : s < p.f0.length := by omega
    have hs2 : (s : Int) < (p.f0.length : Int) := by omega
    have e2 := ih (s + 1) (by omega)
    rw [← nxt s _ hs1 (by omega)] at e2
    refine Ev.step (fun k => by rw [ends_holds.l0]) ?_
    refine ite (fun _ => ?_) (fun h => absurd hs2 h)
    refine ite (fun _ => ?_) (fun h => absurd (Int.natCast_nonneg _) h)
    refine ite (fun _ => ?_) (fun h => absurd hs2 h)
    refine bind_now (Cell_f q pl hq.p hpl) ?_
    unfold anyF
    rw [List.range'_succ, List.any_cons]
    refine ite (fun h => ?_) (fun h => ?_)
    · refine bind_now (far_f r hr pl (s : Int) (by omega) (by omega)) ?_
      refine ite (fun h2 => now (by simp [h, h2])) (fun h2 => ev_eq e2 (by simp [h, h2, anyF]))
    · exact ev_eq e2 (by simp [h, anyF])
theorem hold_l1 (r : S26) (p : S29) (hr : VR r) (hp : VP r p) (q : S64) (hq : QV r q) :
    ∀ (d s : Nat) (n : Int), s + d = p.f0.length → 0 ≤ n → n ≤ s → Ev (fun k => ends_holds.l1 k n p.f0 (p.f0.length : Int) (s : Int) p.f0 p.f1.f0 p.f1.f1 p.f2 p.f3 q.f0 q.f1 q.f2 q.f3) (decide (n + cnt p (v1 q p.f2) s < q.f2)) := by
  have hl := hp.len hr
  have ht : 0 ≤ p.f2 ∧ p.f2 ≤ 1 := by have := hp.t; omega
  intro d
  induction d with
  | zero =>
    intro s n hs n0 n1
    refine Ev.step (fun k => by rw [ends_holds.l1]) ?_
    exact ite (fun h => absurd h (by omega)) (fun _ => now (by rw [cnt_end p _ s (by omega), Int.add_zero]))
  | succ d ih =>
    intro s n hs n0 n1
    have hs1 : s < p.f0.length := by omega
    have hs2 : (s : Int) < (p.f0.length : Int) := by omega
    have hid : s + 1 + d = p.f0.length := by omega
    have i1 := ih (s + 1) (n + 1) hid (by omega) (by omega)
    have i0 := ih (s + 1) n hid n0 (by omega)
    have hn : wrap64 (n + 1) = n + 1 := w64 (by omega) (by omega)
    rw [← nxt s _ hs1 (by omega)] at i1 i0
    refine Ev.step (fun k => by rw [ends_holds.l1]) ?_
    refine ite (fun _ => ?_) (fun h => absurd hs2 h)
    refine ite (fun _ => ?_) (fun h => absurd (Int.natCast_nonneg _) h)
    refine ite (fun _ => ?_) (fun h => absurd hs2 h)
    refine bind_now (Cell_f q p.f2 hq.p ht) ?_
    rw [cnt_step p _ s hs1, hn]
    refine ite (fun h => ?_) (fun h => ?_)
    · rw [if_pos h, ← Int.add_assoc]; exact i1
    · rw [if_neg h, Int.zero_add]; exact i0
theorem holds_f (r : S26) (p : S29) (hr : VR r) (hp : VP r p) (q : S64) (hq : QV r q) : Ev (fun k => ends_holds.f k r.f0 r.f1 r.f2 r.f3 r.f4 r.f5 r.f6 r.f7 r.f8 r.f9 r.f10 p.f0 p.f1.f0 p.f1.f1 p.f2 p.f3 q.f0 q.f1 q.f2 q.f3) (holdsB r p q) := by
  have ht := hp.t
  have hm : wrap64 (1 - p.f2) = 1 - p.f2 := w64 (by omega) (by omega)
  unfold ends_holds.f holdsB
  rw [hm]
  refine ite (fun h => ?_) (fun h => ?_)
  · rw [if_pos h]
    have hc := hq.c (by omega)
    exact Ev.bind (row_f r p hr hp _ _ hc.1 hc.2) (now rfl)
  · rw [if_neg h]
    refine ite (fun h2 => ?_) (fun h2 => ?_)
    · rw [if_pos h2]
      exact hold_l0 r p hr hp q hq (1 - p.f2) (by omega) p.f0.length 0 (by omega)
    · rw [if_neg h2]
      exact ev_eq (hold_l1 r p hr hp q hq p.f0.length 0 0 (by omega) (by omega) (by omega)) (by rw [Int.zero_add])
/-! ends.Result -/
theorem tail_of (r : S26) (p : S29) (b : Bool) (h : b = true ↔ (r.f9 > 0 ∧ p.f3 ≥ r.f9)) : (if b = true then 3 else if ((movesL r p).length : Int) > 0 then 0 else if r.f8 = 0 then 1 + (1 - p.f2) else if r.f8 = 1 then 1 + p.f2 else 3) = tailR r p := by
  unfold tailR
  by_cases hb : b = true
  · rw [if_pos hb, if_pos (h.1 hb)]
  · rw [if_neg hb, if_neg (fun hh => hb (h.2 hh))]
theorem wins_f (pl : Int) (h : 0 ≤ pl ∧ pl ≤ 1) : ends_wins.f pl = some (1 + pl) := by
  unfold ends_wins.f; rw [w64 (by omega) (by omega)]
theorem eres_j1 (r : S26) (p : S29) (hr : VR r) (hp : VP r p) (b : Bool) : Ev (fun k => ends_Result.j1 k (1 - p.f2) b r.f0 r.f1 r.f2 r.f3 r.f4 r.f5 r.f6 r.f7 r.f8 r.f9 r.f10 p.f0 p.f1.f0 p.f1.f1 p.f2 p.f3) (if b = true then 3 else if ((movesL r p).length : Int) > 0 then 0 else if r.f8 = 0 then 1 + (1 - p.f2) else if r.f8 = 1 then 1 + p.f2 else 3) := by
  have ht := hp.t
  refine Ev.step (fun k => by rw [ends_Result.j1]) ?_
  refine ite (fun h => now (by rw [if_pos h])) (fun h => ?_)
  rw [if_neg h]
  have g := gen_f r p hr hp
  rw [gen_eq r p hr hp] at g
  refine Ev.bind g ?_
  refine ite (fun h => now (by rw [if_pos h])) (fun h => ?_)
  rw [if_neg h]
  refine ite (fun h => ?_) (fun h => ?_)
  · rw [if_pos h]; exact bind_now (wins_f (1 - p.f2) (by omega)) (now rfl)
  · rw [if_neg h]
    refine ite (fun h => ?_) (fun h => now (by rw [if_neg h]))
    rw [if_pos h]; exact bind_now (wins_f p.f2 (by omega)) (now rfl)
theorem eres_f (r : S26) (p : S29) (hr : VR r) (hp : VP r p) : Ev (fun k => ends_Result.f k r.f0 r.f1 r.f2 r.f3 r.f4 r.f5 r.f6 r.f7 r.f8 r.f9 r.f10 p.f0 p.f1.f0 p.f1.f1 p.f2 p.f3) (resL r p (tailR r p) r.f7) := by
  have ht := hp.t
  have hle := hr.e.1
  have hm : wrap64 (1 - p.f2) = 1 - p.f2 := w64 (by omega) (by omega)
  have w1 := wins_f p.f2 (by omega)
  have w2 := wins_f (1 - p.f2) (by omega)
  have l0 : ∀ (d i : Nat), i + d = r.f7.length → Ev (fun k => ends_Result.l0 k (1 - p.f2) r.f7 (r.f7.length : Int) (i : Int) r.f0 r.f1 r.f2 r.f3 r.f4 r.f5 r.f6 r.f7 r.f8 r.f9 r.f10 p.f0 p.f1.f0 p.f1.f1 p.f2 p.f3) (resL r p (tailR r p) (r.f7.drop i)) := by
    intro d
    induction d with
    | zero =>
      intro i hi
      rw [List.drop_of_length_le (by omega)]
      unfold resL
      refine Ev.step (fun k => by rw [ends_Result.l0]) ?_
      refine ite (fun h => absurd h (by omega)) (fun _ => ?_)
      refine ite (fun h => ?_) (fun h => ?_)
      · exact ev_eq (eres_j1 r p hr hp _) (tail_of r p _ ⟨fun hh => ⟨h, of_decide_eq_true hh⟩, fun hh => decide_eq_true hh.2⟩)
      · exact ev_eq (eres_j1 r p hr hp _) (tail_of r p _ ⟨fun hh => absurd hh (by decide), fun hh => absurd hh.1 h⟩)
    | succ d ih =>
      intro i hi
      have hi1 : i < r.f7.length := by omega
      have hi2 : (i : Int) < (r.f7.length : Int) := by omega
      have e2 := ih (i + 1) (by omega)
      rw [← nxt i _ hi1 (by omega)] at e2
      rw [drop_en r.f7 i hi1]
      unfold resL
      refine Ev.step (fun k => by rw [ends_Result.l0]) ?_
      refine ite (fun _ => ?_) (fun h => absurd hi2 h)
      refine ite (fun _ => ?_) (fun h => absurd (Int.natCast_nonneg _) h)
      refine ite (fun _ => ?_) (fun h => absurd hi2 h)
      refine Ev.bind (holds_f r p hr hp _ (qv_of r hr _ (en_mem _ i hi1))) ?_
      refine ite (fun h => ?_) (fun h => ?_)
      · rw [if_pos h]
        refine ite (fun h => ?_) (fun h => ?_)
        · rw [if_pos h]; exact bind_now w1 (now rfl)
        · rw [if_neg h]; exact bind_now w2 (now rfl)
      · rw [if_neg h]; exact e2
  unfold ends_Result.f
  rw [hm]
  exact l0 r.f7.length 0 (by omega)
/-! the reference's Result -/
theorem ref_j6 (r : S26) (p : S29) (ht : p.f2 = 0 ∨ p.f2 = 1) (i : Int) (q : S64) (b c : Bool) (res : Int) (hc : c = true → b = true) (e : Ev (fun k => gamehallref1_Result.l0 k (1 - p.f2) r.f7 (r.f7.length : Int) (wrap64 (i + 1)) r.f0 r.f1 r.f2 r.f3 r.f4 r.f5 r.f6 r.f7 r.f8 r.f9 r.f10 p.f0 p.f1.f0 p.f1.f1 p.f2 p.f3) res) :
    Ev (fun k => gamehallref1_Result.j6 k (1 - p.f2) b r.f7 (r.f7.length : Int) i c r.f0 r.f1 r.f2 r.f3 r.f4 r.f5 r.f6 r.f7 r.f8 r.f9 r.f10 p.f0 p.f1.f0 p.f1.f1 p.f2 p.f3) (if b = true then (if c = true then 1 + p.f2 else 1 + (1 - p.f2)) else res) := by
  refine Ev.step (fun k => by rw [gamehallref1_Result.j6]) ?_
  refine ite (fun h => now ?_) (fun h => ?_)
  · rw [if_pos (hc h), if_pos h, w64 (by omega) (by omega)]
  · rw [if_neg h]
    refine ite (fun h => now ?_) (fun h => ?_)
    · rw [if_pos h, w64 (by omega) (by omega)]
    · rw [if_neg h]; exact e
theorem ref_j5 (r : S26) (p : S29) (ht : p.f2 = 0 ∨ p.f2 = 1) (i : Int) (q : S64) (b : Bool) (res : Int) (e : Ev (fun k => gamehallref1_Result.l0 k (1 - p.f2) r.f7 (r.f7.length : Int) (wrap64 (i + 1)) r.f0 r.f1 r.f2 r.f3 r.f4 r.f5 r.f6 r.f7 r.f8 r.f9 r.f10 p.f0 p.f1.f0 p.f1.f1 p.f2 p.f3) res) :
    Ev (fun k => gamehallref1_Result.j5 k (1 - p.f2) b r.f7 (r.f7.length : Int) i r.f0 r.f1 r.f2 r.f3 r.f4 r.f5 r.f6 r.f7 r.f8 r.f9 r.f10 p.f0 p.f1.f0 p.f1.f1 p.f2 p.f3 q.f0 q.f1 q.f2 q.f3) (if b = true then (if q.f3 = true then 1 + p.f2 else 1 + (1 - p.f2)) else res) := by
  refine Ev.step (fun k => by rw [gamehallref1_Result.j5]) ?_
  refine ite (fun h => ?_) (fun h => ?_)
  · exact ref_j6 r p ht i q b q.f3 res (fun _ => h) e
  · have h2 := ref_j6 r p ht i q b false res (fun hh => absurd hh (by decide)) e
    rw [if_neg h] at h2 ⊢; exact h2
theorem ref_j4 (r : S26) (p : S29) (ht : p.f2 = 0 ∨ p.f2 = 1) (i : Int) (q : S64) (b c : Bool) (res : Int) (e : Ev (fun k => gamehallref1_Result.l0 k (1 - p.f2) r.f7 (r.f7.length : Int) (wrap64 (i + 1)) r.f0 r.f1 r.f2 r.f3 r.f4 r.f5 r.f6 r.f7 r.f8 r.f9 r.f10 p.f0 p.f1.f0 p.f1.f1 p.f2 p.f3) res) :
    Ev (fun k => gamehallref1_Result.j4 k (1 - p.f2) b r.f7 (r.f7.length : Int) i c r.f0 r.f1 r.f2 r.f3 r.f4 r.f5 r.f6 r.f7 r.f8 r.f9 r.f10 p.f0 p.f1.f0 p.f1.f1 p.f2 p.f3 q.f0 q.f1 q.f2 q.f3) (if (b || c) = true then (if q.f3 = true then 1 + p.f2 else 1 + (1 - p.f2)) else res) := by
  refine Ev.step (fun k => by rw [gamehallref1_Result.j4]) ?_
  refine ite (fun h => ?_) (fun h => ?_)
  · subst h; rw [Bool.or_true]; exact ref_j5 r p ht i q true res e
  · have : c = false := by simpa using h
    subst this; rw [Bool.or_false]; exact ref_j5 r p ht i q b res e
/-- one round of the loop over the cells -/
theorem ref_l1 (r : S26) (p : S29) (hr : VR r) (hp : VP r p) (i : Int) (q : S64) (hq : QV r q) (F : Bool → Int → Int)
    (e : ∀ b n, Ev (fun k => if q.f0 = 2 then gamehallref1_Result.j4 k (1 - p.f2) b r.f7 (r.f7.length : Int) i (decide (n < q.f2)) r.f0 r.f1 r.f2 r.f3 r.f4 r.f5 r.f6 r.f7 r.f8 r.f9 r.f10 p.f0 p.f1.f0 p.f1.f1 p.f2 p.f3 q.f0 q.f1 q.f2 q.f3 else gamehallref1_Result.j4 k (1 - p.f2) b r.f7 (r.f7.length : Int) i false r.f0 r.f1 r.f2 r.f3 r.f4 r.f5 r.f6 r.f7 r.f8 r.f9 r.f10 p.f0 p.f1.f0 p.f1.f1 p.f2 p.f3 q.f0 q.f1 q.f2 q.f3) (F b n)) :
    ∀ (d s : Nat) (b : Bool) (n : Int), s + d = p.f0.length → 0 ≤ n → n ≤ s → Ev (fun k => gamehallref1_Result.l1 k (1 - p.f2) b n r.f7 (r.f7.length : Int) i p.f0 (p.f0.length : Int) (s : Int) r.f0 r.f1 r.f2 r.f3 r.f4 r.f5 r.f6 r.f7 r.f8 r.f9 r.f10 p.f0 p.f1.f0 p.f1.f1 p.f2 p.f3 q.f0 q.f1 q.f2 q.f3) (F (b || (decide (q.f0 = 1) && anyF r p (1 - p.f2) (v1 q (1 - p.f2)) s d)) (n + cnt p (v1 q p.f2) s)) := by
  have hl := hp.len hr
  obtain ⟨w0, w1⟩ := hr.w
  have ht : 0 ≤ p.f2 ∧ p.f2 ≤ 1 := by have := hp.t; omega
  have ht2 := hp.t
  have hm : 0 ≤ 1 - p.f2 ∧ 1 - p.f2 ≤ 1 := by omega
  have hm2 : 1 - p.f2 = 0 ∨ 1 - p.f2 = 1 := by omega
  have c1 : wrap64 (wrap64 (wrap64 (2 * q.f1) + (1 - p.f2)) + 1) = v1 q (1 - p.f2) := cell_v _ _ hq.p hm
  have c2 : wrap64 (wrap64 (wrap64 (2 * q.f1) + p.f2) + 1) = v1 q p.f2 := cell_v _ _ hq.p ht
  intro d
  induction d with
  | zero =>
    intro s b n hs n0 n1
    refine Ev.step (fun k => by rw [gamehallref1_Result.l1]) ?_
    have h0 : (b || (decide (q.f0 = 1) && anyF r p (1 - p.f2) (v1 q (1 - p.f2)) s 0)) = b := by simp [anyF]
    rw [h0, cnt_end p _ s (by omega), Int.add_zero]
    exact ite (fun h => absurd h (by omega)) (fun _ => e b n)
  | succ d ih =>
    intro s b n hs n0 n1
    have hs1 : s < p.f0.length := by omega
    have hs2 : (s : Int) < (p.f0.length : Int) := by omega
    have hs0 : (0 : Int) ≤ (s : Int) := Int.natCast_nonneg _
    have hs64 : (s : Int) ≤ 64 := by omega
    have hid : s + 1 + d = p.f0.length := by omega
    have hn : wrap64 (n + 1) = n + 1 := w64 (by omega) (by omega)
    have hd : 0 ≤ (s : Int) / r.f1 ∧ (s : Int) / r.f1 ≤ (s : Int) := ⟨Int.ediv_nonneg hs0 (by omega), Int.ediv_le_self _ hs0⟩
    have hdw : wrap64 (Int.tdiv (s : Int) r.f1) = (s : Int) / r.f1 := by
      rw [Int.tdiv_eq_ediv_of_nonneg hs0, w64 (by omega) (by omega)]
    have hw : r.f1 ≠ 0 := by omega
    have i1 : ∀ b, Ev (fun k => gamehallref1_Result.l1 k (1 - p.f2) b (n + 1) r.f7 (r.f7.length : Int) i p.f0 (p.f0.length : Int) (wrap64 ((s : Int) + 1)) r.f0 r.f1 r.f2 r.f3 r.f4 r.f5 r.f6 r.f7 r.f8 r.f9 r.f10 p.f0 p.f1.f0 p.f1.f1 p.f2 p.f3 q.f0 q.f1 q.f2 q.f3) (F (b || (decide (q.f0 = 1) && anyF r p (1 - p.f2) (v1 q (1 - p.f2)) (s + 1) d)) (n + 1 + cnt p (v1 q p.f2) (s + 1))) := by
      intro b; rw [nxt s _ hs1 (by omega)]; exact ih (s + 1) b (n + 1) hid (by omega) (by omega)
    have i0 : ∀ b, Ev (fun k => gamehallref1_Result.l1 k (1 - p.f2) b n r.f7 (r.f7.length : Int) i p.f0 (p.f0.length : Int) (wrap64 ((s : Int) + 1)) r.f0 r.f1 r.f2 r.f3 r.f4 r.f5 r.f6 r.f7 r.f8 r.f9 r.f10 p.f0 p.f1.f0 p.f1.f1 p.f2 p.f3 q.f0 q.f1 q.f2 q.f3) (F (b || (decide (q.f0 = 1) && anyF r p (1 - p.f2) (v1 q (1 - p.f2)) (s + 1) d)) (n + cnt p (v1 q p.f2) (s + 1))) := by
      intro b; rw [nxt s _ hs1 (by omega)]; exact ih (s + 1) b n hid n0 (by omega)
    -- one cell
    have j3 : ∀ hit : Bool, Ev (fun k => gamehallref1_Result.j3 k (1 - p.f2) b n (rd p.f0 (s : Int)) r.f7 (r.f7.length : Int) i p.f0 (p.f0.length : Int) (s : Int) hit r.f0 r.f1 r.f2 r.f3 r.f4 r.f5 r.f6 r.f7 r.f8 r.f9 r.f10 p.f0 p.f1.f0 p.f1.f1 p.f2 p.f3 q.f0 q.f1 q.f2 q.f3) (F ((b || hit) || (decide (q.f0 = 1) && anyF r p (1 - p.f2) (v1 q (1 - p.f2)) (s + 1) d)) (n + cnt p (v1 q p.f2) s)) := by
      intro hit
      refine Ev.step (fun k => by rw [gamehallref1_Result.j3]) ?_
      rw [cnt_step p _ s hs1, hn, c2]
      refine ite (fun h => ?_) (fun h => ?_)
      · subst h
        rw [Bool.or_true]
        refine ite (fun h => ?_) (fun h => ?_)
        · rw [if_pos h, ← Int.add_assoc]; exact i1 true
        · rw [if_neg h, Int.zero_add]; exact i0 true
      · have : hit = false := by simpa using h
        subst this
        rw [Bool.or_false]
        refine ite (fun h => ?_) (fun h => ?_)
        · rw [if_pos h, ← Int.add_assoc]; exact i1 b
        · rw [if_neg h, Int.zero_add]; exact i0 b
    refine Ev.step (fun k => by rw [gamehallref1_Result.l1]) ?_
    refine ite (fun _ => ?_) (fun h => absurd hs2 h)
    refine ite (fun _ => ?_) (fun h => absurd hs0 h)
    refine ite (fun _ => ?_) (fun h => absurd hs2 h)
    have an : anyF r p (1 - p.f2) (v1 q (1 - p.f2)) s (d + 1) = ((decide (rd p.f0 (s : Int) = v1 q (1 - p.f2)) && farB r (1 - p.f2) (s : Int)) || anyF r p (1 - p.f2) (v1 q (1 - p.f2)) (s + 1) d) := by
      unfold anyF; rw [List.range'_succ, List.any_cons]
    rw [an, c1, hdw]
    refine ite (fun h1 => ?_) (fun h1 => ?_)
    · refine ite (fun h2 => ?_) (fun h2 => ?_)
      · refine ite (fun h => absurd h hw) (fun _ => ?_)
        refine bind_now (far_ref r hr (1 - p.f2) (s : Int) hm2 hs0 hs64) ?_
        refine ev_eq (j3 _) ?_
        simp [h1, h2, Bool.or_assoc]
      · refine ev_eq (j3 _) ?_
        simp [h1, h2]
    · refine ev_eq (j3 _) ?_
      simp [h1]
theorem ref_f (r : S26) (p : S29) (hr : VR r) (hp : VP r p) : Ev (fun k => gamehallref1_Result.f k r.f0 r.f1 r.f2 r.f3 r.f4 r.f5 r.f6 r.f7 r.f8 r.f9 r.f10 p.f0 p.f1.f0 p.f1.f1 p.f2 p.f3) (resL r p (tailR r p) r.f7) := by
  have ht := hp.t
  have hle := hr.e.1
  have hq9 := hr.l
  have hm : wrap64 (1 - p.f2) = 1 - p.f2 := w64 (by omega) (by omega)
  have j7 : ∀ b : Bool, Ev (fun k => gamehallref1_Result.j7 k (1 - p.f2) b r.f0 r.f1 r.f2 r.f3 r.f4 r.f5 r.f6 r.f7 r.f8 r.f9 r.f10 p.f0 p.f1.f0 p.f1.f1 p.f2 p.f3) (if b = true then 3 else if ((movesL r p).length : Int) > 0 then 0 else if r.f8 = 0 then 1 + (1 - p.f2) else if r.f8 = 1 then 1 + p.f2 else 3) := by
    intro b
    refine Ev.step (fun k => by rw [gamehallref1_Result.j7]) ?_
    refine ite (fun h => now (by rw [if_pos h])) (fun h => ?_)
    rw [if_neg h]
    refine Ev.bind (moves_f r p hr hp) ?_
    refine ite (fun h => now (by rw [if_pos h])) (fun h => ?_)
    rw [if_neg h]
    refine bind_now rfl ?_
    refine ite (fun _ => ?_) (fun h => absurd hq9.1 h)
    refine ite (fun _ => now ?_) (fun h => absurd (by simp; omega) h)
    rw [w64 (n := 1 + (1 - p.f2)) (by omega) (by omega), w64 (n := 1 + p.f2) (by omega) (by omega)]
    rcases (show r.f8 = 0 ∨ r.f8 = 1 ∨ r.f8 = 2 by omega) with h | h | h <;> rw [h] <;> rfl
  have l0 : ∀ (d i : Nat), i + d = r.f7.length → Ev (fun k => gamehallref1_Result.l0 k (1 - p.f2) r.f7 (r.f7.length : Int) (i : Int) r.f0 r.f1 r.f2 r.f3 r.f4 r.f5 r.f6 r.f7 r.f8 r.f9 r.f10 p.f0 p.f1.f0 p.f1.f1 p.f2 p.f3) (resL r p (tailR r p) (r.f7.drop i)) := by
    intro d
    induction d with
    | zero =>
      intro i hi
      rw [List.drop_of_length_le (by omega)]
      unfold resL
      refine Ev.step (fun k => by rw [gamehallref1_Result.l0]) ?_
      refine ite (fun h => absurd h (by omega)) (fun _ => ?_)
      refine ite (fun h => ?_) (fun h => ?_)
      · exact ev_eq (j7 _) (tail_of r p _ ⟨fun hh => absurd hh (by decide), fun hh => by have := hh.1; omega⟩)
      · exact ev_eq (j7 _) (tail_of r p _ ⟨fun hh => ⟨by omega, of_decide_eq_true hh⟩, fun hh => decide_eq_true hh.2⟩)
    | succ d ih =>
      intro i hi
      have hi1 : i < r.f7.length := by omega
      have hi2 : (i : Int) < (r.f7.length : Int) := by omega
      have e2 := ih (i + 1) (by omega)
      rw [← nxt i _ hi1 (by omega)] at e2
      rw [drop_en r.f7 i hi1]
      have hq := qv_of r hr _ (en_mem r.f7 i hi1)
      generalize hqe : rd_T64 r.f7 (i : Int) = q at hq
      unfold resL
      refine Ev.step (fun k => by rw [gamehallref1_Result.l0]) ?_
      rw [hqe]
      refine ite (fun _ => ?_) (fun h => absurd hi2 h)
      refine ite (fun _ => ?_) (fun h => absurd (Int.natCast_nonneg _) h)
      refine ite (fun _ => ?_) (fun h => absurd hi2 h)
      let F : Bool → Int → Int := fun b n => if (b || (decide (q.f0 = 2) && decide (n < q.f2))) = true then (if q.f3 = true then 1 + p.f2 else 1 + (1 - p.f2)) else resL r p (tailR r p) (r.f7.drop (i + 1))
      have eF : ∀ b n, Ev (fun k => if q.f0 = 2 then gamehallref1_Result.j4 k (1 - p.f2) b r.f7 (r.f7.length : Int) (i : Int) (decide (n < q.f2)) r.f0 r.f1 r.f2 r.f3 r.f4 r.f5 r.f6 r.f7 r.f8 r.f9 r.f10 p.f0 p.f1.f0 p.f1.f1 p.f2 p.f3 q.f0 q.f1 q.f2 q.f3 else gamehallref1_Result.j4 k (1 - p.f2) b r.f7 (r.f7.length : Int) (i : Int) false r.f0 r.f1 r.f2 r.f3 r.f4 r.f5 r.f6 r.f7 r.f8 r.f9 r.f10 p.f0 p.f1.f0 p.f1.f1 p.f2 p.f3 q.f0 q.f1 q.f2 q.f3) (F b n) := by
        intro b n
        refine ite (fun h => ?_) (fun h => ?_)
        · refine ev_eq (ref_j4 r p ht (i : Int) q b _ _ e2) ?_
          simp [F, h]
        · refine ev_eq (ref_j4 r p ht (i : Int) q b _ _ e2) ?_
          simp [F, h]
      have L : ∀ b : Bool, Ev (fun k => gamehallref1_Result.j1 k (1 - p.f2) b r.f7 (r.f7.length : Int) (i : Int) r.f0 r.f1 r.f2 r.f3 r.f4 r.f5 r.f6 r.f7 r.f8 r.f9 r.f10 p.f0 p.f1.f0 p.f1.f1 p.f2 p.f3 q.f0 q.f1 q.f2 q.f3) (F (b || (decide (q.f0 = 1) && anyF r p (1 - p.f2) (v1 q (1 - p.f2)) 0 p.f0.length)) (cnt p (v1 q p.f2) 0)) := by
        intro b
        refine Ev.step (fun k => by rw [gamehallref1_Result.j1]) ?_
        have h := ref_l1 r p hr hp (i : Int) q hq F eF p.f0.length 0 b 0 (by omega) (by omega) (by omega)
        rw [Int.zero_add] at h
        exact h
      refine ite (fun h => ?_) (fun h => ?_)
      · have hc := hq.c (by omega)
        refine Ev.bind (lin_f r p hr hp (1 - p.f2) q.f2 (by omega) hc.1) ?_
        refine ev_eq (L _) ?_
        have : holdsB r p q = linB r p (1 - p.f2) q.f2 := by
          unfold holdsB; rw [if_pos h, row_lin r p hr hp _ _ hc.1]
        rw [this]
        simp [F, h]
      · refine ev_eq (L _) ?_
        have hk := hq.k
        unfold holdsB
        rw [if_neg h]
        rcases (show q.f0 = 1 ∨ q.f0 = 2 by omega) with h1 | h1
        · simp [F, h1]
        · simp [F, h1]
  unfold gamehallref1_Result.f
  rw [hm]
  exact l0 r.f7.length 0 (by omega)
end Co
end Go.Proofs.Ytloadbbndnmdlaa.Pure
