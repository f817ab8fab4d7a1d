/- moves.All, moves.Legal and the law's own first test. -/
import Derived.Test.YtloadbbndnmdlaaCoreEq
import Derived.Test.YtloadbbndnmdlaaCorePlace
import Derived.Test.YtloadbbndnmdlaaPMovesAfterx16
namespace Go.Proofs.Ytloadbbndnmdlaa.Pure
open Go.RowKit Go.Proofs.Ytloadbbndnmdlaa.PMovesAfter Go.Proofs.YtloadbbndnmdlaaW.PrintWords Go.Proofs.YtloadbbndnmdlaaW.PrintLast
set_option linter.unusedSimpArgs false
set_option linter.unusedVariables false
namespace Co
open Aid
/-! slices.Contains -/
theorem idx_f (l : List S39) (m : S39) (hl : l.length ≤ 100000) : ∀ (d i : Nat), i + d = l.length → ∃ v, Ev (fun k => api_Move_51.l0 k l (l.length : Int) (i : Int) m.f0 m.f1 m.f2) v ∧ (v ≥ 0 ↔ m ∈ l.drop i) := by
  intro d
  induction d with
  | zero =>
    intro i hi
    refine ⟨-1, Ev.step (fun k => by rw [api_Move_51.l0]) (ite (fun h => absurd h (by omega)) (fun _ => now rfl)), ?_⟩
    rw [List.drop_of_length_le (by omega)]; simp
  | succ d ih =>
    intro i hi
    have hi1 : i < l.length := by omega
    have hi2 : (i : Int) < (l.length : Int) := by omega
    obtain ⟨v, hv, hm⟩ := ih (i + 1) (by omega)
    have hwn : wrap64 ((i : Int) + 1) = ((i + 1 : Nat) : Int) := by rw [w64s (by omega) (by omega)]; omega
    rw [← hwn] at hv
    have hg : rd_T39 l (i : Int) = l[i] := by simp [rd_T39, List.getD_eq_getElem?_getD, hi1]
    rw [List.drop_eq_getElem_cons hi1, ← hg]
    by_cases he : m = rd_T39 l (i : Int)
    · refine ⟨(i : Int), Ev.step (fun k => by rw [api_Move_51.l0]) ?_, ?_⟩
      · refine ite (fun _ => ?_) (fun h => absurd hi2 h)
        refine ite (fun _ => ?_) (fun h => absurd (Int.natCast_nonneg _) h)
        refine ite (fun _ => ?_) (fun h => absurd hi2 h)
        exact ite (fun _ => now rfl) (fun h => absurd (by rw [← he]; simp) h)
      · exact ⟨fun _ => by rw [he]; simp, fun _ => by omega⟩
    · refine ⟨v, Ev.step (fun k => by rw [api_Move_51.l0]) ?_, ?_⟩
      · refine ite (fun _ => ?_) (fun h => absurd hi2 h)
        refine ite (fun _ => ?_) (fun h => absurd (Int.natCast_nonneg _) h)
        refine ite (fun _ => ?_) (fun h => absurd hi2 h)
        refine ite (fun h => absurd ?_ he) (fun _ => hv)
        simp only [Bool.and_eq_true, beq_iff_eq] at h
        generalize rd_T39 l (i : Int) = y at *
        cases m; cases y
        simp only [S39.mk.injEq]; exact h
      · rw [hm]; simp [he]
theorem cont_f (l : List S39) (m : S39) (hl : l.length ≤ 100000) : ∃ b : Bool, Ev (fun k => api_Move_33.f k l m.f0 m.f1 m.f2) b ∧ (b = true ↔ m ∈ l) := by
  obtain ⟨v, hv, hm⟩ := idx_f l m hl l.length 0 (by omega)
  refine ⟨decide (v ≥ 0), ?_, by rw [decide_eq_true_iff, hm, List.drop_zero]⟩
  unfold api_Move_33.f api_Move_51.f
  exact Ev.bind hv (now rfl)
theorem once_len (xs : List S39) : (onceM xs).length ≤ xs.length := by
  unfold onceM Go.Lib.compact Go.Lib.compactUpTo
  rw [List.length_map]
  refine Nat.le_trans (List.length_filter_le _ _) ?_
  rw [List.length_range]; unfold sortM; rw [List.length_mergeSort]; exact Nat.le_refl _
theorem raw_len (r : S26) (p : S29) (hr : VR r) (hp : VP r p) : (rawM r p).length ≤ 100000 := by
  have hl := hp.len hr
  have ht := hr.t
  unfold rawM drops
  rw [List.length_append]
  have h1 := flat_le (fun (t : Nat) => dropK r p (t : Int) (rd (hand p) (t : Int)) 0 p.f0.length) 64 (fun t => Nat.le_trans (dropK_len r p _ _ 0 p.f0.length) hl.2) r.f3.length 0
  have h2 : ∀ i ∈ List.range' 0 p.f0.length, (pieceM r p i).length ≤ 112 := by
    intro i hi
    have hi2 : i < p.f0.length := by simpa using hi
    unfold pieceM
    split
    · rename_i ho
      have hc := hp.cell hr (i : Int) (by omega) (by omega)
      have hc1 : 1 ≤ rd p.f0 (i : Int) := by
        have htu := hp.t
        unfold own at ho; split at ho <;> omega
      have hkn := knd_lt (rd p.f0 (i : Int)) (r.f3.length : Int) ⟨hc1, hc.2.2⟩
      obtain ⟨_, _, _, _, hw, hws⟩ := hr.pc _ (rdP_mem r.f3 (knd (rd p.f0 (i : Int))) hkn.1 hkn.2)
      have hb := flat_len (wayM r p (i : Int)) 7 _ (fun w hw => wayM_len r p (i : Int) w (by have := hws w hw; omega))
      omega
    · simp
  have h3 : ∀ l : List Nat, (∀ i ∈ l, (pieceM r p i).length ≤ 112) → (l.flatMap (pieceM r p)).length ≤ 112 * l.length := by
    intro l
    induction l with
    | nil => intro _; simp
    | cons x xs ih =>
      intro h
      rw [List.flatMap_cons, List.length_append, List.length_cons]
      have := ih (fun i hi => h i (by simp [hi])); have := h x (by simp); omega
  have h4 := h3 _ h2
  rw [List.length_range'] at h4
  omega
theorem legal_f (r : S26) (p : S29) (hr : VR r) (hp : VP r p) (m : S39) (hc : Ev (fun k => place_Check.f k r.f0 r.f1 r.f2 r.f3 r.f4 r.f5 r.f6 r.f7 r.f8 r.f9 r.f10 p.f0 p.f1.f0 p.f1.f1 p.f2 p.f3) 0) : Ev (fun k => moves_Legal.f k r.f0 r.f1 r.f2 r.f3 r.f4 r.f5 r.f6 r.f7 r.f8 r.f9 r.f10 p.f0 p.f1.f0 p.f1.f1 p.f2 p.f3 m.f0 m.f1 m.f2) (allowB r p m, 0) := by
  unfold moves_Legal.f
  refine Ev.bind hc ?_
  refine ite (fun _ => ?_) (fun h => absurd rfl h)
  refine Ev.bind (gen_f r p hr hp) ?_
  obtain ⟨b, hb, hm⟩ := cont_f (onceM (rawM r p)) m (Nat.le_trans (once_len _) (raw_len r p hr hp))
  rw [(once_spec _).2 m, mem_rawM r p hr hp m] at hm
  refine Ev.bind hb (now ?_)
  rw [Bool.eq_iff_iff.2 hm]
theorem legal_no (r : S26) (p : S29) (m : S39) (e : Int) (he : e ≠ 0) (hc : Ev (fun k => place_Check.f k r.f0 r.f1 r.f2 r.f3 r.f4 r.f5 r.f6 r.f7 r.f8 r.f9 r.f10 p.f0 p.f1.f0 p.f1.f1 p.f2 p.f3) e) : Ev (fun k => moves_Legal.f k r.f0 r.f1 r.f2 r.f3 r.f4 r.f5 r.f6 r.f7 r.f8 r.f9 r.f10 p.f0 p.f1.f0 p.f1.f1 p.f2 p.f3 m.f0 m.f1 m.f2) (false, e) := by
  unfold moves_Legal.f
  refine Ev.bind hc ?_
  exact ite (fun h => absurd h he) (fun _ => now rfl)
theorem all_f (r : S26) (p : S29) (hr : VR r) (hp : VP r p) (hc : Ev (fun k => place_Check.f k r.f0 r.f1 r.f2 r.f3 r.f4 r.f5 r.f6 r.f7 r.f8 r.f9 r.f10 p.f0 p.f1.f0 p.f1.f1 p.f2 p.f3) 0) : Ev (fun k => moves_All.f k r.f0 r.f1 r.f2 r.f3 r.f4 r.f5 r.f6 r.f7 r.f8 r.f9 r.f10 p.f0 p.f1.f0 p.f1.f1 p.f2 p.f3) (onceM (rawM r p), 0) := by
  unfold moves_All.f
  refine Ev.bind hc ?_
  refine ite (fun _ => ?_) (fun h => absurd rfl h)
  exact Ev.bind (gen_f r p hr hp) (now rfl)
/-! three in a row -/
def tic : S26 := ⟨⟨#[84, 73, 67]⟩, 3, 3, [⟨65, 5, 0, []⟩], List.replicate 9 0, false, false, [⟨0, 0, 3, false⟩], 2, 0, 0⟩
def beg : S29 := ⟨List.replicate 9 0, ⟨[5], [5]⟩, 0, 0⟩
theorem tic_v : VR tic := ⟨by decide, by decide, by decide, by decide +kernel, by decide +kernel, by decide +kernel, by decide⟩
theorem beg_v : VP tic beg := ⟨by decide, by decide +kernel, by decide, by decide, by decide, by decide, by decide, by decide⟩
set_option maxRecDepth 100000 in
theorem beg_f : Ev (fun k => place_Begin.f k tic.f0 tic.f1 tic.f2 tic.f3 tic.f4 tic.f5 tic.f6 tic.f7 tic.f8 tic.f9 tic.f10) (beg.f0, beg.f1.f0, beg.f1.f1, beg.f2, beg.f3, 0) := by
  exact Ev.of (fun k => place_Begin.mono _ _ _ _ _ _ _ _ _ _ _ k) (k := 400) (by decide +kernel)
set_option maxRecDepth 100000 in
theorem beg_c : Ev (fun k => place_Check.f k tic.f0 tic.f1 tic.f2 tic.f3 tic.f4 tic.f5 tic.f6 tic.f7 tic.f8 tic.f9 tic.f10 beg.f0 beg.f1.f0 beg.f1.f1 beg.f2 beg.f3) 0 := by
  exact Ev.of (fun k => place_Check.mono _ _ _ _ _ _ _ _ _ _ _ _ _ _ _ _ k) (k := 400) (by decide +kernel)
set_option maxRecDepth 100000 in
theorem beg_do : Ev (fun k => moves_Do.f k tic.f0 tic.f1 tic.f2 tic.f3 tic.f4 tic.f5 tic.f6 tic.f7 tic.f8 tic.f9 tic.f10 beg.f0 beg.f1.f0 beg.f1.f1 beg.f2 beg.f3 (-1) 4 0) ([0, 0, 0, 0, 1, 0, 0, 0, 0], [4], [5], 1, 0) := by
  exact Ev.of (fun k => moves_Do.mono _ _ _ _ _ _ _ _ _ _ _ _ _ _ _ _ _ _ _ k) (k := 400) (by decide +kernel)
theorem beg_l : (onceM (rawM tic beg)).length = 9 ∧ rd_T39 (onceM (rawM tic beg)) 8 = ⟨-1, 8, 0⟩ := by
  rw [gen_eq tic beg tic_v beg_v]
  exact ⟨by decide +kernel, by decide +kernel⟩
theorem plays_f : Ev (fun k => gamehalllaw1_plays.f k) true := by
  unfold gamehalllaw1_plays.f
  have T : gamehalllaw1_three.f = some (tic.f0, tic.f1, tic.f2, tic.f3, tic.f4, tic.f5, tic.f6, tic.f7, tic.f8, tic.f9, tic.f10) := rfl
  refine bind_now T ?_
  refine Ev.bind beg_f ?_
  refine bind_now T ?_
  refine Ev.bind (all_f tic beg tic_v beg_v beg_c) ?_
  refine bind_now T ?_
  refine bind_now (a := (-1, 4, 0)) rfl ?_
  have l4 := legal_f tic beg tic_v beg_v ⟨-1, 4, 0⟩ beg_c
  rw [show allowB tic beg ⟨-1, 4, 0⟩ = true by decide +kernel] at l4
  have l9 := legal_f tic beg tic_v beg_v ⟨-1, 9, 0⟩ beg_c
  rw [show allowB tic beg ⟨-1, 9, 0⟩ = false by decide +kernel] at l9
  have af : Ev (fun k => moves_After.f k tic.f0 tic.f1 tic.f2 tic.f3 tic.f4 tic.f5 tic.f6 tic.f7 tic.f8 tic.f9 tic.f10 beg.f0 beg.f1.f0 beg.f1.f1 beg.f2 beg.f3 (-1) 4 0) ([0, 0, 0, 0, 1, 0, 0, 0, 0], [4], [5], 1, 0, 0) := by
    unfold moves_After.f
    refine Ev.bind l4 ?_
    refine ite (fun _ => ?_) (fun h => absurd rfl h)
    refine ite (fun _ => ?_) (fun h => absurd rfl h)
    exact Ev.bind beg_do (now rfl)
  refine Ev.bind af ?_
  refine bind_now T ?_
  refine bind_now (a := (-1, 9, 0)) rfl ?_
  refine Ev.bind l9 ?_
  refine Ev.step (fun k => by rw [gamehalllaw1_plays.j0]) ?_
  obtain ⟨g1, g2⟩ := beg_l
  refine ite (fun _ => ?_) (fun h => absurd rfl h)
  refine ite (fun _ => ?_) (fun h => absurd rfl h)
  refine ite (fun _ => ?_) (fun h => absurd (by show ((onceM (rawM tic beg)).length : Int) = 9; rw [g1]; rfl) h)
  refine ite (fun _ => ?_) (fun h => absurd (by show (8 : Int) < ((onceM (rawM tic beg)).length : Int); rw [g1]; decide) h)
  refine bind_now (a := (-1, 8, 0)) rfl ?_
  refine ite (fun _ => ?_) (fun h => absurd (by show ((rd_T39 (onceM (rawM tic beg)) 8).f0 == (-1 : Int) && ((rd_T39 (onceM (rawM tic beg)) 8).f1 == (8 : Int) && ((rd_T39 (onceM (rawM tic beg)) 8).f2 == (0 : Int)))) = true; rw [g2]; decide) h)
  refine ite (fun _ => ?_) (fun h => absurd rfl h)
  refine ite (fun _ => ?_) (fun h => absurd rfl h)
  refine ite (fun _ => ?_) (fun h => absurd (by decide) h)
  refine ite (fun _ => ?_) (fun h => absurd rfl h)
  exact ite (fun _ => now rfl) (fun h => absurd rfl h)
end Co
end Go.Proofs.Ytloadbbndnmdlaa.Pure
namespace Go.Proofs.Ytloadbbndnmdlaa.Pure
open Go.RowKit Go.Proofs.Ytloadbbndnmdlaa.PMovesAfter Go.Proofs.YtloadbbndnmdlaaW.PrintWords Go.Proofs.YtloadbbndnmdlaaW.PrintLast
set_option linter.unusedSimpArgs false
set_option linter.unusedVariables false
namespace Co
open Aid
def mapS (g : Int → Int → Int) : Int → List Int → List Int
  | _, [] => []
  | s, c :: cs => g s c :: mapS g (s + 1) cs
theorem map_len (g : Int → Int → Int) : ∀ (xs : List Int) (s : Int), (mapS g s xs).length = xs.length := by
  intro xs
  induction xs with
  | nil => intro s; rfl
  | cons x xs ih => intro s; simp [mapS, ih]
theorem map_drop (g : Int → Int → Int) (xs : List Int) (i : Nat) (h : i < xs.length) : mapS g (i : Int) (xs.drop i) = g (i : Int) (rd xs (i : Int)) :: mapS g ((i + 1 : Nat) : Int) (xs.drop (i + 1)) := by
  rw [List.drop_eq_getElem_cons h, mapS, rd_nat xs i h]; rfl
theorem map_end (g : Int → Int → Int) (xs : List Int) (i : Nat) (h : xs.length ≤ i) (s : Int) : mapS g s (xs.drop i) = [] := by
  rw [List.drop_of_length_le h]; rfl
theorem wnx (i : Nat) (h : i ≤ 1000) : wrap64 ((i : Int) + 1) = ((i + 1 : Nat) : Int) := by rw [w64s (by omega) (by omega)]; omega
theorem w11 : wrap64 (1 + 1) = 2 := by decide +kernel
theorem w01 : wrap64 (0 + 1) = 1 := by decide +kernel
/-! what a legal move is -/
structure LM (r : S26) (p : S29) (m : S39) : Prop where
  f : -1 ≤ m.f0 ∧ m.f0 < (p.f0.length : Int)
  t : 0 ≤ m.f1 ∧ m.f1 < (p.f0.length : Int)
  k : 0 ≤ m.f2 ∧ m.f2 < (r.f3.length : Int)
  put : m.f0 = -1 → rd (hand p) m.f2 ≠ 0 ∧ rd p.f0 m.f1 = 0
  go : m.f0 ≠ -1 → m.f0 ≠ m.f1
theorem reach_takes (r : S26) (p : S29) (dx dy take tq : Int) : ∀ n x y, reachB r p dx dy take tq n x y = true → takes p take (rd p.f0 tq) := by
  intro n
  induction n with
  | zero => intro x y h; simp [reachB] at h
  | succ n ih =>
    intro x y h
    rw [reachB] at h
    split at h
    · split at h
      · rename_i e; rw [e] at h; exact of_decide_eq_true h
      · split at h
        · cases h
        · exact ih _ _ h
    · cases h
theorem lm_of (r : S26) (p : S29) (hr : VR r) (hp : VP r p) (m : S39) (h : allowB r p m = true) : LM r p m := by
  unfold allowB at h
  split at h
  · rename_i hi
    obtain ⟨⟨a, b⟩, ⟨c, d⟩, e, f⟩ := hi
    refine ⟨⟨a, by omega⟩, ⟨c, by omega⟩, ⟨e, by omega⟩, fun h0 => ?_, fun h0 he => ?_⟩
    · rw [if_pos h0] at h
      unfold putB at h
      simp only [Bool.and_eq_true, decide_eq_true_eq] at h
      exact ⟨h.1, h.2.1⟩
    · rw [if_neg h0] at h
      unfold moveB at h
      simp only [Bool.and_eq_true, List.any_eq_true] at h
      obtain ⟨h1, _, w, _, hw⟩ := h
      have hc := hp.cell hr m.f0 (by omega) (by omega)
      have ht := hp.t
      have ho := (mine_own _ _ hc.1 (by omega)).1 h1
      have hk := reach_takes r p _ _ _ _ _ _ _ hw
      rw [← he] at hk
      unfold takes at hk
      omega
  · cases h
/-! After -/
def nC (p : S29) (m : S39) (s c : Int) : Int := if s = m.f1 then 2 * m.f2 + p.f2 + 1 else if s = m.f0 then 0 else c
def n1 (p : S29) (m : S39) (o t n : Int) : Int := if o = p.f2 ∧ m.f0 = -1 ∧ t = m.f2 then n - 1 else n
def nH (r : S26) (p : S29) (m : S39) (o t n : Int) : Int := if o = p.f2 ∧ r.f6 = true ∧ rd p.f0 m.f1 > 0 ∧ t = knd (rd p.f0 m.f1) ∧ n1 p m o t n < 1000 then n1 p m o t n + 1 else n1 p m o t n
def aft (r : S26) (p : S29) (m : S39) (q : Int) : List Int × List Int × List Int × Int × Int := (mapS (nC p m) 0 p.f0, mapS (nH r p m 0) 0 p.f1.f0, mapS (nH r p m 1) 0 p.f1.f1, 1 - p.f2, q)
theorem aft_j6 (r : S26) (p : S29) (m : S39) (x8 o n : Int) (xs : List Int) (x65 x66 : Int) (c h0 h1 : List Int) (tu q : Int) (ho : o = 0 ∨ o = 1) (hn : n ≤ 1000) (l0 : h0.length ≤ 100) (l1 : h1.length ≤ 100) (b : Bool) (res : List Int × List Int × List Int × Int × Int)
    (e : Ev (fun k => gamehallref1_After.l2 k x8 o o xs x65 (wrap64 (x66 + 1)) r.f0 r.f1 r.f2 r.f3 r.f4 r.f5 r.f6 r.f7 r.f8 r.f9 r.f10 p.f0 p.f1.f0 p.f1.f1 p.f2 p.f3 m.f0 m.f1 m.f2 c (if o = 0 then h0 ++ [if b = true then n + 1 else n] else h0) (if o = 0 then h1 else h1 ++ [if b = true then n + 1 else n]) tu q) res) (hn0 : -1 ≤ n) :
    Ev (fun k => gamehallref1_After.j6 k x8 o n o xs x65 x66 b r.f0 r.f1 r.f2 r.f3 r.f4 r.f5 r.f6 r.f7 r.f8 r.f9 r.f10 p.f0 p.f1.f0 p.f1.f1 p.f2 p.f3 m.f0 m.f1 m.f2 c h0 h1 tu q) res := by
  refine Ev.step (fun k => by rw [gamehallref1_After.j6]) ?_
  have hw : wrap64 (n + 1) = n + 1 := w64 (by omega) (by omega)
  rw [hw]
  have b0 : h0.length < 17592186044416 := by omega
  have b1 : h1.length < 17592186044416 := by omega
  have o0 : 0 ≤ o := by omega
  have o1 : o < 2 := by omega
  refine ite (fun hb => ?_) (fun hb => ?_)
  · rw [if_pos hb] at e
    refine ite (fun _ => ite (fun _ => ite (fun h => ?_) (fun h => ?_)) (fun h => absurd o1 h)) (fun h => absurd o0 h)
    · rw [if_pos h, if_pos h] at e; exact ite (fun _ => e) (fun h => absurd b0 h)
    · rw [if_neg h, if_neg h] at e; exact ite (fun _ => e) (fun h => absurd b1 h)
  · rw [if_neg hb] at e
    refine ite (fun _ => ite (fun _ => ite (fun h => ?_) (fun h => ?_)) (fun h => absurd o1 h)) (fun h => absurd o0 h)
    · rw [if_pos h, if_pos h] at e; exact ite (fun _ => e) (fun h => absurd b0 h)
    · rw [if_neg h, if_neg h] at e; exact ite (fun _ => e) (fun h => absurd b1 h)
theorem aft_l2 (r : S26) (p : S29) (hr : VR r) (hp : VP r p) (m : S39) (lm : LM r p m) (o : Int) (xs : List Int) (ho : o = 0 ∨ o = 1) (hx : xs = if o = 0 then p.f1.f0 else p.f1.f1) (c : List Int) (tu q : Int) (res : List Int × List Int × List Int × Int × Int) :
    ∀ (d i : Nat) (h0 h1 : List Int), i + d = xs.length → h0.length + d ≤ 50 → h1.length + d ≤ 50 →
      Ev (fun k => gamehallref1_After.l1 k (rd p.f0 m.f1) (wrap64 (o + 1)) r.f0 r.f1 r.f2 r.f3 r.f4 r.f5 r.f6 r.f7 r.f8 r.f9 r.f10 p.f0 p.f1.f0 p.f1.f1 p.f2 p.f3 m.f0 m.f1 m.f2 c (if o = 0 then h0 ++ mapS (nH r p m o) (i : Int) (xs.drop i) else h0) (if o = 0 then h1 else h1 ++ mapS (nH r p m o) (i : Int) (xs.drop i)) tu q) res →
      Ev (fun k => gamehallref1_After.l2 k (rd p.f0 m.f1) o o xs (xs.length : Int) (i : Int) r.f0 r.f1 r.f2 r.f3 r.f4 r.f5 r.f6 r.f7 r.f8 r.f9 r.f10 p.f0 p.f1.f0 p.f1.f1 p.f2 p.f3 m.f0 m.f1 m.f2 c h0 h1 tu q) res := by
  have hc := hp.cell hr m.f1 lm.t.1 lm.t.2
  have htt := hr.t
  have hxl : xs.length ≤ 6 := by
    have h0 := hp.h0; have h1 := hp.h1
    rw [hx]; split <;> omega
  have hxb : ∀ v ∈ xs, 0 ≤ v ∧ v ≤ 1000 := by
    rw [hx]; split
    · exact hp.b0
    · exact hp.b1
  intro d
  induction d with
  | zero =>
    intro i h0 h1 hi _ _ e
    rw [map_end _ xs i (by omega), List.append_nil, List.append_nil] at e
    refine Ev.step (fun k => by rw [gamehallref1_After.l2]) ?_
    refine ite (fun h => absurd h (by omega)) (fun _ => ?_)
    have e1 : (if o = 0 then h0 else h0) = h0 := by split <;> rfl
    have e2 : (if o = 0 then h1 else h1) = h1 := by split <;> rfl
    rw [e1, e2] at e; exact e
  | succ d ih =>
    intro i h0 h1 hi b0 b1 e
    have hi1 : i < xs.length := by omega
    have hi2 : (i : Int) < (xs.length : Int) := by omega
    have hv := hxb _ (rd_mem xs (i : Int) (by omega) hi2)
    rw [map_drop _ xs i hi1] at e
    have hwn := wnx i (by omega)
    have hm1 : wrap64 (rd xs (i : Int) - 1) = rd xs (i : Int) - 1 := w64 (by omega) (by omega)
    -- the last step, for either value
    have last : ∀ n : Int, n = n1 p m o (i : Int) (rd xs (i : Int)) → -1 ≤ n → n ≤ 1000 → Ev (fun k => gamehallref1_After.j5 k (rd p.f0 m.f1) o (i : Int) n o xs (xs.length : Int) (i : Int) r.f0 r.f1 r.f2 r.f3 r.f4 r.f5 r.f6 r.f7 r.f8 r.f9 r.f10 p.f0 p.f1.f0 p.f1.f1 p.f2 p.f3 m.f0 m.f1 m.f2 c h0 h1 tu q) res := by
      intro n hn n0 n9
      have step : ∀ b : Bool, (if b = true then n + 1 else n) = nH r p m o (i : Int) (rd xs (i : Int)) → Ev (fun k => gamehallref1_After.j6 k (rd p.f0 m.f1) o n o xs (xs.length : Int) (i : Int) b r.f0 r.f1 r.f2 r.f3 r.f4 r.f5 r.f6 r.f7 r.f8 r.f9 r.f10 p.f0 p.f1.f0 p.f1.f1 p.f2 p.f3 m.f0 m.f1 m.f2 c h0 h1 tu q) res := by
        intro b hb
        refine aft_j6 r p m _ o n xs _ _ c h0 h1 tu q ho n9 (by omega) (by omega) b res ?_ n0
        rw [hb, hwn]
        rcases ho with h | h
        · subst h
          simp only [if_pos] at e ⊢
          refine ih (i + 1) _ _ (by omega) (by simp; omega) (by omega) ?_
          simp only [if_pos, List.append_assoc, List.cons_append, List.nil_append]
          exact e
        · subst h
          have h10 : ¬ ((1 : Int) = 0) := by decide
          simp only [if_neg h10] at e ⊢
          refine ih (i + 1) _ _ (by omega) (by omega) (by simp; omega) ?_
          simp only [if_neg h10, List.append_assoc, List.cons_append, List.nil_append]
          exact e
      have kd : rd p.f0 m.f1 > 0 → wrap64 (Int.tdiv (wrap64 (rd p.f0 m.f1 - 1)) 2) = knd (rd p.f0 m.f1) := by
        intro h
        have hk := kind_f (rd p.f0 m.f1) (by omega)
        unfold moves_Kind.f at hk
        exact Option.some.inj hk
      refine Ev.step (fun k => by rw [gamehallref1_After.j5]) ?_
      refine ite (fun g1 => ite (fun g2 => ite (fun g3 => ite (fun g4 => ?_) (fun g4 => ?_)) (fun g3 => ?_)) (fun g2 => ?_)) (fun g1 => ?_)
      · refine step _ ?_
        unfold nH; rw [← hn]
        rw [kd g3] at g4
        by_cases h9 : n < 1000
        · rw [if_pos (decide_eq_true h9), if_pos ⟨g1, g2, g3, g4, h9⟩]
        · rw [if_neg (by simpa using h9), if_neg (fun hh => h9 hh.2.2.2.2)]
      · refine step _ ?_
        unfold nH; rw [← hn]
        rw [kd g3] at g4
        rw [if_neg (c := false = true) (by decide), if_neg (fun hh => g4 hh.2.2.2.1)]
      · refine step _ ?_
        unfold nH; rw [← hn]
        rw [if_neg (c := false = true) (by decide), if_neg (fun hh => g3 hh.2.2.1)]
      · refine step _ ?_
        unfold nH; rw [← hn]
        rw [if_neg (c := false = true) (by decide), if_neg (fun hh => g2 hh.2.1)]
      · refine step _ ?_
        unfold nH; rw [← hn]
        rw [if_neg (c := false = true) (by decide), if_neg (fun hh => g1 hh.1)]
    have j4 : ∀ b : Bool, (b = true ↔ o = p.f2 ∧ m.f0 = -1 ∧ (i : Int) = m.f2) → Ev (fun k => gamehallref1_After.j4 k (rd p.f0 m.f1) o (i : Int) (rd xs (i : Int)) o xs (xs.length : Int) (i : Int) b r.f0 r.f1 r.f2 r.f3 r.f4 r.f5 r.f6 r.f7 r.f8 r.f9 r.f10 p.f0 p.f1.f0 p.f1.f1 p.f2 p.f3 m.f0 m.f1 m.f2 c h0 h1 tu q) res := by
      intro b hb
      refine Ev.step (fun k => by rw [gamehallref1_After.j4]) ?_
      rw [hm1]
      refine ite (fun h => ?_) (fun h => ?_)
      · refine last _ ?_ (by omega) (by omega)
        unfold n1; rw [if_pos (hb.1 h)]
      · refine last _ ?_ (by omega) (by omega)
        unfold n1; rw [if_neg (fun hh => h (hb.2 hh))]
    refine Ev.step (fun k => by rw [gamehallref1_After.l2]) ?_
    refine ite (fun _ => ?_) (fun h => absurd hi2 h)
    refine ite (fun _ => ?_) (fun h => absurd (Int.natCast_nonneg _) h)
    refine ite (fun _ => ?_) (fun h => absurd hi2 h)
    refine ite (fun g1 => ite (fun g2 => ?_) (fun g2 => ?_)) (fun g1 => ?_)
    · exact j4 _ ⟨fun h => ⟨g1, g2, by simpa using h⟩, fun h => by simpa using h.2.2⟩
    · exact j4 _ ⟨fun h => absurd h (by decide), fun h => absurd h.2.1 g2⟩
    · exact j4 _ ⟨fun h => absurd h (by decide), fun h => absurd h.1 g1⟩
def aq (p : S29) (m : S39) : Int := if rd p.f0 m.f1 > 0 ∨ m.f0 = -1 then 0 else if p.f3 + 1 > 200 then 200 else p.f3 + 1
theorem after_f (r : S26) (p : S29) (hr : VR r) (hp : VP r p) (m : S39) (lm : LM r p m) : Ev (fun k => gamehallref1_After.f k r.f0 r.f1 r.f2 r.f3 r.f4 r.f5 r.f6 r.f7 r.f8 r.f9 r.f10 p.f0 p.f1.f0 p.f1.f1 p.f2 p.f3 m.f0 m.f1 m.f2) (aft r p m (aq p m)) := by
  have htt := hr.t
  have hl := hp.len hr
  have hh0 := hp.h0
  have hh1 := hp.h1
  have ht := hp.t
  have hq := hp.q
  have hk := lm.k
  have htu : wrap64 (1 - p.f2) = 1 - p.f2 := w64 (by omega) (by omega)
  have hqu : wrap64 (p.f3 + 1) = p.f3 + 1 := w64 (by omega) (by omega)
  -- the end
  have j7 : ∀ (c h0 h1 : List Int) (tu q : Int), Ev (fun k => gamehallref1_After.j7 k (rd p.f0 m.f1) m.f0 m.f1 m.f2 c h0 h1 tu q) (c, h0, h1, tu, if rd p.f0 m.f1 > 0 ∨ m.f0 = -1 then 0 else q) := by
    intro c h0 h1 tu q
    refine Ev.step (fun k => by rw [gamehallref1_After.j7]) ?_
    refine ite (fun h => now (by rw [if_pos (Or.inl h)])) (fun h => ?_)
    exact ite (fun h2 => now (by rw [if_pos (Or.inr h2)])) (fun h2 => now (by rw [if_neg (fun hh => hh.elim h h2)]))
  have l1e : ∀ (c h0 h1 : List Int) (tu q : Int), Ev (fun k => gamehallref1_After.l1 k (rd p.f0 m.f1) (wrap64 (1 + 1)) r.f0 r.f1 r.f2 r.f3 r.f4 r.f5 r.f6 r.f7 r.f8 r.f9 r.f10 p.f0 p.f1.f0 p.f1.f1 p.f2 p.f3 m.f0 m.f1 m.f2 c h0 h1 tu q) (c, h0, h1, tu, if rd p.f0 m.f1 > 0 ∨ m.f0 = -1 then 0 else if q > 200 then 200 else q) := by
    intro c h0 h1 tu q
    rw [w11]
    refine Ev.step (fun k => by rw [gamehallref1_After.l1]) ?_
    refine ite (fun h => absurd h (by decide)) (fun _ => ?_)
    refine ite (fun h => ?_) (fun h => ?_)
    · rw [if_pos (c := q > 200) h]; exact j7 c h0 h1 tu 200
    · rw [if_neg (c := q > 200) h]; exact j7 c h0 h1 tu q
  have l1o : ∀ (c h0 : List Int) (tu q : Int), h0.length ≤ 20 → Ev (fun k => gamehallref1_After.l1 k (rd p.f0 m.f1) (wrap64 (0 + 1)) r.f0 r.f1 r.f2 r.f3 r.f4 r.f5 r.f6 r.f7 r.f8 r.f9 r.f10 p.f0 p.f1.f0 p.f1.f1 p.f2 p.f3 m.f0 m.f1 m.f2 c h0 [] tu q) (c, h0, mapS (nH r p m 1) 0 p.f1.f1, tu, if rd p.f0 m.f1 > 0 ∨ m.f0 = -1 then 0 else if q > 200 then 200 else q) := by
    intro c h0 tu q hb
    rw [w01]
    refine Ev.step (fun k => by rw [gamehallref1_After.l1]) ?_
    refine ite (fun _ => ?_) (fun h => absurd (by decide) h)
    refine ite (fun _ => ?_) (fun h => absurd (by decide) h)
    refine ite (fun h => absurd h (by decide)) (fun _ => ?_)
    refine Ev.step (fun k => by rw [gamehallref1_After.j2]) ?_
    have e := l1e c h0 (mapS (nH r p m 1) 0 p.f1.f1) tu q
    exact aft_l2 r p hr hp m lm 1 p.f1.f1 (Or.inr rfl) rfl c tu q _ p.f1.f1.length 0 h0 [] (by omega) (by omega) (by simp; omega) (by simpa using e)
  have l1z : ∀ (c : List Int) (tu q : Int), Ev (fun k => gamehallref1_After.l1 k (rd p.f0 m.f1) 0 r.f0 r.f1 r.f2 r.f3 r.f4 r.f5 r.f6 r.f7 r.f8 r.f9 r.f10 p.f0 p.f1.f0 p.f1.f1 p.f2 p.f3 m.f0 m.f1 m.f2 c [] [] tu q) (c, mapS (nH r p m 0) 0 p.f1.f0, mapS (nH r p m 1) 0 p.f1.f1, tu, if rd p.f0 m.f1 > 0 ∨ m.f0 = -1 then 0 else if q > 200 then 200 else q) := by
    intro c tu q
    refine Ev.step (fun k => by rw [gamehallref1_After.l1]) ?_
    refine ite (fun _ => ?_) (fun h => absurd (by decide) h)
    refine ite (fun _ => ?_) (fun h => absurd (by decide) h)
    refine ite (fun _ => ?_) (fun h => absurd rfl h)
    refine Ev.step (fun k => by rw [gamehallref1_After.j2]) ?_
    have e := l1o c (mapS (nH r p m 0) 0 p.f1.f0) tu q (by rw [map_len]; omega)
    exact aft_l2 r p hr hp m lm 0 p.f1.f0 (Or.inl rfl) rfl c tu q _ p.f1.f0.length 0 [] [] (by omega) (by simp; omega) (by simp; omega) (by simpa using e)
  have hcv : wrap64 (wrap64 (wrap64 (2 * m.f2) + p.f2) + 1) = 2 * m.f2 + p.f2 + 1 := by
    rw [w64 (n := 2 * m.f2) (by omega) (by omega), w64 (n := 2 * m.f2 + p.f2) (by omega) (by omega), w64 (by omega) (by omega)]
  have l0 : ∀ (d i : Nat) (c : List Int) (tu q : Int), i + d = p.f0.length → c.length + d ≤ 100 → Ev (fun k => gamehallref1_After.l0 k (rd p.f0 m.f1) p.f0 (p.f0.length : Int) (i : Int) r.f0 r.f1 r.f2 r.f3 r.f4 r.f5 r.f6 r.f7 r.f8 r.f9 r.f10 p.f0 p.f1.f0 p.f1.f1 p.f2 p.f3 m.f0 m.f1 m.f2 c tu q) (c ++ mapS (nC p m) (i : Int) (p.f0.drop i), mapS (nH r p m 0) 0 p.f1.f0, mapS (nH r p m 1) 0 p.f1.f1, tu, if rd p.f0 m.f1 > 0 ∨ m.f0 = -1 then 0 else if q > 200 then 200 else q) := by
    intro d
    induction d with
    | zero =>
      intro i c tu q hi hb
      refine Ev.step (fun k => by rw [gamehallref1_After.l0]) ?_
      rw [map_end _ p.f0 i (by omega), List.append_nil]
      exact ite (fun h => absurd h (by omega)) (fun _ => l1z c tu q)
    | succ d ih =>
      intro i c tu q hi hb
      have hi1 : i < p.f0.length := by omega
      have hi2 : (i : Int) < (p.f0.length : Int) := by omega
      have hcl : c.length < 17592186044416 := by omega
      have e2 : ∀ v : Int, v = nC p m (i : Int) (rd p.f0 (i : Int)) → Ev (fun k => gamehallref1_After.l0 k (rd p.f0 m.f1) p.f0 (p.f0.length : Int) (wrap64 ((i : Int) + 1)) r.f0 r.f1 r.f2 r.f3 r.f4 r.f5 r.f6 r.f7 r.f8 r.f9 r.f10 p.f0 p.f1.f0 p.f1.f1 p.f2 p.f3 m.f0 m.f1 m.f2 (c ++ [v]) tu q) (c ++ mapS (nC p m) (i : Int) (p.f0.drop i), mapS (nH r p m 0) 0 p.f1.f0, mapS (nH r p m 1) 0 p.f1.f1, tu, if rd p.f0 m.f1 > 0 ∨ m.f0 = -1 then 0 else if q > 200 then 200 else q) := by
        intro v hv
        rw [wnx i (by omega), map_drop _ p.f0 i hi1, ← hv]
        have h := ih (i + 1) (c ++ [v]) tu q (by omega) (by simp; omega)
        simp only [List.append_assoc, List.cons_append, List.nil_append] at h
        exact h
      refine Ev.step (fun k => by rw [gamehallref1_After.l0]) ?_
      rw [hcv]
      refine ite (fun _ => ?_) (fun h => absurd hi2 h)
      refine ite (fun _ => ?_) (fun h => absurd (Int.natCast_nonneg _) h)
      refine ite (fun _ => ?_) (fun h => absurd hi2 h)
      refine ite (fun h => ite (fun _ => e2 _ (by unfold nC; rw [if_pos h])) (fun hh => absurd hcl hh)) (fun h => ?_)
      refine ite (fun h2 => ite (fun _ => e2 _ (by unfold nC; rw [if_neg h, if_pos h2])) (fun hh => absurd hcl hh)) (fun h2 => ?_)
      exact ite (fun _ => e2 _ (by unfold nC; rw [if_neg h, if_neg h2])) (fun hh => absurd hcl hh)
  unfold gamehallref1_After.f
  refine ite (fun _ => ?_) (fun h => absurd lm.t.1 h)
  refine ite (fun _ => ?_) (fun h => absurd lm.t.2 h)
  rw [htu, hqu]
  exact l0 p.f0.length 0 [] (1 - p.f2) (p.f3 + 1) (by omega) (by simp; omega)
/-! moves.Do -/
theorem map_get (g : Int → Int → Int) : ∀ (xs : List Int) (s : Int) (i : Nat) (h : i < (mapS g s xs).length) (h' : i < xs.length), (mapS g s xs)[i] = g (s + i) xs[i] := by
  intro xs
  induction xs with
  | nil => intro s i h h'; exact absurd h' (by simp)
  | cons x xs ih =>
    intro s i h h'
    rcases i with _ | i
    · simp [mapS]
    · simp only [mapS, List.getElem_cons_succ]
      rw [ih (s + 1) i (by simpa [mapS] using h) (by simpa using h')]
      congr 1; omega
theorem cells_do (r : S26) (p : S29) (m : S39) (lm : LM r p m) : (if m.f0 < 0 then p.f0 else p.f0.set m.f0.toNat 0).set m.f1.toNat (2 * m.f2 + p.f2 + 1) = mapS (nC p m) 0 p.f0 := by
  have ht := lm.t
  have hf := lm.f
  have hl : (if m.f0 < 0 then p.f0 else p.f0.set m.f0.toNat 0).length = p.f0.length := by split <;> simp
  refine List.ext_getElem (by rw [List.length_set, map_len, hl]) (fun i h1 h2 => ?_)
  have hi : i < p.f0.length := by rw [map_len] at h2; exact h2
  rw [map_get (nC p m) p.f0 0 i h2 hi, List.getElem_set, Int.zero_add]
  unfold nC
  by_cases c1 : (i : Int) = m.f1
  · rw [if_pos c1, if_pos (by omega)]
  · rw [if_neg c1, if_neg (by omega)]
    by_cases c2 : m.f0 < 0
    · have c3 : ¬ (i : Int) = m.f0 := by omega
      simp only [if_pos c2, if_neg c3]
    · simp only [if_neg c2, List.getElem_set]
      by_cases c3 : (i : Int) = m.f0
      · rw [if_pos c3, if_pos (by omega)]
      · rw [if_neg c3, if_neg (by omega)]
def hd1 (p : S29) (m : S39) (h : List Int) : List Int := if m.f0 < 0 then h.set m.f2.toNat (rd h m.f2 - 1) else h
def hd2 (r : S26) (p : S29) (m : S39) (h : List Int) : List Int := if ¬ rd p.f0 m.f1 = 0 ∧ r.f6 = true then h.set (knd (rd p.f0 m.f1)).toNat (mn (rd h (knd (rd p.f0 m.f1)) + 1) 1000) else h
theorem hand_do (r : S26) (p : S29) (hr : VR r) (hp : VP r p) (m : S39) (lm : LM r p m) (o : Int) (xs : List Int) (hl : xs.length = r.f3.length) (ho : o = p.f2) (hb : ∀ c ∈ xs, 0 ≤ c ∧ c ≤ 1000) : hd2 r p m (hd1 p m xs) = mapS (nH r p m o) 0 xs := by
  have hk := lm.k
  have hf := lm.f
  have hc := hp.cell hr m.f1 lm.t.1 lm.t.2
  by_cases h0 : m.f0 < 0
  · have hf1 : m.f0 = -1 := by omega
    have hz := (lm.put hf1).2
    unfold hd2 hd1
    rw [if_neg (fun hh => hh.1 hz), if_pos h0]
    refine List.ext_getElem (by rw [List.length_set, map_len]) (fun i h1 h2 => ?_)
    have hi : i < xs.length := by rw [map_len] at h2; exact h2
    rw [map_get _ xs 0 i h2 hi, List.getElem_set, Int.zero_add]
    have hN : nH r p m o (i : Int) xs[i] = if (i : Int) = m.f2 then xs[i] - 1 else xs[i] := by
      unfold nH n1
      rw [if_neg (fun hh => by have := hh.2.2.1; omega)]
      by_cases c1 : (i : Int) = m.f2
      · rw [if_pos ⟨ho, hf1, c1⟩, if_pos c1]
      · rw [if_neg (fun hh => c1 hh.2.2), if_neg c1]
    rw [hN]
    by_cases c1 : (i : Int) = m.f2
    · have hr2 : rd xs m.f2 = xs[i] := by rw [← c1]; exact rd_nat xs i hi
      rw [if_pos (by omega), if_pos c1, hr2]
    · rw [if_neg (by omega), if_neg c1]
  · have hn1 : ∀ t n, n1 p m o t n = n := by
      intro t n; unfold n1; rw [if_neg (fun hh => by have := hh.2.1; omega)]
    unfold hd1
    rw [if_neg h0]
    unfold hd2
    by_cases hh : ¬ rd p.f0 m.f1 = 0 ∧ r.f6 = true
    · rw [if_pos hh]
      have hg : rd p.f0 m.f1 > 0 := by have := hh.1; omega
      have hkn := knd_lt (rd p.f0 m.f1) (r.f3.length : Int) ⟨by omega, hc.2.2⟩
      refine List.ext_getElem (by rw [List.length_set, map_len]) (fun i h1 h2 => ?_)
      have hi : i < xs.length := by rw [map_len] at h2; exact h2
      have hv := hb xs[i] (List.getElem_mem hi)
      rw [map_get _ xs 0 i h2 hi, List.getElem_set, Int.zero_add]
      unfold nH
      rw [hn1]
      by_cases c1 : (i : Int) = knd (rd p.f0 m.f1)
      · have hr2 : rd xs (knd (rd p.f0 m.f1)) = xs[i] := by rw [← c1]; exact rd_nat xs i hi
        rw [if_pos (by omega), hr2]
        by_cases c2 : xs[i] < 1000
        · rw [if_pos ⟨ho, hh.2, hg, c1, c2⟩]; unfold mn; split <;> omega
        · rw [if_neg (fun q => c2 q.2.2.2.2)]; unfold mn; split <;> omega
      · rw [if_neg (by omega), if_neg (fun q => c1 q.2.2.2.1)]
    · rw [if_neg hh]
      refine List.ext_getElem (by rw [map_len]) (fun i h1 h2 => ?_)
      rw [map_get _ xs 0 i h2 h1, Int.zero_add]
      unfold nH
      rw [hn1, if_neg (fun q => hh ⟨by have := q.2.2.1; omega, q.2.1⟩)]
theorem hand_no (r : S26) (p : S29) (m : S39) (o : Int) (xs : List Int) (ho : o ≠ p.f2) : xs = mapS (nH r p m o) 0 xs := by
  refine List.ext_getElem (by rw [map_len]) (fun i h1 h2 => ?_)
  rw [map_get _ xs 0 i h2 h1, Int.zero_add]
  unfold nH n1
  rw [if_neg (fun hh => ho hh.1), if_neg (fun hh => ho hh.1)]
theorem clone_f (l : List Int) (h : l.length ≤ 100) : slices_Clone_int_int.f l = some l := by
  unfold slices_Clone_int_int.f
  have : ([] : List Int).length + l.length < 17592186044416 := by simp; omega
  show (if ([] : List Int).length + l.length < 17592186044416 then some ([] ++ l) else none) = some l
  rw [if_pos this]; rfl
theorem do_f (r : S26) (p : S29) (hr : VR r) (hp : VP r p) (m : S39) (lm : LM r p m) : Ev (fun k => moves_Do.f k r.f0 r.f1 r.f2 r.f3 r.f4 r.f5 r.f6 r.f7 r.f8 r.f9 r.f10 p.f0 p.f1.f0 p.f1.f1 p.f2 p.f3 m.f0 m.f1 m.f2) (aft r p m (aq p m)) := by
  have htt := hr.t
  have htu := hp.t
  have ht0 : 0 ≤ p.f2 := by omega
  have ht1 : p.f2 < 2 := by omega
  have hl := hp.len hr
  have hk := lm.k
  have hto := lm.t
  have hfr := lm.f
  have hq := hp.q
  have hc := hp.cell hr m.f1 lm.t.1 lm.t.2
  have h0l := hp.h0
  have h1l := hp.h1
  have hk0 : m.f2 < (p.f1.f0.length : Int) := by omega
  have hk1 : m.f2 < (p.f1.f1.length : Int) := by omega
  have cl : moves_Cell.f m.f2 p.f2 = some (2 * m.f2 + p.f2 + 1) := by
    unfold moves_Cell.f
    rw [w64 (n := 2 * m.f2) (by omega) (by omega), w64 (n := 2 * m.f2 + p.f2) (by omega) (by omega), w64 (by omega) (by omega)]
  have hw : wrap64 (1 - p.f2) = 1 - p.f2 := w64 (by omega) (by omega)
  have hwq : wrap64 (p.f3 + 1) = p.f3 + 1 := w64 (by omega) (by omega)
  have j3 : ∀ (c h0 h1 : List Int) (tu q : Int), c.length = p.f0.length → Ev (fun k => moves_Do.j3 k p.f0 p.f1.f0 p.f1.f1 p.f2 p.f3 m.f0 m.f1 m.f2 c h0 h1 tu q) (c.set m.f1.toNat (2 * m.f2 + p.f2 + 1), h0, h1, 1 - p.f2, q) := by
    intro c h0 h1 tu q hcl
    refine Ev.step (fun k => by rw [moves_Do.j3]) ?_
    refine bind_now cl ?_
    refine ite (fun _ => ?_) (fun h => absurd hto.1 h)
    refine ite (fun _ => now (by rw [hw])) (fun h => absurd (by omega) h)
  have rdw : ∀ h : List Int, (∀ c ∈ h, -1 ≤ c ∧ c ≤ 1000) → ∀ t, 0 ≤ t → t < (h.length : Int) → wrap64 (rd h t + 1) = rd h t + 1 ∧ wrap64 (rd h t - 1) = rd h t - 1 := by
    intro h hb t t0 t1
    have := hb _ (rd_mem h t t0 t1)
    exact ⟨w64 (by omega) (by omega), w64 (by omega) (by omega)⟩
  have j1 : ∀ (c h0 h1 : List Int) (tu q : Int), c.length = p.f0.length → h0.length = r.f3.length → h1.length = r.f3.length → (∀ c ∈ h0, -1 ≤ c ∧ c ≤ 1000) → (∀ c ∈ h1, -1 ≤ c ∧ c ≤ 1000) →
      Ev (fun k => moves_Do.j1 k r.f0 r.f1 r.f2 r.f3 r.f4 r.f5 r.f6 r.f7 r.f8 r.f9 r.f10 p.f0 p.f1.f0 p.f1.f1 p.f2 p.f3 m.f0 m.f1 m.f2 c h0 h1 tu q) (c.set m.f1.toNat (2 * m.f2 + p.f2 + 1), if p.f2 = 0 then hd2 r p m h0 else h0, if p.f2 = 0 then h1 else hd2 r p m h1, 1 - p.f2, if rd p.f0 m.f1 = 0 then q else 0) := by
    intro c h0 h1 tu q cl0 l0 l1 b0 b1
    refine Ev.step (fun k => by rw [moves_Do.j1]) ?_
    refine ite (fun _ => ?_) (fun h => absurd hto.1 h)
    refine ite (fun _ => ?_) (fun h => absurd hto.2 h)
    refine ite (fun hz => ?_) (fun hz => ?_)
    · have e : ∀ h, hd2 r p m h = h := by intro h; unfold hd2; rw [if_neg (fun hh => hh.1 hz)]
      refine ev_eq (j3 c h0 h1 tu q cl0) ?_
      rw [e, e, if_pos hz]; split <;> rfl
    · rw [if_neg (c := rd p.f0 m.f1 = 0) hz]
      have hkn := knd_lt (rd p.f0 m.f1) (r.f3.length : Int) ⟨by omega, hc.2.2⟩
      have kf := kind_f (rd p.f0 m.f1) ⟨by omega, hc.2.1⟩
      refine Ev.step (fun k => by rw [moves_Do.j2]) ?_
      refine ite (fun _ => ?_) (fun h => absurd ht0 h)
      refine ite (fun _ => ?_) (fun h => absurd ht1 h)
      refine ite (fun hp0 => ?_) (fun hp0 => ?_)
      · rw [if_pos hp0, if_pos hp0]
        refine ite (fun h6 => ?_) (fun h6 => ?_)
        · refine bind_now kf ?_
          refine bind_now kf ?_
          refine ite (fun _ => ?_) (fun h => absurd hkn.1 h)
          refine ite (fun _ => ?_) (fun h => absurd (by omega) h)
          refine ite (fun _ => ?_) (fun h => absurd hkn.1 h)
          refine ite (fun _ => ?_) (fun h => absurd (by omega) h)
          rw [(rdw h0 b0 _ hkn.1 (by omega)).1]
          refine ev_eq (j3 _ _ _ tu 0 cl0) ?_
          unfold hd2; rw [if_pos ⟨hz, h6⟩]
        · refine ev_eq (j3 _ _ _ tu 0 cl0) ?_
          unfold hd2; rw [if_neg (fun hh => h6 hh.2)]
      · rw [if_neg hp0, if_neg hp0]
        refine ite (fun h6 => ?_) (fun h6 => ?_)
        · refine bind_now kf ?_
          refine bind_now kf ?_
          refine ite (fun _ => ?_) (fun h => absurd hkn.1 h)
          refine ite (fun _ => ?_) (fun h => absurd (by omega) h)
          refine ite (fun _ => ?_) (fun h => absurd hkn.1 h)
          refine ite (fun _ => ?_) (fun h => absurd (by omega) h)
          rw [(rdw h1 b1 _ hkn.1 (by omega)).1]
          refine ev_eq (j3 _ _ _ tu 0 cl0) ?_
          unfold hd2; rw [if_pos ⟨hz, h6⟩]
        · refine ev_eq (j3 _ _ _ tu 0 cl0) ?_
          unfold hd2; rw [if_neg (fun hh => h6 hh.2)]
  have hmq : mn (p.f3 + 1) 200 = if p.f3 + 1 > 200 then 200 else p.f3 + 1 := by
    unfold mn; (repeat' split) <;> omega
  have B0 : ∀ c ∈ p.f1.f0, -1 ≤ c ∧ c ≤ 1000 := fun c h => by have := hp.b0 c h; omega
  have B1 : ∀ c ∈ p.f1.f1, -1 ≤ c ∧ c ≤ 1000 := fun c h => by have := hp.b1 c h; omega
  have hset : ∀ (h : List Int), (∀ c ∈ h, 0 ≤ c ∧ c ≤ 1000) → m.f2 < (h.length : Int) → ∀ c ∈ h.set m.f2.toNat (rd h m.f2 - 1), -1 ≤ c ∧ c ≤ 1000 := by
    intro h hb hm c hc
    rcases List.mem_or_eq_of_mem_set hc with hc | hc
    · have := hb c hc; omega
    · have := hb _ (rd_mem h m.f2 hk.1 hm); omega
  unfold moves_Do.f place_Copy.f
  rw [clone_f p.f0 (by omega), clone_f p.f1.f0 (by omega), clone_f p.f1.f1 (by omega)]
  refine bind_now (a := (p.f0, p.f1.f0, p.f1.f1, p.f2, p.f3)) rfl ?_
  rw [hwq, hmq]
  refine Ev.step (fun k => by rw [moves_Do.j0]) ?_
  have cd := cells_do r p m lm
  refine ite (fun h => ?_) (fun h => ?_)
  · have hf : m.f0 = -1 := by omega
    have hz := (lm.put hf).2
    rw [if_pos h] at cd
    refine ite (fun _ => ?_) (fun h => absurd ht0 h)
    refine ite (fun _ => ?_) (fun h => absurd ht1 h)
    refine ite (fun hp0 => ?_) (fun hp0 => ?_)
    · refine ite (fun _ => ?_) (fun h => absurd hk.1 h)
      refine ite (fun _ => ?_) (fun h => absurd hk0 h)
      rw [(rdw _ B0 _ hk.1 hk0).2]
      refine ev_eq (j1 _ _ _ p.f2 0 rfl (by rw [List.length_set]; exact h0l) h1l (hset _ hp.b0 hk0) B1) ?_
      have e1 := hand_do r p hr hp m lm 0 p.f1.f0 h0l hp0.symm hp.b0
      unfold hd1 at e1; rw [if_pos h] at e1
      have e2 := hand_no r p m 1 p.f1.f1 (by omega)
      unfold aft aq
      rw [if_pos hp0, if_pos hp0, e1, ← e2, cd, if_pos hz, if_pos (Or.inr hf)]
    · refine ite (fun _ => ?_) (fun h => absurd hk.1 h)
      refine ite (fun _ => ?_) (fun h => absurd hk1 h)
      rw [(rdw _ B1 _ hk.1 hk1).2]
      refine ev_eq (j1 _ _ _ p.f2 0 rfl h0l (by rw [List.length_set]; exact h1l) B0 (hset _ hp.b1 hk1)) ?_
      have e1 := hand_do r p hr hp m lm 1 p.f1.f1 h1l (by omega) hp.b1
      unfold hd1 at e1; rw [if_pos h] at e1
      have e2 := hand_no r p m 0 p.f1.f0 (by omega)
      unfold aft aq
      rw [if_neg hp0, if_neg hp0, e1, ← e2, cd, if_pos hz, if_pos (Or.inr hf)]
  · have hf : ¬ m.f0 = -1 := by omega
    rw [if_neg h] at cd
    refine ite (fun _ => ?_) (fun h => absurd (by omega) h)
    refine ite (fun _ => ?_) (fun h => absurd hfr.2 h)
    refine ev_eq (j1 _ _ _ p.f2 _ (by rw [List.length_set]) h0l h1l B0 B1) ?_
    have hqq : (if rd p.f0 m.f1 = 0 then (if p.f3 + 1 > 200 then 200 else p.f3 + 1) else 0) = aq p m := by
      unfold aq
      by_cases hz : rd p.f0 m.f1 = 0
      · rw [if_pos hz, if_neg (c := rd p.f0 m.f1 > 0 ∨ m.f0 = -1) (fun hh => hh.elim (fun h => by omega) hf)]
      · rw [if_neg hz, if_pos (c := rd p.f0 m.f1 > 0 ∨ m.f0 = -1) (Or.inl (by omega))]
    unfold aft
    rw [cd, hqq]
    rcases htu with h2 | h2
    · have e1 := hand_do r p hr hp m lm 0 p.f1.f0 h0l h2.symm hp.b0
      unfold hd1 at e1; rw [if_neg h] at e1
      have e2 := hand_no r p m 1 p.f1.f1 (by omega)
      rw [if_pos h2, if_pos h2, e1, ← e2]
    · have e1 := hand_do r p hr hp m lm 1 p.f1.f1 h1l h2.symm hp.b1
      unfold hd1 at e1; rw [if_neg h] at e1
      have e2 := hand_no r p m 0 p.f1.f0 (by omega)
      have h3 : ¬ p.f2 = 0 := by omega
      rw [if_neg h3, if_neg h3, e1, ← e2]
end Co
end Go.Proofs.Ytloadbbndnmdlaa.Pure
namespace Go.Proofs.Ytloadbbndnmdlaa.Pure
open Go.RowKit Go.Proofs.Ytloadbbndnmdlaa.PMovesAfter Go.Proofs.YtloadbbndnmdlaaW.PrintWords Go.Proofs.YtloadbbndnmdlaaW.PrintLast
set_option linter.unusedSimpArgs false
set_option linter.unusedVariables false
namespace Co
open Aid
theorem ints_f (l : List Int) (hl : l.length ≤ 100) : Ev (fun k => gamehallref1_SameInts.f k l l) true := by
  have l0 : ∀ (d i : Nat), i + d = l.length → Ev (fun k => gamehallref1_SameInts.l0 k l l (l.length : Int) (i : Int)) true := by
    intro d
    induction d with
    | zero =>
      intro i hi
      refine Ev.step (fun k => by rw [gamehallref1_SameInts.l0]) ?_
      exact ite (fun h => absurd h (by omega)) (fun _ => now rfl)
    | succ d ih =>
      intro i hi
      have hi2 : (i : Int) < (l.length : Int) := by omega
      have e2 := ih (i + 1) (by omega)
      rw [show ((i + 1 : Nat) : Int) = wrap64 ((i : Int) + 1) by rw [w64s (by omega) (by omega)]; omega] at e2
      refine Ev.step (fun k => by rw [gamehallref1_SameInts.l0]) ?_
      refine ite (fun _ => ?_) (fun h => absurd hi2 h)
      refine ite (fun _ => ?_) (fun h => absurd (Int.natCast_nonneg _) h)
      refine ite (fun _ => ?_) (fun h => absurd hi2 h)
      refine ite (fun _ => ?_) (fun h => absurd hi2 h)
      exact ite (fun _ => e2) (fun h => absurd rfl h)
  unfold gamehallref1_SameInts.f
  exact ite (fun _ => l0 l.length 0 (by omega)) (fun h => absurd rfl h)
theorem place_f (a b c : List Int) (t q : Int) (ha : a.length ≤ 100) (hb : b.length ≤ 100) (hc : c.length ≤ 100) : Ev (fun k => gamehallref1_SamePlace.f k a b c t q a b c t q) true := by
  unfold gamehallref1_SamePlace.f
  refine ite (fun _ => ?_) (fun h => absurd rfl h)
  refine ite (fun _ => ?_) (fun h => absurd rfl h)
  refine Ev.bind (ints_f a ha) ?_
  refine ite (fun _ => ?_) (fun h => absurd rfl h)
  refine Ev.bind (ints_f b hb) ?_
  refine ite (fun _ => ?_) (fun h => absurd rfl h)
  exact Ev.bind (ints_f c hc) (now rfl)
theorem law_f (r : S26) (p : S29) (m : S39) (hr : wf26 r) (hp : wf29 p) : Ev (fun k => gamehalllaw1_MovesAfter.f k r.f0 r.f1 r.f2 r.f3 r.f4 r.f5 r.f6 r.f7 r.f8 r.f9 r.f10 p.f0 p.f1.f0 p.f1.f1 p.f2 p.f3 m.f0 m.f1 m.f2) true := by
  obtain ⟨e, h1, h2, h3⟩ := place_two r p hr hp
  unfold gamehalllaw1_MovesAfter.f
  refine Ev.bind plays_f ?_
  refine ite (fun _ => ?_) (fun h => absurd rfl h)
  by_cases h0 : e = 0
  · subst h0
    obtain ⟨v1, v2⟩ := h3 rfl
    have lg := legal_f r p v1 v2 m h1
    have al := allowed_f r p v1 v2 m
    by_cases ha : allowB r p m = true
    · rw [ha] at lg al
      have lm := lm_of r p v1 v2 m ha
      have af : Ev (fun k => moves_After.f k r.f0 r.f1 r.f2 r.f3 r.f4 r.f5 r.f6 r.f7 r.f8 r.f9 r.f10 p.f0 p.f1.f0 p.f1.f1 p.f2 p.f3 m.f0 m.f1 m.f2) ((aft r p m (aq p m)).1, (aft r p m (aq p m)).2.1, (aft r p m (aq p m)).2.2.1, (aft r p m (aq p m)).2.2.2.1, (aft r p m (aq p m)).2.2.2.2, 0) := by
        unfold moves_After.f
        refine Ev.bind lg ?_
        refine ite (fun _ => ?_) (fun h => absurd rfl h)
        refine ite (fun _ => ?_) (fun h => absurd rfl h)
        exact Ev.bind (do_f r p v1 v2 m lm) (now rfl)
      refine Ev.bind af ?_
      refine Ev.bind h2 ?_
      refine ite (fun _ => ?_) (fun h => absurd rfl h)
      refine Ev.bind al ?_
      refine Ev.step (fun k => by rw [gamehalllaw1_MovesAfter.j0]) ?_
      refine ite (fun h => absurd h (by decide)) (fun _ => ?_)
      refine Ev.step (fun k => by rw [gamehalllaw1_MovesAfter.j1]) ?_
      refine ite (fun _ => ?_) (fun h => absurd rfl h)
      refine ite (fun _ => ?_) (fun h => absurd rfl h)
      refine Ev.bind (after_f r p v1 v2 m lm) ?_
      have hl := v2.len v1
      have ht := v1.t
      have q0 := v2.h0
      have q1 := v2.h1
      refine Ev.bind (place_f _ _ _ _ _ ?_ ?_ ?_) (now rfl)
      · show (mapS (nC p m) 0 p.f0).length ≤ 100; rw [map_len]; omega
      · show (mapS (nH r p m 0) 0 p.f1.f0).length ≤ 100; rw [map_len]; omega
      · show (mapS (nH r p m 1) 0 p.f1.f1).length ≤ 100; rw [map_len]; omega
    · have ha : allowB r p m = false := by simpa using ha
      rw [ha] at lg al
      have af : Ev (fun k => moves_After.f k r.f0 r.f1 r.f2 r.f3 r.f4 r.f5 r.f6 r.f7 r.f8 r.f9 r.f10 p.f0 p.f1.f0 p.f1.f1 p.f2 p.f3 m.f0 m.f1 m.f2) ([], [], [], 0, 0, 13) := by
        unfold moves_After.f
        refine Ev.bind lg ?_
        refine ite (fun _ => ?_) (fun h => absurd rfl h)
        exact ite (fun h => absurd h (by decide)) (fun _ => now rfl)
      refine Ev.bind af ?_
      refine Ev.bind h2 ?_
      refine ite (fun _ => ?_) (fun h => absurd rfl h)
      refine Ev.bind al ?_
      refine Ev.step (fun k => by rw [gamehalllaw1_MovesAfter.j0]) ?_
      refine ite (fun _ => ?_) (fun h => absurd (by decide) h)
      refine Ev.step (fun k => by rw [gamehalllaw1_MovesAfter.j1]) ?_
      refine ite (fun h => absurd h (by decide)) (fun _ => ?_)
      exact ite (fun _ => now rfl) (fun h => absurd rfl h)
  · have af : Ev (fun k => moves_After.f k r.f0 r.f1 r.f2 r.f3 r.f4 r.f5 r.f6 r.f7 r.f8 r.f9 r.f10 p.f0 p.f1.f0 p.f1.f1 p.f2 p.f3 m.f0 m.f1 m.f2) ([], [], [], 0, 0, e) := by
      unfold moves_After.f
      refine Ev.bind (legal_no r p m e h0 h1) ?_
      exact ite (fun h => absurd h h0) (fun _ => now rfl)
    refine Ev.bind af ?_
    refine Ev.bind h2 ?_
    refine ite (fun h => absurd h h0) (fun _ => ?_)
    refine Ev.step (fun k => by rw [gamehalllaw1_MovesAfter.j0]) ?_
    refine ite (fun h => absurd h (by decide)) (fun _ => ?_)
    refine Ev.step (fun k => by rw [gamehalllaw1_MovesAfter.j1]) ?_
    refine ite (fun h => absurd h h0) (fun _ => ?_)
    exact ite (fun _ => now rfl) (fun h => absurd rfl h)
end Co
theorem MovesAfter : gamehalllaw1_MovesAfter.Pure := by
  intro x0 x1 x2 h0 h1 _
  obtain ⟨K, e⟩ := Co.law_f x0 x1 x2 h0 h1
  exact ⟨K, e K (Nat.le_refl K)⟩
end Go.Proofs.Ytloadbbndnmdlaa.Pure
