/- moves.All, moves.Legal and the law's own first test. -/
import Derived.Test.YtloadbbndnmdlaaCoreEq
import Derived.Test.YtloadbbndnmdlaaCorePlace
import Derived.Test.YtloadbbndnmdlaaPMovesAllx15
namespace Go.Proofs.Ytloadbbndnmdlaa.Pure
open Go.RowKit Go.Proofs.Ytloadbbndnmdlaa.PMovesAll Go.Proofs.YtloadbbndnmdlaaW.PrintWords Go.Proofs.YtloadbbndnmdlaaW.PrintLast
set_option linter.unusedSimpArgs false
set_option linter.unusedVariables false
namespace Co
open Aid
/-! slices.Contains -/
theorem idx_f (l : List S39) (m : S39) (hl : l.length ≤ 100000) : ∀ (d i : Nat), i + d = l.length → ∃ v, Ev (fun k => api_Move_51.l0 k l (l.length : Int) (i : Int) m.f0 m.f1 m.f2) v ∧ (v ≥ 0 ↔ m ∈ l.drop i) := by
  intro d
  induction d with
  | zero =>
    intro i hi
    refine ⟨-1, Ev.step (fun k => by rw [api_Move_51.l0]) (ite (fun h => absurd h (by omega)) (fun _ => now rfl)), ?_⟩
    rw [List.drop_of_length_le (by omega)]; simp
  | succ d ih =>
    intro i hi
    have hi1 : i < l.length := by omega
    have hi2 : (i : Int) < (l.length : Int) := by omega
    obtain ⟨v, hv, hm⟩ := ih (i + 1) (by omega)
    have hwn : wrap64 ((i : Int) + 1) = ((i + 1 : Nat) : Int) := by rw [w64s (by omega) (by omega)]; omega
    rw [← hwn] at hv
    have hg : rd_T39 l (i : Int) = l[i] := by simp [rd_T39, List.getD_eq_getElem?_getD, hi1]
    rw [List.drop_eq_getElem_cons hi1, ← hg]
    by_cases he : m = rd_T39 l (i : Int)
    · refine ⟨(i : Int), Ev.step (fun k => by rw [api_Move_51.l0]) ?_, ?_⟩
      · refine ite (fun _ => ?_) (fun h => absurd hi2 h)
        refine ite (fun _ => ?_) (fun h => absurd (Int.natCast_nonneg _) h)
        refine ite (fun _ => ?_) (fun h => absurd hi2 h)
        exact ite (fun _ => now rfl) (fun h => absurd (by rw [← he]; simp) h)
      · exact ⟨fun _ => by rw [he]; simp, fun _ => by omega⟩
    · refine ⟨v, Ev.step (fun k => by rw [api_Move_51.l0]) ?_, ?_⟩
      · refine ite (fun _ => ?_) (fun h => absurd hi2 h)
        refine ite (fun _ => ?_) (fun h => absurd (Int.natCast_nonneg _) h)
        refine ite (fun _ => ?_) (fun h => absurd hi2 h)
        refine ite (fun h => absurd ?_ he) (fun _ => hv)
        simp only [Bool.and_eq_true, beq_iff_eq] at h
        generalize rd_T39 l (i : Int) = y at *
        cases m; cases y
        simp only [S39.mk.injEq]; exact h
      · rw [hm]; simp [he]
theorem cont_f (l : List S39) (m : S39) (hl : l.length ≤ 100000) : ∃ b : Bool, Ev (fun k => api_Move_33.f k l m.f0 m.f1 m.f2) b ∧ (b = true ↔ m ∈ l) := by
  obtain ⟨v, hv, hm⟩ := idx_f l m hl l.length 0 (by omega)
  refine ⟨decide (v ≥ 0), ?_, by rw [decide_eq_true_iff, hm, List.drop_zero]⟩
  unfold api_Move_33.f api_Move_51.f
  exact Ev.bind hv (now rfl)
theorem once_len (xs : List S39) : (onceM xs).length ≤ xs.length := by
  unfold onceM Go.Lib.compact Go.Lib.compactUpTo
  rw [List.length_map]
  refine Nat.le_trans (List.length_filter_le _ _) ?_
  rw [List.length_range]; unfold sortM; rw [List.length_mergeSort]; exact Nat.le_refl _
theorem raw_len (r : S26) (p : S29) (hr : VR r) (hp : VP r p) : (rawM r p).length ≤ 100000 := by
  have hl := hp.len hr
  have ht := hr.t
  unfold rawM drops
  rw [List.length_append]
  have h1 := flat_le (fun (t : Nat) => dropK r p (t : Int) (rd (hand p) (t : Int)) 0 p.f0.length) 64 (fun t => Nat.le_trans (dropK_len r p _ _ 0 p.f0.length) hl.2) r.f3.length 0
  have h2 : ∀ i ∈ List.range' 0 p.f0.length, (pieceM r p i).length ≤ 112 := by
    intro i hi
    have hi2 : i < p.f0.length := by simpa using hi
    unfold pieceM
    split
    · rename_i ho
      have hc := hp.cell hr (i : Int) (by omega) (by omega)
      have hc1 : 1 ≤ rd p.f0 (i : Int) := by
        have htu := hp.t
        unfold own at ho; split at ho <;> omega
      have hkn := knd_lt (rd p.f0 (i : Int)) (r.f3.length : Int) ⟨hc1, hc.2.2⟩
      obtain ⟨_, _, _, _, hw, hws⟩ := hr.pc _ (rdP_mem r.f3 (knd (rd p.f0 (i : Int))) hkn.1 hkn.2)
      have hb := flat_len (wayM r p (i : Int)) 7 _ (fun w hw => wayM_len r p (i : Int) w (by have := hws w hw; omega))
      omega
    · simp
  have h3 : ∀ l : List Nat, (∀ i ∈ l, (pieceM r p i).length ≤ 112) → (l.flatMap (pieceM r p)).length ≤ 112 * l.length := by
    intro l
    induction l with
    | nil => intro _; simp
    | cons x xs ih =>
      intro h
      rw [List.flatMap_cons, List.length_append, List.length_cons]
      have := ih (fun i hi => h i (by simp [hi])); have := h x (by simp); omega
  have h4 := h3 _ h2
  rw [List.length_range'] at h4
  omega
theorem legal_f (r : S26) (p : S29) (hr : VR r) (hp : VP r p) (m : S39) (hc : Ev (fun k => place_Check.f k r.f0 r.f1 r.f2 r.f3 r.f4 r.f5 r.f6 r.f7 r.f8 r.f9 r.f10 p.f0 p.f1.f0 p.f1.f1 p.f2 p.f3) 0) : Ev (fun k => moves_Legal.f k r.f0 r.f1 r.f2 r.f3 r.f4 r.f5 r.f6 r.f7 r.f8 r.f9 r.f10 p.f0 p.f1.f0 p.f1.f1 p.f2 p.f3 m.f0 m.f1 m.f2) (allowB r p m, 0) := by
  unfold moves_Legal.f
  refine Ev.bind hc ?_
  refine ite (fun _ => ?_) (fun h => absurd rfl h)
  refine Ev.bind (gen_f r p hr hp) ?_
  obtain ⟨b, hb, hm⟩ := cont_f (onceM (rawM r p)) m (Nat.le_trans (once_len _) (raw_len r p hr hp))
  rw [(once_spec _).2 m, mem_rawM r p hr hp m] at hm
  refine Ev.bind hb (now ?_)
  rw [Bool.eq_iff_iff.2 hm]
theorem legal_no (r : S26) (p : S29) (m : S39) (e : Int) (he : e ≠ 0) (hc : Ev (fun k => place_Check.f k r.f0 r.f1 r.f2 r.f3 r.f4 r.f5 r.f6 r.f7 r.f8 r.f9 r.f10 p.f0 p.f1.f0 p.f1.f1 p.f2 p.f3) e) : Ev (fun k => moves_Legal.f k r.f0 r.f1 r.f2 r.f3 r.f4 r.f5 r.f6 r.f7 r.f8 r.f9 r.f10 p.f0 p.f1.f0 p.f1.f1 p.f2 p.f3 m.f0 m.f1 m.f2) (false, e) := by
  unfold moves_Legal.f
  refine Ev.bind hc ?_
  exact ite (fun h => absurd h he) (fun _ => now rfl)
theorem all_f (r : S26) (p : S29) (hr : VR r) (hp : VP r p) (hc : Ev (fun k => place_Check.f k r.f0 r.f1 r.f2 r.f3 r.f4 r.f5 r.f6 r.f7 r.f8 r.f9 r.f10 p.f0 p.f1.f0 p.f1.f1 p.f2 p.f3) 0) : Ev (fun k => moves_All.f k r.f0 r.f1 r.f2 r.f3 r.f4 r.f5 r.f6 r.f7 r.f8 r.f9 r.f10 p.f0 p.f1.f0 p.f1.f1 p.f2 p.f3) (onceM (rawM r p), 0) := by
  unfold moves_All.f
  refine Ev.bind hc ?_
  refine ite (fun _ => ?_) (fun h => absurd rfl h)
  exact Ev.bind (gen_f r p hr hp) (now rfl)
/-! three in a row -/
def tic : S26 := ⟨⟨#[84, 73, 67]⟩, 3, 3, [⟨65, 5, 0, []⟩], List.replicate 9 0, false, false, [⟨0, 0, 3, false⟩], 2, 0, 0⟩
def beg : S29 := ⟨List.replicate 9 0, ⟨[5], [5]⟩, 0, 0⟩
theorem tic_v : VR tic := ⟨by decide, by decide, by decide, by decide +kernel, by decide +kernel, by decide +kernel, by decide⟩
theorem beg_v : VP tic beg := ⟨by decide, by decide +kernel, by decide, by decide, by decide, by decide, by decide, by decide⟩
set_option maxRecDepth 100000 in
theorem beg_f : Ev (fun k => place_Begin.f k tic.f0 tic.f1 tic.f2 tic.f3 tic.f4 tic.f5 tic.f6 tic.f7 tic.f8 tic.f9 tic.f10) (beg.f0, beg.f1.f0, beg.f1.f1, beg.f2, beg.f3, 0) := by
  exact Ev.of (fun k => place_Begin.mono _ _ _ _ _ _ _ _ _ _ _ k) (k := 400) (by decide +kernel)
set_option maxRecDepth 100000 in
theorem beg_c : Ev (fun k => place_Check.f k tic.f0 tic.f1 tic.f2 tic.f3 tic.f4 tic.f5 tic.f6 tic.f7 tic.f8 tic.f9 tic.f10 beg.f0 beg.f1.f0 beg.f1.f1 beg.f2 beg.f3) 0 := by
  exact Ev.of (fun k => place_Check.mono _ _ _ _ _ _ _ _ _ _ _ _ _ _ _ _ k) (k := 400) (by decide +kernel)
set_option maxRecDepth 100000 in
theorem beg_do : Ev (fun k => moves_Do.f k tic.f0 tic.f1 tic.f2 tic.f3 tic.f4 tic.f5 tic.f6 tic.f7 tic.f8 tic.f9 tic.f10 beg.f0 beg.f1.f0 beg.f1.f1 beg.f2 beg.f3 (-1) 4 0) ([0, 0, 0, 0, 1, 0, 0, 0, 0], [4], [5], 1, 0) := by
  exact Ev.of (fun k => moves_Do.mono _ _ _ _ _ _ _ _ _ _ _ _ _ _ _ _ _ _ _ k) (k := 400) (by decide +kernel)
theorem beg_l : (onceM (rawM tic beg)).length = 9 ∧ rd_T39 (onceM (rawM tic beg)) 8 = ⟨-1, 8, 0⟩ := by
  rw [gen_eq tic beg tic_v beg_v]
  exact ⟨by decide +kernel, by decide +kernel⟩
theorem plays_f : Ev (fun k => gamehalllaw1_plays.f k) true := by
  unfold gamehalllaw1_plays.f
  have T : gamehalllaw1_three.f = some (tic.f0, tic.f1, tic.f2, tic.f3, tic.f4, tic.f5, tic.f6, tic.f7, tic.f8, tic.f9, tic.f10) := rfl
  refine bind_now T ?_
  refine Ev.bind beg_f ?_
  refine bind_now T ?_
  refine Ev.bind (all_f tic beg tic_v beg_v beg_c) ?_
  refine bind_now T ?_
  refine bind_now (a := (-1, 4, 0)) rfl ?_
  have l4 := legal_f tic beg tic_v beg_v ⟨-1, 4, 0⟩ beg_c
  rw [show allowB tic beg ⟨-1, 4, 0⟩ = true by decide +kernel] at l4
  have l9 := legal_f tic beg tic_v beg_v ⟨-1, 9, 0⟩ beg_c
  rw [show allowB tic beg ⟨-1, 9, 0⟩ = false by decide +kernel] at l9
  have af : Ev (fun k => moves_After.f k tic.f0 tic.f1 tic.f2 tic.f3 tic.f4 tic.f5 tic.f6 tic.f7 tic.f8 tic.f9 tic.f10 beg.f0 beg.f1.f0 beg.f1.f1 beg.f2 beg.f3 (-1) 4 0) ([0, 0, 0, 0, 1, 0, 0, 0, 0], [4], [5], 1, 0, 0) := by
    unfold moves_After.f
    refine Ev.bind l4 ?_
    refine ite (fun _ => ?_) (fun h => absurd rfl h)
    refine ite (fun _ => ?_) (fun h => absurd rfl h)
    exact Ev.bind beg_do (now rfl)
  refine Ev.bind af ?_
  refine bind_now T ?_
  refine bind_now (a := (-1, 9, 0)) rfl ?_
  refine Ev.bind l9 ?_
  refine Ev.step (fun k => by rw [gamehalllaw1_plays.j0]) ?_
  obtain ⟨g1, g2⟩ := beg_l
  refine ite (fun _ => ?_) (fun h => absurd rfl h)
  refine ite (fun _ => ?_) (fun h => absurd rfl h)
  refine ite (fun _ => ?_) (fun h => absurd (by show ((onceM (rawM tic beg)).length : Int) = 9; rw [g1]; rfl) h)
  refine ite (fun _ => ?_) (fun h => absurd (by show (8 : Int) < ((onceM (rawM tic beg)).length : Int); rw [g1]; decide) h)
  refine bind_now (a := (-1, 8, 0)) rfl ?_
  refine ite (fun _ => ?_) (fun h => absurd (by show ((rd_T39 (onceM (rawM tic beg)) 8).f0 == (-1 : Int) && ((rd_T39 (onceM (rawM tic beg)) 8).f1 == (8 : Int) && ((rd_T39 (onceM (rawM tic beg)) 8).f2 == (0 : Int)))) = true; rw [g2]; decide) h)
  refine ite (fun _ => ?_) (fun h => absurd rfl h)
  refine ite (fun _ => ?_) (fun h => absurd rfl h)
  refine ite (fun _ => ?_) (fun h => absurd (by decide) h)
  refine ite (fun _ => ?_) (fun h => absurd rfl h)
  exact ite (fun _ => now rfl) (fun h => absurd rfl h)
end Co
end Go.Proofs.Ytloadbbndnmdlaa.Pure
