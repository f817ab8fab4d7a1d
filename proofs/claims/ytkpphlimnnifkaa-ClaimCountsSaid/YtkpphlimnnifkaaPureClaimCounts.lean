/- ClaimCounts: repetitions and quiet moves. -/
import Derived.Test.YtkpphlimnnifkaaPlainPure
namespace Go.Proofs.Ytkpphlimnnifkaa.Pure
open Go.RowKit Go.Proofs.Ytkpphlimnnifkaa.PClaimCounts Go.Proofs.YtkpphlimnnifkaaW.PrintWords Go.Proofs.YtkpphlimnnifkaaW.PrintLast
set_option linter.unusedSimpArgs false
set_option linter.unusedVariables false
namespace Co
open Aid
theorem rdO0 (p : S41) (qs : List S41) : rd_T41 (p :: qs) ((0 : Nat) : Int) = p := by simp [rd_T41]
theorem rdOs (p : S41) (qs : List S41) (n : Nat) : rd_T41 (p :: qs) ((n + 1 : Nat) : Int) = rd_T41 qs (n : Int) := by
  unfold rd_T41; rw [Int.toNat_natCast, Int.toNat_natCast, List.getD_cons_succ]
theorem rdM0 (p : S38) (qs : List S38) : rd_T38 (p :: qs) ((0 : Nat) : Int) = p := by simp [rd_T38]
theorem rdMs (p : S38) (qs : List S38) (n : Nat) : rd_T38 (p :: qs) ((n + 1 : Nat) : Int) = rd_T38 qs (n : Int) := by
  unfold rd_T38; rw [Int.toNat_natCast, Int.toNat_natCast, List.getD_cons_succ]
/-- what a record's positions are, by their places -/
def At (r : S26) (l : List S38) (ps : List S41) (i : Nat) : Prop := LM r (rd_T41 ps (i : Int)) (rd_T38 l (i : Int)) ∧ rd_T41 ps ((i + 1 : Nat) : Int) = aftP r (rd_T41 ps (i : Int)) (rd_T38 l (i : Int))
theorem steps_at (r : S26) : ∀ (l : List S38) (p : S41) (qs : List S41), Steps r p l qs → ∀ i, i < l.length → At r l (p :: qs) i
  | [], _, _, _, i, hi => absurd hi (Nat.not_lt_zero _)
  | m :: l, p, qs, st, i, hi => by
    obtain ⟨q, qs', rfl, lm, hq, st⟩ := st
    cases i with
    | zero =>
      unfold At
      rw [rdO0, rdM0, rdOs, rdO0]
      exact ⟨lm, hq⟩
    | succ i =>
      have := steps_at r l q qs' st i (by simpa using hi)
      unfold At at this ⊢
      rw [rdOs, rdMs, rdOs]
      exact this
/-! claim.Repeats -/
theorem rep_l1 (r : S26) (hr : VR r) (l : List S38) (ps : List S41) (hn : ps.length = l.length + 1) (hl : l.length ≤ 400) (hv : ∀ p ∈ ps, VP r p) : ∀ (d i : Nat) (n : Int), i + d = ps.length → 0 ≤ n → n ≤ i → Ev (fun k => claim_Repeats.l1 k l ps n (ps.length : Int) (i : Int)) (n + cntP (PClaimCounts.lastP ps) (ps.drop i), 0) := by
  have hla := last_at ps l.length hn
  intro d
  induction d with
  | zero =>
    intro i n hi n0 n1
    rw [List.drop_of_length_le (by omega)]
    refine Ev.step (fun k => by rw [claim_Repeats.l1]) ?_
    exact ite (fun h => absurd h (by omega)) (fun _ => now (by simp [cntP]))
  | succ d ih =>
    intro i n hi n0 n1
    have hi1 : i < ps.length := by omega
    have e1 := ih (i + 1) (n + 1) (by omega) (by omega) (by omega)
    have e2 := ih (i + 1) n (by omega) (by omega) (by omega)
    rw [List.drop_eq_getElem_cons hi1, cntP_cons, ← rdO ps i hi1]
    refine Ev.step (fun k => by rw [claim_Repeats.l1]) ?_
    rw [wn1 i (by omega), w64 (n := n + 1) (by omega) (by omega), ← hla]
    refine ite (fun _ => ?_) (fun h => absurd (by omega) h)
    refine ite (fun _ => ?_) (fun h => absurd (Int.natCast_nonneg _) h)
    refine ite (fun _ => ?_) (fun h => absurd (by omega) h)
    refine ite (fun _ => ?_) (fun h => absurd (by omega) h)
    refine ite (fun _ => ?_) (fun h => absurd (by omega) h)
    refine Ev.bind (same_ev r hr _ (PClaimCounts.lastP ps) (hv _ (by rw [rdO ps i hi1]; exact List.getElem_mem _))) ?_
    refine ite (fun h => ?_) (fun h => ?_)
    · rw [if_pos h]; exact ev_eq e1 (by rw [Int.add_assoc])
    · rw [if_neg h]; exact ev_eq e2 (by rw [Int.zero_add])
theorem rep_l0 (r : S26) (hr : VR r) (l : List S38) (ps : List S41) (hn : ps.length = l.length + 1) (hl : l.length ≤ 400) (hv : ∀ p ∈ ps, VP r p) (st : ∀ i, i < l.length → At r l ps i) : ∀ (d i : Nat), i + d = l.length → Ev (fun k => claim_Repeats.l0 k l (ps.take (i + 1)) l (l.length : Int) (i : Int) r.f0 r.f1 r.f2 r.f3 r.f4 r.f5 r.f6 r.f7 r.f8 r.f9 r.f10) (cntP (PClaimCounts.lastP ps) ps, 0) := by
  intro d
  induction d with
  | zero =>
    intro i hi
    rw [List.take_of_length_le (by omega)]
    refine Ev.step (fun k => by rw [claim_Repeats.l0]) ?_
    refine ite (fun h => absurd h (by omega)) (fun _ => ?_)
    exact ev_eq (rep_l1 r hr l ps hn hl hv ps.length 0 0 (by omega) (by omega) (by omega)) (by simp)
  | succ d ih =>
    intro i hi
    have hi1 : i < l.length := by omega
    have hi2 : i + 1 < ps.length := by omega
    obtain ⟨lm, hq⟩ := st i hi1
    have hlt : (ps.take (i + 1)).length = i + 1 := by rw [List.length_take]; omega
    have hg : rd_T41 (ps.take (i + 1)) (i : Int) = rd_T41 ps (i : Int) := by
      rw [rdO _ i (by omega), rdO ps i (by omega)]; simp
    have hp : VP r (rd_T41 ps (i : Int)) := hv _ (by rw [rdO ps i (by omega)]; exact List.getElem_mem _)
    have e := ih (i + 1) (by omega)
    have ht : ps.take (i + 1 + 1) = ps.take (i + 1) ++ [aftP r (rd_T41 ps (i : Int)) (rd_T38 l (i : Int))] := by
      rw [← hq, rdO ps (i + 1) hi2, List.take_succ_eq_append_getElem hi2]
    rw [ht] at e
    refine Ev.step (fun k => by rw [claim_Repeats.l0]) ?_
    rw [wn1 i (by omega), hg, hlt]
    refine ite (fun _ => ?_) (fun h => absurd (by omega) h)
    refine ite (fun _ => ?_) (fun h => absurd (Int.natCast_nonneg _) h)
    refine ite (fun _ => ?_) (fun h => absurd (by omega) h)
    refine ite (fun _ => ?_) (fun h => absurd (by omega) h)
    refine Ev.bind (do_f r _ hr hp _ lm) ?_
    exact ite (fun _ => e) (fun h => absurd (by omega) h)
theorem rep_ev (r : S26) (hr : VR r) (l : List S38) (hl : l.length ≤ 400) (qs : List S41) (hn : qs.length = l.length) (hv : ∀ p ∈ p0 r :: qs, VP r p) (st : Steps r (p0 r) l qs) {a b c : List Int} {t q x : Int} (run : Ev (fun k => plain_Run.f k r.f0 r.f1 r.f2 r.f3 r.f4 r.f5 r.f6 r.f7 r.f8 r.f9 r.f10 l) (a, b, c, t, q, x, 0)) : Ev (fun k => claim_Repeats.f k r.f0 r.f1 r.f2 r.f3 r.f4 r.f5 r.f6 r.f7 r.f8 r.f9 r.f10 l) (cntP (PClaimCounts.lastP (p0 r :: qs)) (p0 r :: qs), 0) := by
  unfold claim_Repeats.f
  refine Ev.bind run ?_
  refine ite (fun _ => ?_) (fun h => absurd rfl h)
  refine Ev.bind (fr_f r hr) ?_
  exact rep_l0 r hr l (p0 r :: qs) (by simp [hn]) hl hv (steps_at r l _ _ st) l.length 0 (by omega)
theorem rep_no (r : S26) (l : List S38) (e : Int) (he : e ≠ 0) (run : Ev (fun k => plain_Run.f k r.f0 r.f1 r.f2 r.f3 r.f4 r.f5 r.f6 r.f7 r.f8 r.f9 r.f10 l) ([], [], [], 0, 0, 0, e)) : Ev (fun k => claim_Repeats.f k r.f0 r.f1 r.f2 r.f3 r.f4 r.f5 r.f6 r.f7 r.f8 r.f9 r.f10 l) (0, e) ∧ Ev (fun k => claim_Quiet.f k r.f0 r.f1 r.f2 r.f3 r.f4 r.f5 r.f6 r.f7 r.f8 r.f9 r.f10 l) (0, e) := by
  constructor
  · unfold claim_Repeats.f
    exact Ev.bind run (ite (fun h => absurd h he) (fun _ => now rfl))
  · unfold claim_Quiet.f
    exact Ev.bind run (ite (fun h => absurd h he) (fun _ => now rfl))
/-! three in a row, no moves -/
def ticR : S26 := ⟨⟨#[84, 73, 67]⟩, 3, 3, [⟨83, 5, 0, []⟩], List.replicate 9 0, false, false, [⟨0, 0, 3, false⟩], 2, 0, 0⟩
theorem ticR_v : VR ticR := ⟨by decide, by decide, by decide, by decide +kernel, by decide +kernel, by decide +kernel, by decide⟩
set_option maxRecDepth 100000 in
theorem ticR_c : Ev (fun k => rules_Check.f k ticR.f0 ticR.f1 ticR.f2 ticR.f3 ticR.f4 ticR.f5 ticR.f6 ticR.f7 ticR.f8 ticR.f9 ticR.f10) 0 := by
  exact Ev.of (fun k => rules_Check.mono _ _ _ _ _ _ _ _ _ _ _ k) (k := 400) (by decide +kernel)
theorem claims_f : Ev (fun k => gamehalllaw3_claims.f k) true := by
  have hv : ∀ p ∈ p0 ticR :: [], VP ticR p := fun p hp => by rw [List.mem_singleton.1 hp]; exact p0_v ticR ticR_v
  have run : Ev (fun k => plain_Run.f k ticR.f0 ticR.f1 ticR.f2 ticR.f3 ticR.f4 ticR.f5 ticR.f6 ticR.f7 ticR.f8 ticR.f9 ticR.f10 []) ((PClaimCounts.lastP [p0 ticR]).f0, (PClaimCounts.lastP [p0 ticR]).f1.f0, (PClaimCounts.lastP [p0 ticR]).f1.f1, (PClaimCounts.lastP [p0 ticR]).f2, (PClaimCounts.lastP [p0 ticR]).f3, resB ticR [p0 ticR], 0) := by
    unfold plain_Run.f pl_all
    refine Ev.bind (begin_f ticR ticR_v ticR_c) ?_
    refine ite (fun _ => ?_) (fun h => absurd rfl h)
    refine Ev.bind (copied_f ticR ticR_v) ?_
    refine Ev.bind (a := ([p0 ticR], 0)) (by unfold pl_run; exact now rfl) ?_
    exact end_ev ticR ticR_v [p0 ticR] hv (by simp) (by simp)
  have rep := rep_ev ticR ticR_v [] (by simp) [] rfl hv rfl run
  have hc : cntP (PClaimCounts.lastP [p0 ticR]) [p0 ticR] = 1 := by
    rw [cntP_cons, last_at [p0 ticR] 0 rfl, rdO0, if_pos (sameB_self _)]; rfl
  rw [hc] at rep
  unfold gamehalllaw3_claims.f
  have T : gamehalllaw3_tic.f = some (ticR.f0, ticR.f1, ticR.f2, ticR.f3, ticR.f4, ticR.f5, ticR.f6, ticR.f7, ticR.f8, ticR.f9, ticR.f10) := by
    unfold gamehalllaw3_tic.f; rw [if_pos (by decide)]; rfl
  refine bind_now T ?_
  refine Ev.bind rep ?_
  exact ite (fun _ => now rfl) (fun h => absurd rfl h)
/-! the law -/
theorem law_l0 (r : S26) (hr : VR r) (l : List S38) (ps : List S41) (hn : ps.length = l.length + 1) (hl : l.length ≤ 40) (hv : ∀ p ∈ ps, VP r p) (st : ∀ i, i < l.length → At r l ps i) : ∀ (d i : Nat), i + d = l.length → (rd_T41 ps (i : Int)).f3 ≤ (i : Int) →
    Ev (fun k => gamehalllaw3_ClaimCounts.l0 k l (cntP (PClaimCounts.lastP ps) ps) 0 (PClaimCounts.lastP ps).f3 0 ps (rd_T41 ps (i : Int)).f3 (l.length : Int) (i : Int)) true := by
  intro d
  induction d with
  | zero =>
    intro i hi hq
    refine Ev.step (fun k => by rw [gamehalllaw3_ClaimCounts.l0]) ?_
    refine ite (fun h => absurd h (by omega)) (fun _ => ?_)
    refine ite (fun _ => ?_) (fun h => absurd rfl h)
    refine Ev.bind (times_ev r hr ps hv (by omega) (by omega)) ?_
    refine ite (fun _ => ?_) (fun h => absurd rfl h)
    refine ite (fun _ => now ?_) (fun h => absurd rfl h)
    rw [last_at ps i (by omega)]; exact beq_self_eq_true _
  | succ d ih =>
    intro i hi hq
    have hi1 : i < l.length := by omega
    obtain ⟨lm, hx⟩ := st i hi1
    have hp : VP r (rd_T41 ps (i : Int)) := hv _ (by rw [rdO ps i (by omega)]; exact List.getElem_mem _)
    have hc := hp.cell hr _ lm.t.1 lm.t.2
    have hpq := hp.q
    have e := ih (i + 1) (by omega)
    rw [hx] at e
    have ha : (aftP r (rd_T41 ps (i : Int)) (rd_T38 l (i : Int))).f3 = aq (rd_T41 ps (i : Int)) (rd_T38 l (i : Int)) := rfl
    rw [ha] at e
    have hf := lm.f
    refine Ev.step (fun k => by rw [gamehalllaw3_ClaimCounts.l0]) ?_
    rw [wn1 i (by omega)]
    refine ite (fun _ => ?_) (fun h => absurd (by omega) h)
    refine ite (fun _ => ?_) (fun h => absurd (Int.natCast_nonneg _) h)
    refine ite (fun _ => ?_) (fun h => absurd (by omega) h)
    refine ite (fun h => ?_) (fun h => ?_)
    · have h0 : aq (rd_T41 ps (i : Int)) (rd_T38 l (i : Int)) = 0 := by unfold aq; rw [if_pos (.inr (by omega))]
      rw [h0] at e
      exact e (by omega)
    · refine ite (fun _ => ?_) (fun h => absurd (by omega) h)
      refine ite (fun _ => ?_) (fun h => absurd lm.t.1 h)
      refine ite (fun _ => ?_) (fun h => absurd lm.t.2 h)
      refine ite (fun h2 => ?_) (fun h2 => ?_)
      · have h0 : aq (rd_T41 ps (i : Int)) (rd_T38 l (i : Int)) = (rd_T41 ps (i : Int)).f3 + 1 := by unfold aq; rw [if_neg (fun hh => hh.elim (fun q => by omega) (fun q => by omega)), if_neg (by omega)]
        rw [h0] at e
        rw [w64 (by omega) (by omega)]
        exact e (by omega)
      · have h0 : aq (rd_T41 ps (i : Int)) (rd_T38 l (i : Int)) = 0 := by unfold aq; rw [if_pos (.inl (by omega))]
        rw [h0] at e
        exact e (by omega)
theorem law_f (r : S26) (l : List S38) (hw : wf26 r) : Ev (fun k => gamehalllaw3_ClaimCounts.f k r.f0 r.f1 r.f2 r.f3 r.f4 r.f5 r.f6 r.f7 r.f8 r.f9 r.f10 l) true := by
  unfold gamehalllaw3_ClaimCounts.f
  refine Ev.bind claims_f ?_
  refine ite (fun _ => ?_) (fun h => absurd rfl h)
  obtain ⟨l', hcut, hl⟩ : ∃ l', gamehalllaw3_cut.f l = some l' ∧ l'.length ≤ 40 := by
    unfold gamehalllaw3_cut.f
    have h1 : 0 ≤ mn (l.length : Int) 40 ∧ mn (l.length : Int) 40 ≤ (l.length : Int) ∧ mn (l.length : Int) 40 ≤ 40 := by unfold mn; split <;> omega
    rw [if_pos h1.1, if_pos h1.2.1]
    exact ⟨_, rfl, by rw [List.length_take]; omega⟩
  refine bind_now hcut ?_
  refine bind_now (a := decide ((r.f4.length : Int) > 20)) rfl ?_
  refine ite (fun _ => now rfl) (fun _ => ?_)
  rcases game_ev r hw l' (by omega) with ⟨e, he, run, pl⟩ | ⟨hr, hc, qs, hn, hv, st, run, pl⟩
  · obtain ⟨a, b⟩ := rep_no r l' e he run
    refine Ev.bind a (Ev.bind b (Ev.bind pl ?_))
    refine ite (fun h => absurd h he) (fun _ => ?_)
    refine ite (fun _ => ?_) (fun h => absurd rfl h)
    refine ite (fun _ => now ?_) (fun h => absurd rfl h)
    show (wrap64 (0 + 0) == 0) = true
    decide +kernel
  · have a := rep_ev r hr l' (by omega) qs hn hv st run
    have b : Ev (fun k => claim_Quiet.f k r.f0 r.f1 r.f2 r.f3 r.f4 r.f5 r.f6 r.f7 r.f8 r.f9 r.f10 l') ((PClaimCounts.lastP (p0 r :: qs)).f3, 0) := by
      unfold claim_Quiet.f
      exact Ev.bind run (ite (fun _ => now rfl) (fun h => absurd rfl h))
    refine Ev.bind a (Ev.bind b (Ev.bind pl ?_))
    refine ite (fun _ => ?_) (fun h => absurd rfl h)
    have := law_l0 r hr l' (p0 r :: qs) (by simp [hn]) hl hv (steps_at r l' _ _ st) l'.length 0 (by omega) (by rw [rdO0]; exact Int.le_refl 0)
    rw [rdO0] at this
    exact this
end Co
theorem ClaimCounts : gamehalllaw3_ClaimCounts.Pure := fun x l hx _ => (Co.law_f x l hx).rounds
end Go.Proofs.Ytkpphlimnnifkaa.Pure
