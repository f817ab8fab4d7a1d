/- moves.Do, moves.Legal and moves.After at valid positions (no reference). -/
import Derived.Test.YtkpphlimnnifkaaMoveOnce
import Derived.Test.YtkpphlimnnifkaaPlaceSide
namespace Go.Proofs.Ytkpphlimnnifkaa.Pure
open Go.RowKit Go.Proofs.Ytkpphlimnnifkaa.PClaimCounts Go.Proofs.YtkpphlimnnifkaaW.PrintWords Go.Proofs.YtkpphlimnnifkaaW.PrintLast
set_option linter.unusedSimpArgs false
set_option linter.unusedVariables false
namespace Co
open Aid
/-- what a move of the list is -/
structure LM (r : S26) (p : S41) (m : S38) : Prop where
  f : -1 ≤ m.f0 ∧ m.f0 < (p.f0.length : Int)
  t : 0 ≤ m.f1 ∧ m.f1 < (p.f0.length : Int)
  k : 0 ≤ m.f2 ∧ m.f2 < (r.f3.length : Int)
  put : m.f0 = -1 → rd (hand p) m.f2 > 0 ∧ rd p.f0 m.f1 = 0
theorem own_pos {r : S26} {p : S41} (hr : VR r) (hp : VP r p) (s : Int) (h0 : 0 ≤ s) (h1 : s < (p.f0.length : Int)) (ho : own (rd p.f0 s) = p.f2) : 1 ≤ rd p.f0 s ∧ rd p.f0 s ≤ 12 ∧ rd p.f0 s ≤ 2 * (r.f3.length : Int) ∧ rd p.f0 s = 2 * knd (rd p.f0 s) + p.f2 + 1 := by
  have hc := hp.cell hr s h0 h1
  have ht := hp.t
  unfold own at ho
  split at ho
  · omega
  · unfold knd; omega
theorem raw_lm (r : S26) (p : S41) (hr : VR r) (hp : VP r p) (m : S38) (h : m ∈ rawM r p) : LM r p m := by
  unfold rawM drops at h
  rw [List.mem_append] at h
  simp only [List.mem_flatMap, List.mem_range'_1] at h
  rcases h with ⟨t, ht, h⟩ | ⟨s, hs, h⟩
  · unfold dropK at h
    split at h
    · rename_i hn
      simp only [List.mem_flatMap, List.mem_range'_1] at h
      obtain ⟨s, hs, h⟩ := h
      unfold dropS at h
      split at h
      · rename_i ho
        unfold openB at ho
        simp only [Bool.and_eq_true, decide_eq_true_eq] at ho
        rw [List.mem_singleton.1 h]
        exact ⟨⟨by show (-1 : Int) ≤ -1; omega, by show (-1 : Int) < _; omega⟩, ⟨by show (0 : Int) ≤ (s : Int); omega, by show (s : Int) < _; omega⟩, ⟨by show (0 : Int) ≤ (t : Int); omega, by show (t : Int) < _; omega⟩, fun _ => ⟨hn, ho.1⟩⟩
      · cases h
    · cases h
  · unfold pieceM at h
    split at h
    · rename_i ho
      obtain ⟨w, hw, h⟩ := List.mem_flatMap.1 h
      unfold wayM at h
      obtain ⟨q, hq, e⟩ := List.mem_map.1 h
      obtain ⟨j, _, hb, hq2⟩ := ray_far r p _ _ _ _ _ _ _ hq
      have hn := hp.n
      have hs2 := sq_in hr hb
      have hc := own_pos hr hp (s : Int) (by omega) (by omega) ho
      have hk := knd_lt _ (r.f3.length : Int) ⟨hc.1, hc.2.2.1⟩
      rw [← e]
      exact ⟨⟨by show (-1 : Int) ≤ (s : Int); omega, by show (s : Int) < _; omega⟩, ⟨by show 0 ≤ q; rw [hq2]; exact hs2.2.2.1, by show q < _; rw [hq2, hn]; exact hs2.2.2.2⟩, arr_in r hr _ _ _ hk.1 hk.2, fun e => absurd e (by show (s : Int) ≠ -1; omega)⟩
    · cases h
theorem idx_f (l : List S38) (m : S38) (hl : l.length ≤ 100000) : ∀ (d i : Nat), i + d = l.length → ∃ v, Ev (fun k => api_Move_79.l0 k l (l.length : Int) (i : Int) m.f0 m.f1 m.f2) v ∧ (v ≥ 0 ↔ m ∈ l.drop i) := by
  intro d
  induction d with
  | zero =>
    intro i hi
    refine ⟨-1, Ev.step (fun k => by rw [api_Move_79.l0]) (ite (fun h => absurd h (by omega)) (fun _ => now rfl)), ?_⟩
    rw [List.drop_of_length_le (by omega)]; simp
  | succ d ih =>
    intro i hi
    have hi1 : i < l.length := by omega
    have hi2 : (i : Int) < (l.length : Int) := by omega
    obtain ⟨v, hv, hm⟩ := ih (i + 1) (by omega)
    have hwn : wrap64 ((i : Int) + 1) = ((i + 1 : Nat) : Int) := by rw [w64s (by omega) (by omega)]; omega
    rw [← hwn] at hv
    have hg : rd_T38 l (i : Int) = l[i] := by simp [rd_T38, List.getD_eq_getElem?_getD, hi1]
    rw [List.drop_eq_getElem_cons hi1, ← hg]
    by_cases he : m = rd_T38 l (i : Int)
    · refine ⟨(i : Int), Ev.step (fun k => by rw [api_Move_79.l0]) ?_, ?_⟩
      · refine ite (fun _ => ?_) (fun h => absurd hi2 h)
        refine ite (fun _ => ?_) (fun h => absurd (Int.natCast_nonneg _) h)
        refine ite (fun _ => ?_) (fun h => absurd hi2 h)
        exact ite (fun _ => now rfl) (fun h => absurd (by rw [← he]; simp) h)
      · exact ⟨fun _ => by rw [he]; simp, fun _ => by omega⟩
    · refine ⟨v, Ev.step (fun k => by rw [api_Move_79.l0]) ?_, ?_⟩
      · refine ite (fun _ => ?_) (fun h => absurd hi2 h)
        refine ite (fun _ => ?_) (fun h => absurd (Int.natCast_nonneg _) h)
        refine ite (fun _ => ?_) (fun h => absurd hi2 h)
        refine ite (fun h => absurd ?_ he) (fun _ => hv)
        simp only [Bool.and_eq_true, beq_iff_eq] at h
        generalize rd_T38 l (i : Int) = y at *
        cases m; cases y
        simp only [S38.mk.injEq]; exact h
      · rw [hm]; simp [he]
theorem cont_f (l : List S38) (m : S38) (hl : l.length ≤ 100000) : ∃ b : Bool, Ev (fun k => api_Move_64.f k l m.f0 m.f1 m.f2) b ∧ (b = true ↔ m ∈ l) := by
  obtain ⟨v, hv, hm⟩ := idx_f l m hl l.length 0 (by omega)
  refine ⟨decide (v ≥ 0), ?_, by rw [decide_eq_true_iff, hm, List.drop_zero]⟩
  unfold api_Move_64.f api_Move_79.f
  exact Ev.bind hv (now rfl)
def hd1 (p : S41) (m : S38) (h : List Int) : List Int := if m.f0 < 0 then h.set m.f2.toNat (rd h m.f2 - 1) else h
def hd2 (r : S26) (p : S41) (m : S38) (h : List Int) : List Int := if ¬ rd p.f0 m.f1 = 0 ∧ r.f6 = true then h.set (knd (rd p.f0 m.f1)).toNat (mn (rd h (knd (rd p.f0 m.f1)) + 1) 1000) else h
theorem clone_f (l : List Int) (h : l.length ≤ 100) : slices_Clone_int_int.f l = some l := by
  unfold slices_Clone_int_int.f
  have : ([] : List Int).length + l.length < 17592186044416 := by simp; omega
  show (if ([] : List Int).length + l.length < 17592186044416 then some ([] ++ l) else none) = some l
  rw [if_pos this]; rfl
def aq (p : S41) (m : S38) : Int := if rd p.f0 m.f1 > 0 ∨ m.f0 = -1 then 0 else if p.f3 + 1 > 200 then 200 else p.f3 + 1
def cDo (p : S41) (m : S38) : List Int := (if m.f0 < 0 then p.f0 else p.f0.set m.f0.toNat 0).set m.f1.toNat (2 * m.f2 + p.f2 + 1)
def aftP (r : S26) (p : S41) (m : S38) : S41 := ⟨cDo p m, ⟨if p.f2 = 0 then hd2 r p m (hd1 p m p.f1.f0) else p.f1.f0, if p.f2 = 0 then p.f1.f1 else hd2 r p m (hd1 p m p.f1.f1)⟩, 1 - p.f2, aq p m⟩
theorem do_f (r : S26) (p : S41) (hr : VR r) (hp : VP r p) (m : S38) (lm : LM r p m) : Ev (fun k => moves_Do.f k r.f0 r.f1 r.f2 r.f3 r.f4 r.f5 r.f6 r.f7 r.f8 r.f9 r.f10 p.f0 p.f1.f0 p.f1.f1 p.f2 p.f3 m.f0 m.f1 m.f2) ((aftP r p m).f0, (aftP r p m).f1.f0, (aftP r p m).f1.f1, (aftP r p m).f2, (aftP r p m).f3) := by
  have htt := hr.t
  have htu := hp.t
  have ht0 : 0 ≤ p.f2 := by omega
  have ht1 : p.f2 < 2 := by omega
  have hl := hp.len hr
  have hk := lm.k
  have hto := lm.t
  have hfr := lm.f
  have hq := hp.q
  have hc := hp.cell hr m.f1 lm.t.1 lm.t.2
  have h0l := hp.h0
  have h1l := hp.h1
  have hk0 : m.f2 < (p.f1.f0.length : Int) := by omega
  have hk1 : m.f2 < (p.f1.f1.length : Int) := by omega
  have cl : moves_Cell.f m.f2 p.f2 = some (2 * m.f2 + p.f2 + 1) := by
    unfold moves_Cell.f
    rw [w64 (n := 2 * m.f2) (by omega) (by omega), w64 (n := 2 * m.f2 + p.f2) (by omega) (by omega), w64 (by omega) (by omega)]
  have hw : wrap64 (1 - p.f2) = 1 - p.f2 := w64 (by omega) (by omega)
  have hwq : wrap64 (p.f3 + 1) = p.f3 + 1 := w64 (by omega) (by omega)
  have j3 : ∀ (c h0 h1 : List Int) (tu q : Int), c.length = p.f0.length → Ev (fun k => moves_Do.j3 k p.f0 p.f1.f0 p.f1.f1 p.f2 p.f3 m.f0 m.f1 m.f2 c h0 h1 tu q) (c.set m.f1.toNat (2 * m.f2 + p.f2 + 1), h0, h1, 1 - p.f2, q) := by
    intro c h0 h1 tu q hcl
    refine Ev.step (fun k => by rw [moves_Do.j3]) ?_
    refine bind_now cl ?_
    refine ite (fun _ => ?_) (fun h => absurd hto.1 h)
    refine ite (fun _ => now (by rw [hw])) (fun h => absurd (by omega) h)
  have rdw : ∀ h : List Int, (∀ c ∈ h, -1 ≤ c ∧ c ≤ 1000) → ∀ t, 0 ≤ t → t < (h.length : Int) → wrap64 (rd h t + 1) = rd h t + 1 ∧ wrap64 (rd h t - 1) = rd h t - 1 := by
    intro h hb t t0 t1
    have := hb _ (rd_mem h t t0 t1)
    exact ⟨w64 (by omega) (by omega), w64 (by omega) (by omega)⟩
  have j1 : ∀ (c h0 h1 : List Int) (tu q : Int), c.length = p.f0.length → h0.length = r.f3.length → h1.length = r.f3.length → (∀ c ∈ h0, -1 ≤ c ∧ c ≤ 1000) → (∀ c ∈ h1, -1 ≤ c ∧ c ≤ 1000) →
      Ev (fun k => moves_Do.j1 k r.f0 r.f1 r.f2 r.f3 r.f4 r.f5 r.f6 r.f7 r.f8 r.f9 r.f10 p.f0 p.f1.f0 p.f1.f1 p.f2 p.f3 m.f0 m.f1 m.f2 c h0 h1 tu q) (c.set m.f1.toNat (2 * m.f2 + p.f2 + 1), if p.f2 = 0 then hd2 r p m h0 else h0, if p.f2 = 0 then h1 else hd2 r p m h1, 1 - p.f2, if rd p.f0 m.f1 = 0 then q else 0) := by
    intro c h0 h1 tu q cl0 l0 l1 b0 b1
    refine Ev.step (fun k => by rw [moves_Do.j1]) ?_
    refine ite (fun _ => ?_) (fun h => absurd hto.1 h)
    refine ite (fun _ => ?_) (fun h => absurd hto.2 h)
    refine ite (fun hz => ?_) (fun hz => ?_)
    · have e : ∀ h, hd2 r p m h = h := by intro h; unfold hd2; rw [if_neg (fun hh => hh.1 hz)]
      refine ev_eq (j3 c h0 h1 tu q cl0) ?_
      rw [e, e, if_pos hz]; split <;> rfl
    · rw [if_neg (c := rd p.f0 m.f1 = 0) hz]
      have hkn := knd_lt (rd p.f0 m.f1) (r.f3.length : Int) ⟨by omega, hc.2.2⟩
      have kf := kind_f (rd p.f0 m.f1) ⟨by omega, hc.2.1⟩
      refine Ev.step (fun k => by rw [moves_Do.j2]) ?_
      refine ite (fun _ => ?_) (fun h => absurd ht0 h)
      refine ite (fun _ => ?_) (fun h => absurd ht1 h)
      refine ite (fun hp0 => ?_) (fun hp0 => ?_)
      · rw [if_pos hp0, if_pos hp0]
        refine ite (fun h6 => ?_) (fun h6 => ?_)
        · refine bind_now kf ?_
          refine bind_now kf ?_
          refine ite (fun _ => ?_) (fun h => absurd hkn.1 h)
          refine ite (fun _ => ?_) (fun h => absurd (by omega) h)
          refine ite (fun _ => ?_) (fun h => absurd hkn.1 h)
          refine ite (fun _ => ?_) (fun h => absurd (by omega) h)
          rw [(rdw h0 b0 _ hkn.1 (by omega)).1]
          refine ev_eq (j3 _ _ _ tu 0 cl0) ?_
          unfold hd2; rw [if_pos ⟨hz, h6⟩]
        · refine ev_eq (j3 _ _ _ tu 0 cl0) ?_
          unfold hd2; rw [if_neg (fun hh => h6 hh.2)]
      · rw [if_neg hp0, if_neg hp0]
        refine ite (fun h6 => ?_) (fun h6 => ?_)
        · refine bind_now kf ?_
          refine bind_now kf ?_
          refine ite (fun _ => ?_) (fun h => absurd hkn.1 h)
          refine ite (fun _ => ?_) (fun h => absurd (by omega) h)
          refine ite (fun _ => ?_) (fun h => absurd hkn.1 h)
          refine ite (fun _ => ?_) (fun h => absurd (by omega) h)
          rw [(rdw h1 b1 _ hkn.1 (by omega)).1]
          refine ev_eq (j3 _ _ _ tu 0 cl0) ?_
          unfold hd2; rw [if_pos ⟨hz, h6⟩]
        · refine ev_eq (j3 _ _ _ tu 0 cl0) ?_
          unfold hd2; rw [if_neg (fun hh => h6 hh.2)]
  have hmq : mn (p.f3 + 1) 200 = if p.f3 + 1 > 200 then 200 else p.f3 + 1 := by
    unfold mn; (repeat' split) <;> omega
  have B0 : ∀ c ∈ p.f1.f0, -1 ≤ c ∧ c ≤ 1000 := fun c h => by have := hp.b0 c h; omega
  have B1 : ∀ c ∈ p.f1.f1, -1 ≤ c ∧ c ≤ 1000 := fun c h => by have := hp.b1 c h; omega
  have hset : ∀ (h : List Int), (∀ c ∈ h, 0 ≤ c ∧ c ≤ 1000) → m.f2 < (h.length : Int) → ∀ c ∈ h.set m.f2.toNat (rd h m.f2 - 1), -1 ≤ c ∧ c ≤ 1000 := by
    intro h hb hm c hc
    rcases List.mem_or_eq_of_mem_set hc with hc | hc
    · have := hb c hc; omega
    · have := hb _ (rd_mem h m.f2 hk.1 hm); omega
  unfold moves_Do.f place_Copy.f
  rw [clone_f p.f0 (by omega), clone_f p.f1.f0 (by omega), clone_f p.f1.f1 (by omega)]
  refine bind_now (a := (p.f0, p.f1.f0, p.f1.f1, p.f2, p.f3)) rfl ?_
  rw [hwq, hmq]
  refine Ev.step (fun k => by rw [moves_Do.j0]) ?_
  refine ite (fun h => ?_) (fun h => ?_)
  · have hf : m.f0 = -1 := by omega
    have hz := (lm.put hf).2
    refine ite (fun _ => ?_) (fun h => absurd ht0 h)
    refine ite (fun _ => ?_) (fun h => absurd ht1 h)
    refine ite (fun hp0 => ?_) (fun hp0 => ?_)
    · refine ite (fun _ => ?_) (fun h => absurd hk.1 h)
      refine ite (fun _ => ?_) (fun h => absurd hk0 h)
      rw [(rdw _ B0 _ hk.1 hk0).2]
      refine ev_eq (j1 _ _ _ p.f2 0 rfl (by rw [List.length_set]; exact h0l) h1l (hset _ hp.b0 hk0) B1) ?_
      unfold aftP aq cDo hd1
      simp only [if_pos hp0, if_pos h, if_pos hz, if_pos (Or.inr hf : rd p.f0 m.f1 > 0 ∨ m.f0 = -1)]
    · refine ite (fun _ => ?_) (fun h => absurd hk.1 h)
      refine ite (fun _ => ?_) (fun h => absurd hk1 h)
      rw [(rdw _ B1 _ hk.1 hk1).2]
      refine ev_eq (j1 _ _ _ p.f2 0 rfl h0l (by rw [List.length_set]; exact h1l) B0 (hset _ hp.b1 hk1)) ?_
      unfold aftP aq cDo hd1
      simp only [if_neg hp0, if_pos h, if_pos hz, if_pos (Or.inr hf : rd p.f0 m.f1 > 0 ∨ m.f0 = -1)]
  · have hf : ¬ m.f0 = -1 := by omega
    refine ite (fun _ => ?_) (fun h => absurd (by omega) h)
    refine ite (fun _ => ?_) (fun h => absurd hfr.2 h)
    refine ev_eq (j1 _ _ _ p.f2 _ (by rw [List.length_set]) h0l h1l B0 B1) ?_
    have hqq : (if rd p.f0 m.f1 = 0 then (if p.f3 + 1 > 200 then 200 else p.f3 + 1) else 0) = aq p m := by
      unfold aq
      by_cases hz : rd p.f0 m.f1 = 0
      · rw [if_pos hz, if_neg (c := rd p.f0 m.f1 > 0 ∨ m.f0 = -1) (fun hh => hh.elim (fun h => by omega) hf)]
      · rw [if_neg hz, if_pos (c := rd p.f0 m.f1 > 0 ∨ m.f0 = -1) (Or.inl (by omega))]
    unfold aftP cDo hd1
    simp only [if_neg h, hqq]

/-! the position behind a move is valid -/
theorem hd1_in (p : S41) (m : S38) (xs : List Int) (n : Nat) (hl : xs.length = n) (hb : ∀ c ∈ xs, 0 ≤ c ∧ c ≤ 1000) (hk : 0 ≤ m.f2 ∧ m.f2 < (n : Int)) (hg : m.f0 < 0 → rd xs m.f2 > 0) : (hd1 p m xs).length = n ∧ ∀ c ∈ hd1 p m xs, 0 ≤ c ∧ c ≤ 1000 := by
  unfold hd1
  split
  · rename_i h0
    refine ⟨by rw [List.length_set]; exact hl, fun c hc => ?_⟩
    rcases List.mem_or_eq_of_mem_set hc with hc | hc
    · exact hb c hc
    · have := hb _ (rd_mem xs m.f2 hk.1 (by omega)); have := hg h0; omega
  · exact ⟨hl, hb⟩
theorem hd2_in (r : S26) (p : S41) (m : S38) (xs : List Int) (n : Nat) (hl : xs.length = n) (hb : ∀ c ∈ xs, 0 ≤ c ∧ c ≤ 1000) (hk : ¬ rd p.f0 m.f1 = 0 → 0 ≤ knd (rd p.f0 m.f1) ∧ knd (rd p.f0 m.f1) < (n : Int)) : (hd2 r p m xs).length = n ∧ ∀ c ∈ hd2 r p m xs, 0 ≤ c ∧ c ≤ 1000 := by
  unfold hd2
  split
  · rename_i h0
    have hk := hk h0.1
    refine ⟨by rw [List.length_set]; exact hl, fun c hc => ?_⟩
    rcases List.mem_or_eq_of_mem_set hc with hc | hc
    · exact hb c hc
    · have := hb _ (rd_mem xs (knd (rd p.f0 m.f1)) hk.1 (by omega))
      rw [hc]; unfold mn; split <;> omega
  · exact ⟨hl, hb⟩
theorem aft_vp (r : S26) (p : S41) (hr : VR r) (hp : VP r p) (m : S38) (lm : LM r p m) : VP r (aftP r p m) := by
  have hc := hp.cell hr m.f1 lm.t.1 lm.t.2
  have hk := lm.k
  have htu := hp.t
  have hq := hp.q
  have hkn : ¬ rd p.f0 m.f1 = 0 → 0 ≤ knd (rd p.f0 m.f1) ∧ knd (rd p.f0 m.f1) < (r.f3.length : Int) := fun h => knd_lt _ _ ⟨by omega, hc.2.2⟩
  have hput : m.f0 < 0 → rd (hand p) m.f2 > 0 := fun h => (lm.put (by have := lm.f; omega)).1
  have hcell : ∀ c ∈ cDo p m, 0 ≤ c ∧ c ≤ 2 * (r.f3.length : Int) := by
    intro c hm
    unfold cDo at hm
    rcases List.mem_or_eq_of_mem_set hm with hm | hm
    · split at hm
      · exact hp.c c hm
      · rcases List.mem_or_eq_of_mem_set hm with hm | hm
        · exact hp.c c hm
        · omega
    · omega
  have hlen : (cDo p m).length = p.f0.length := by unfold cDo; rw [List.length_set]; split; rfl; rw [List.length_set]
  have hqn : 0 ≤ aq p m ∧ aq p m ≤ 200 := by unfold aq; (repeat' split) <;> omega
  by_cases h0 : p.f2 = 0
  · have a1 := hd1_in p m p.f1.f0 r.f3.length hp.h0 hp.b0 hk (fun h => by have := hput h; unfold hand at this; rw [if_pos h0] at this; exact this)
    have a2 := hd2_in r p m _ r.f3.length a1.1 a1.2 hkn
    unfold aftP
    simp only [if_pos h0]
    exact ⟨by show ((cDo p m).length : Int) = _; rw [hlen]; exact hp.n, hcell, a2.1, hp.h1, a2.2, hp.b1, by show 1 - p.f2 = 0 ∨ 1 - p.f2 = 1; omega, hqn⟩
  · have a1 := hd1_in p m p.f1.f1 r.f3.length hp.h1 hp.b1 hk (fun h => by have := hput h; unfold hand at this; rw [if_neg h0] at this; exact this)
    have a2 := hd2_in r p m _ r.f3.length a1.1 a1.2 hkn
    unfold aftP
    simp only [if_neg h0]
    exact ⟨by show ((cDo p m).length : Int) = _; rw [hlen]; exact hp.n, hcell, hp.h0, a2.1, hp.b0, a2.2, by show 1 - p.f2 = 0 ∨ 1 - p.f2 = 1; omega, hqn⟩
/-! a move is made or refused -/
theorem check_ok (r : S26) (p : S41) (hr : VR r) (hc : Ev (fun k => rules_Check.f k r.f0 r.f1 r.f2 r.f3 r.f4 r.f5 r.f6 r.f7 r.f8 r.f9 r.f10) 0) (hp : VP r p) : Ev (fun k => place_Check.f k r.f0 r.f1 r.f2 r.f3 r.f4 r.f5 r.f6 r.f7 r.f8 r.f9 r.f10 p.f0 p.f1.f0 p.f1.f1 p.f2 p.f3) 0 := by
  have hl := hp.len hr
  have ht := hr.t
  have wfi : ∀ c : Int, 0 ≤ c → c ≤ 1000 → (Lit.int .i64 c).wf = true := fun c h0 h1 => by simp [Lit.wf, IntKind.min, IntKind.max, IntKind.bits, IntKind.signed]; omega
  have h0 := hp.h0
  have h1 := hp.h1
  have htu := hp.t
  have hq := hp.q
  have hw : wf41 p := ⟨⟨by omega, fun y hy => by have := hp.c y hy; exact wfi y this.1 (by omega)⟩, ⟨⟨by omega, fun y hy => by have := hp.b0 y hy; exact wfi y this.1 this.2⟩, ⟨by omega, fun y hy => by have := hp.b1 y hy; exact wfi y this.1 this.2⟩⟩, wfi _ (by omega) (by omega), wfi _ hq.1 (by omega)⟩
  refine ev_eq (check_pl r p hw 0 hc (fun _ => hr)) ?_
  rw [if_pos rfl]
  unfold placeE
  have ci : ∀ (n : Int) (c : Int), 0 ≤ c ∧ c ≤ n → inC n c = true := fun n c h => decide_eq_true h
  rw [if_pos (show lensB r p from ⟨hp.n, by omega, by omega⟩), if_pos ?_]
  unfold goodB lastP
  simp only [Bool.and_eq_true, List.all_eq_true, decide_eq_true_eq]
  exact ⟨⟨fun c h => ci _ c (hp.c c h), fun c h => ci _ c (hp.b0 c h), fun c h => ci _ c (hp.b1 c h)⟩, hp.t, hp.q⟩
theorem after_f (r : S26) (p : S41) (hr : VR r) (hc : Ev (fun k => rules_Check.f k r.f0 r.f1 r.f2 r.f3 r.f4 r.f5 r.f6 r.f7 r.f8 r.f9 r.f10) 0) (hp : VP r p) (m : S38) :
    Ev (fun k => moves_After.f k r.f0 r.f1 r.f2 r.f3 r.f4 r.f5 r.f6 r.f7 r.f8 r.f9 r.f10 p.f0 p.f1.f0 p.f1.f1 p.f2 p.f3 m.f0 m.f1 m.f2) ([], [], [], 0, 0, 13) ∨ (LM r p m ∧ VP r (aftP r p m) ∧ Ev (fun k => moves_After.f k r.f0 r.f1 r.f2 r.f3 r.f4 r.f5 r.f6 r.f7 r.f8 r.f9 r.f10 p.f0 p.f1.f0 p.f1.f1 p.f2 p.f3 m.f0 m.f1 m.f2) ((aftP r p m).f0, (aftP r p m).f1.f0, (aftP r p m).f1.f1, (aftP r p m).f2, (aftP r p m).f3, 0)) := by
  obtain ⟨b, hb, hm⟩ := cont_f (onceM (rawM r p)) m (Nat.le_trans (once_len _) (raw_len r p hr hp))
  rw [(once_spec _).2 m] at hm
  have hl : Ev (fun k => moves_Legal.f k r.f0 r.f1 r.f2 r.f3 r.f4 r.f5 r.f6 r.f7 r.f8 r.f9 r.f10 p.f0 p.f1.f0 p.f1.f1 p.f2 p.f3 m.f0 m.f1 m.f2) (b, 0) := by
    unfold moves_Legal.f
    refine Ev.bind (check_ok r p hr hc hp) ?_
    refine ite (fun _ => ?_) (fun h => absurd rfl h)
    exact Ev.bind (gen_f r p hr hp) (Ev.bind hb (now rfl))
  cases b
  · left
    unfold moves_After.f
    refine Ev.bind hl ?_
    refine ite (fun _ => ?_) (fun h => absurd rfl h)
    exact ite (fun h => absurd h (by decide)) (fun _ => now rfl)
  · right
    have lm := raw_lm r p hr hp m (hm.1 rfl)
    refine ⟨lm, aft_vp r p hr hp m lm, ?_⟩
    unfold moves_After.f
    refine Ev.bind hl ?_
    refine ite (fun _ => ?_) (fun h => absurd rfl h)
    refine ite (fun _ => ?_) (fun h => absurd rfl h)
    exact Ev.bind (do_f r p hr hp m lm) (now rfl)
end Co
end Go.Proofs.Ytkpphlimnnifkaa.Pure
