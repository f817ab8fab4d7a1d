/- ZobKeys: the plain law. -/
import Derived.Test.YtloadbbndnmdlaaZobNext
namespace Go.Proofs.Ytloadbbndnmdlaa.Pure
open Go.RowKit Go.Proofs.Ytloadbbndnmdlaa.PZobKeys Go.Proofs.YtloadbbndnmdlaaW.PrintWords Go.Proofs.YtloadbbndnmdlaaW.PrintLast
set_option linter.unusedSimpArgs false
set_option linter.unusedVariables false
namespace Co
open Aid
theorem map_pos (g : Int → Int → Int) (P : Int → Prop) (xs : List Int) : ∀ s : Int, (∀ i : Nat, i < xs.length → P (g (s + i) (rd xs i))) → ∀ c ∈ mapS g s xs, P c := by
  induction xs with
  | nil => intro s _ c hc; simp [mapS] at hc
  | cons x xs ih =>
    intro s h c hc
    simp only [mapS, List.mem_cons] at hc
    rcases hc with hc | hc
    · have h0 := h 0 (by simp)
      have hr : rd (x :: xs) ((0 : Nat) : Int) = x := rfl
      rw [hr, Int.natCast_zero, Int.add_zero] at h0
      rw [hc]; exact h0
    · refine ih (s + 1) (fun i hi => ?_) c hc
      have h1 := h (i + 1) (by simp; omega)
      have h2 : rd (x :: xs) ((i + 1 : Nat) : Int) = rd xs (i : Int) := by simp [rd]
      have h3 : s + ((i + 1 : Nat) : Int) = s + 1 + (i : Int) := by omega
      rw [h2, h3] at h1; exact h1
theorem kv_p (r : S26) (p : S29) (hr : VR r) (hp : VP r p) : KV p.f0 p.f1.f0 p.f1.f1 p.f2 := by
  have hl := hp.len hr
  have ht := hr.t
  have h0 := hp.h0
  have h1 := hp.h1
  exact ⟨hl.2, fun c hc => by have := hp.c c hc; omega, by omega, by omega, hp.b0, hp.b1, hp.t⟩
theorem n1_in (p : S29) (m : S39) (o t n : Int) (h : o = p.f2 → m.f0 = -1 → t = m.f2 → n ≠ 0) (hn : 0 ≤ n ∧ n ≤ 1000) : 0 ≤ n1 p m o t n ∧ n1 p m o t n ≤ 1000 := by
  unfold n1
  split
  · rename_i hh; have := h hh.1 hh.2.1 hh.2.2; omega
  · exact hn
theorem nH_in (r : S26) (p : S29) (m : S39) (o t n : Int) (h : o = p.f2 → m.f0 = -1 → t = m.f2 → n ≠ 0) (hn : 0 ≤ n ∧ n ≤ 1000) : 0 ≤ nH r p m o t n ∧ nH r p m o t n ≤ 1000 := by
  have h1 := n1_in p m o t n h hn
  unfold nH
  split
  · rename_i hh; have := hh.2.2.2.2; omega
  · exact h1
theorem kv_q (r : S26) (p : S29) (hr : VR r) (hp : VP r p) (m : S39) (lm : LM r p m) : KV (mapS (nC p m) 0 p.f0) (mapS (nH r p m 0) 0 p.f1.f0) (mapS (nH r p m 1) 0 p.f1.f1) (1 - p.f2) := by
  have kv := kv_p r p hr hp
  have ht := hr.t
  have htu := hp.t
  have hk := lm.k
  refine ⟨by rw [map_len]; exact kv.n, ?_, by rw [map_len]; exact kv.l0, by rw [map_len]; exact kv.l1, ?_, ?_, by omega⟩
  · refine map_pos _ (fun c => 0 ≤ c ∧ c ≤ 100) _ 0 (fun i hi => ?_)
    have hc := kv.c _ (rd_mem p.f0 (i : Int) (by omega) (by omega))
    unfold nC
    split
    · omega
    · split
      · omega
      · exact hc
  · refine map_pos _ (fun c => 0 ≤ c ∧ c ≤ 1000) _ 0 (fun i hi => nH_in r p m 0 _ _ (fun ho hf hi2 => ?_) (kv.b0 _ (rd_mem p.f1.f0 (i : Int) (by omega) (by omega))))
    have h := (lm.put hf).1
    unfold hand at h
    rw [if_pos ho.symm, ← hi2, Int.zero_add] at h; exact h
  · refine map_pos _ (fun c => 0 ≤ c ∧ c ≤ 1000) _ 0 (fun i hi => nH_in r p m 1 _ _ (fun ho hf hi2 => ?_) (kv.b1 _ (rd_mem p.f1.f1 (i : Int) (by omega) (by omega))))
    have h := (lm.put hf).1
    have hne : ¬ p.f2 = 0 := by omega
    unfold hand at h
    rw [if_neg hne, ← hi2, Int.zero_add] at h; exact h
def dC (p : S29) (m : S39) : Int := sqv m.f1 (2 * m.f2 + p.f2 + 1) - sqv m.f1 (rd p.f0 m.f1) - (if m.f0 = -1 then 0 else sqv m.f0 (rd p.f0 m.f0))
def dH (r : S26) (p : S29) (m : S39) : Int := if m.f0 = -1 then - hdv p.f2 m.f2 1 else if r.f6 = true ∧ rd p.f0 m.f1 > 0 ∧ rd (hand p) (knd (rd p.f0 m.f1)) < 1000 then hdv p.f2 (knd (rd p.f0 m.f1)) 1 else 0
theorem cells_sum (r : S26) (p : S29) (m : S39) (lm : LM r p m) : sumS sqv 0 (mapS (nC p m) 0 p.f0) = sumS sqv 0 p.f0 + dC p m := by
  rw [sum_map]
  have e1 : ((m.f1.toNat : Nat) : Int) = m.f1 := by have := lm.t; omega
  have h1 := sum_at sqv (fun s c => if s = m.f1 then sqv s (2 * m.f2 + p.f2 + 1) else sqv s c) p.f0 m.f1.toNat (by have := lm.t; omega) (fun i hi hne => if_neg (by have := lm.t; omega))
  rw [e1, if_pos rfl] at h1
  by_cases hf : m.f0 = -1
  · have h2 : sumS (fun s c => sqv s (nC p m s c)) 0 p.f0 = sumS (fun s c => if s = m.f1 then sqv s (2 * m.f2 + p.f2 + 1) else sqv s c) 0 p.f0 := by
      refine sum_same _ _ _ 0 (fun i hi => ?_)
      have hne : ¬ (0 + (i : Int) = m.f0) := by omega
      unfold nC
      by_cases hh : 0 + (i : Int) = m.f1
      · simp only [if_pos hh]
      · simp only [if_neg hh, if_neg hne]
    rw [h2, h1]; unfold dC; rw [if_pos hf]; omega
  · have hft := lm.go hf
    have hfr := lm.f
    have e0 : ((m.f0.toNat : Nat) : Int) = m.f0 := by omega
    have h2 := sum_at (fun s c => if s = m.f1 then sqv s (2 * m.f2 + p.f2 + 1) else sqv s c) (fun s c => sqv s (nC p m s c)) p.f0 m.f0.toNat (by omega) (fun i hi hne => by
      have hne2 : ¬ ((i : Int) = m.f0) := by omega
      unfold nC
      by_cases hh : (i : Int) = m.f1
      · simp only [if_pos hh]
      · simp only [if_neg hh, if_neg hne2])
    rw [e0, if_neg hft] at h2
    have h3 : nC p m m.f0 (rd p.f0 m.f0) = 0 := by unfold nC; rw [if_neg hft, if_pos rfl]
    have h4 : sqv m.f0 0 = 0 := by unfold sqv; rw [if_pos rfl]
    rw [h3, h4] at h2
    rw [h2, h1]; unfold dC; rw [if_neg hf]; omega
theorem hdv_up (o t n : Int) : hdv o t (n + 1) - hdv o t n = hdv o t 1 := by unfold hdv; rw [Int.add_mul, Int.one_mul]; omega
theorem hdv_dn (o t n : Int) : hdv o t (n - 1) - hdv o t n = - hdv o t 1 := by unfold hdv; rw [Int.sub_mul, Int.one_mul]; omega
theorem hand_sum (r : S26) (p : S29) (hr : VR r) (hp : VP r p) (m : S39) (lm : LM r p m) (o : Int) (xs : List Int) (hl : xs.length = r.f3.length) (hx : o = p.f2 → xs = hand p) :
    sumS (hdv o) 0 (mapS (nH r p m o) 0 xs) = sumS (hdv o) 0 xs + (if o = p.f2 then dH r p m else 0) := by
  rw [sum_map]
  have hk := lm.k
  by_cases ho : o = p.f2
  · rw [if_pos ho]
    have hxs := hx ho
    by_cases hf : m.f0 = -1
    · have hz := (lm.put hf).2
      have ek : ((m.f2.toNat : Nat) : Int) = m.f2 := by omega
      have hn : ∀ t n, nH r p m o t n = n1 p m o t n := by
        intro t n; unfold nH; rw [if_neg (fun hh => by have := hh.2.2.1; omega)]
      have h := sum_at (hdv o) (fun t n => hdv o t (nH r p m o t n)) xs m.f2.toNat (by omega) (fun i hi hne => by
        have : ¬ ((i : Int) = m.f2) := by omega
        rw [hn]; unfold n1; rw [if_neg (fun hh => this hh.2.2)])
      rw [ek, hn] at h
      rw [h]; unfold n1 dH
      rw [if_pos ⟨ho, hf, rfl⟩, if_pos hf, hdv_dn, ho]
    · have hn1 : ∀ t n, n1 p m o t n = n := by
        intro t n; unfold n1; rw [if_neg (fun hh => hf hh.2.1)]
      unfold dH
      rw [if_neg hf]
      by_cases hc : r.f6 = true ∧ rd p.f0 m.f1 > 0 ∧ rd (hand p) (knd (rd p.f0 m.f1)) < 1000
      · rw [if_pos hc]
        have hcell := hp.cell hr m.f1 lm.t.1 lm.t.2
        have hkn := knd_lt (rd p.f0 m.f1) (r.f3.length : Int) ⟨by have := hc.2.1; omega, hcell.2.2⟩
        have ek : (((knd (rd p.f0 m.f1)).toNat : Nat) : Int) = knd (rd p.f0 m.f1) := by omega
        have h := sum_at (hdv o) (fun t n => hdv o t (nH r p m o t n)) xs (knd (rd p.f0 m.f1)).toNat (by omega) (fun i hi hne => by
          have : ¬ ((i : Int) = knd (rd p.f0 m.f1)) := by omega
          unfold nH; rw [if_neg (fun hh => this hh.2.2.2.1), hn1])
        rw [ek] at h
        rw [h]
        unfold nH
        rw [hn1, if_pos ⟨ho, hc.1, hc.2.1, rfl, by rw [hxs]; exact hc.2.2⟩, hdv_up, ho]
      · rw [if_neg hc, Int.add_zero]
        refine sum_same _ _ _ 0 (fun i hi => ?_)
        unfold nH
        rw [hn1, if_neg (fun hh => hc ⟨hh.2.1, hh.2.2.1, by rw [← hxs, ← hh.2.2.2.1, Int.zero_add]; exact hh.2.2.2.2⟩)]
  · rw [if_neg ho, Int.add_zero]
    refine sum_same _ _ _ 0 (fun i hi => ?_)
    unfold nH n1
    rw [if_neg (fun hh => ho hh.1), if_neg (fun hh => ho hh.1)]
def keyq (r : S26) (p : S29) (m : S39) : Int := keyv (mapS (nC p m) 0 p.f0) (mapS (nH r p m 0) 0 p.f1.f0) (mapS (nH r p m 1) 0 p.f1.f1) (1 - p.f2)
theorem keyq_eq (r : S26) (p : S29) (hr : VR r) (hp : VP r p) (m : S39) (lm : LM r p m) : keyq r p m = keyv p.f0 p.f1.f0 p.f1.f1 p.f2 + ((1 - p.f2) * mixv 3000 - p.f2 * mixv 3000) + dC p m + dH r p m := by
  have htu := hp.t
  have a := cells_sum r p m lm
  have b := hand_sum r p hr hp m lm 0 p.f1.f0 hp.h0 (fun h => by unfold hand; rw [if_pos h.symm])
  have c := hand_sum r p hr hp m lm 1 p.f1.f1 hp.h1 (fun h => by unfold hand; rw [if_neg (by omega)])
  unfold keyq keyv
  rw [a, b, c]
  rcases htu with h | h
  · rw [if_pos h.symm, if_neg (by omega)]; omega
  · rw [if_neg (by omega), if_pos h.symm]; omega
theorem cell_n (m : S39) (pl : Int) (h : 0 ≤ m.f2 ∧ m.f2 ≤ 6) (hpl : 0 ≤ pl ∧ pl ≤ 1) : moves_Cell.f m.f2 pl = some (2 * m.f2 + pl + 1) := by
  unfold moves_Cell.f
  rw [w64 (n := 2 * m.f2) (by omega) (by omega), w64 (n := 2 * m.f2 + pl) (by omega) (by omega), w64 (by omega) (by omega)]
theorem u3 (K A B C : Int) : IntKind.u64.wrap (IntKind.u64.wrap (IntKind.u64.wrap K + IntKind.u64.wrap (IntKind.u64.wrap A - IntKind.u64.wrap B)) - IntKind.u64.wrap C) = IntKind.u64.wrap (K + (A - B) - C) := by simp only [u_mod]; omega
theorem u4 (K A B C : Int) : IntKind.u64.wrap (IntKind.u64.wrap (IntKind.u64.wrap K + IntKind.u64.wrap (IntKind.u64.wrap A - IntKind.u64.wrap B)) - C) = IntKind.u64.wrap (K + (A - B) - C) := by simp only [u_mod]; omega
theorem next_f (r : S26) (p : S29) (hr : VR r) (hp : VP r p) (m : S39) (lm : LM r p m) (K : Int) : Ev (fun k => zob_Next.f k r.f0 r.f1 r.f2 r.f3 r.f4 r.f5 r.f6 r.f7 r.f8 r.f9 r.f10 p.f0 p.f1.f0 p.f1.f1 p.f2 p.f3 m.f0 m.f1 m.f2 (IntKind.u64.wrap K)) (IntKind.u64.wrap (K + ((1 - p.f2) * mixv 3000 - p.f2 * mixv 3000) + dC p m + dH r p m)) := by
  have htt := hr.t
  have htu := hp.t
  have ht0 : 0 ≤ p.f2 := by omega
  have ht1 : p.f2 ≤ 1 := by omega
  have hl := hp.len hr
  have hk := lm.k
  have hto := lm.t
  have hc := hp.cell hr m.f1 lm.t.1 lm.t.2
  have cl := cell_n m p.f2 ⟨hk.1, by omega⟩ ⟨ht0, ht1⟩
  have sqn := square_f m.f1 (2 * m.f2 + p.f2 + 1) hto.1 (by omega) (by omega) (by omega)
  have sqc := square_f m.f1 (rd p.f0 m.f1) hto.1 (by omega) hc.1 (by omega)
  have h0l := hp.h0
  have h1l := hp.h1
  have hw : wrap64 (1 - p.f2) = 1 - p.f2 := w64 (by omega) (by omega)
  have j1 : ∀ (X : Int) (b : Bool), rd p.f0 m.f1 > 0 → Ev (fun k => zob_Next.j1 k (IntKind.u64.wrap X) (rd p.f0 m.f1) b p.f0 p.f1.f0 p.f1.f1 p.f2 p.f3 m.f0 m.f1 m.f2) (IntKind.u64.wrap (X + (if b = true then hdv p.f2 (knd (rd p.f0 m.f1)) 1 else 0) + sqv m.f1 (2 * m.f2 + p.f2 + 1))) := by
    intro X b hg
    have hkn := knd_lt (rd p.f0 m.f1) (r.f3.length : Int) ⟨by omega, hc.2.2⟩
    have hd := held_f p.f2 (knd (rd p.f0 m.f1)) 1 ht0 ht1 hkn.1 (by omega)
    refine Ev.step (fun k => by rw [zob_Next.j1]) ?_
    refine ite (fun h => ?_) (fun h => ?_)
    · rw [if_pos h]
      refine bind_now (kind_f _ ⟨by omega, hc.2.1⟩) ?_
      refine bind_now hd ?_
      refine bind_now cl ?_
      refine bind_now sqn (now ?_)
      simp only [u_mod]; omega
    · rw [if_neg h]
      refine bind_now cl ?_
      refine bind_now sqn (now ?_)
      rw [ua, Int.add_zero]
  have j0 : ∀ X : Int, Ev (fun k => zob_Next.j0 k (IntKind.u64.wrap X) r.f0 r.f1 r.f2 r.f3 r.f4 r.f5 r.f6 r.f7 r.f8 r.f9 r.f10 p.f0 p.f1.f0 p.f1.f1 p.f2 p.f3 m.f0 m.f1 m.f2) (IntKind.u64.wrap (X + (sqv m.f1 (2 * m.f2 + p.f2 + 1) - sqv m.f1 (rd p.f0 m.f1)) + (if r.f6 = true ∧ rd p.f0 m.f1 > 0 ∧ rd (hand p) (knd (rd p.f0 m.f1)) < 1000 then hdv p.f2 (knd (rd p.f0 m.f1)) 1 else 0))) := by
    intro X
    refine Ev.step (fun k => by rw [zob_Next.j0]) ?_
    refine ite (fun _ => ?_) (fun h => absurd hto.1 h)
    refine ite (fun _ => ?_) (fun h => absurd hto.2 h)
    refine ite (fun h => ?_) (fun h => ?_)
    · refine bind_now cl ?_
      refine bind_now sqn (now ?_)
      have hs : sqv m.f1 (rd p.f0 m.f1) = 0 := by unfold sqv; rw [if_pos h]
      rw [ua, hs, if_neg (fun hh => by have := hh.2.1; omega), Int.sub_zero, Int.add_zero]
    · have hg : rd p.f0 m.f1 > 0 := by omega
      have hkn := knd_lt (rd p.f0 m.f1) (r.f3.length : Int) ⟨by omega, hc.2.2⟩
      refine bind_now sqc ?_
      rw [uc]
      have fin : ∀ b : Bool, (b = true ↔ (r.f6 = true ∧ rd p.f0 m.f1 > 0 ∧ rd (hand p) (knd (rd p.f0 m.f1)) < 1000)) → Ev (fun k => zob_Next.j1 k (IntKind.u64.wrap (X - sqv m.f1 (rd p.f0 m.f1))) (rd p.f0 m.f1) b p.f0 p.f1.f0 p.f1.f1 p.f2 p.f3 m.f0 m.f1 m.f2) (IntKind.u64.wrap (X + (sqv m.f1 (2 * m.f2 + p.f2 + 1) - sqv m.f1 (rd p.f0 m.f1)) + (if r.f6 = true ∧ rd p.f0 m.f1 > 0 ∧ rd (hand p) (knd (rd p.f0 m.f1)) < 1000 then hdv p.f2 (knd (rd p.f0 m.f1)) 1 else 0))) := by
        intro b hb
        refine ev_eq (j1 _ b hg) ?_
        by_cases h2 : b = true
        · rw [if_pos h2, if_pos (hb.1 h2)]; congr 1; omega
        · rw [if_neg h2, if_neg (fun hh => h2 (hb.2 hh))]; congr 1; omega
      refine ite (fun h6 => ?_) (fun h6 => ?_)
      · refine ite (fun _ => ?_) (fun h => absurd ht0 h)
        refine ite (fun _ => ?_) (fun h => absurd (by omega) h)
        refine ite (fun hz => ?_) (fun hz => ?_)
        · refine bind_now (kind_f _ ⟨by omega, hc.2.1⟩) ?_
          refine ite (fun _ => ?_) (fun h => absurd hkn.1 h)
          refine ite (fun _ => ?_) (fun h => absurd (by omega) h)
          refine fin _ ?_
          have hh : hand p = p.f1.f0 := by unfold hand; rw [if_pos hz]
          rw [hh]
          exact ⟨fun h => ⟨h6, hg, of_decide_eq_true h⟩, fun h => decide_eq_true h.2.2⟩
        · refine bind_now (kind_f _ ⟨by omega, hc.2.1⟩) ?_
          refine ite (fun _ => ?_) (fun h => absurd hkn.1 h)
          refine ite (fun _ => ?_) (fun h => absurd (by omega) h)
          refine fin _ ?_
          have hh : hand p = p.f1.f1 := by unfold hand; rw [if_neg hz]
          rw [hh]
          exact ⟨fun h => ⟨h6, hg, of_decide_eq_true h⟩, fun h => decide_eq_true h.2.2⟩
      · exact fin _ ⟨fun h => absurd h (by decide), fun h => absurd h.1 h6⟩
  unfold zob_Next.f
  rw [hw]
  refine bind_now (turn_f (1 - p.f2)) ?_
  refine bind_now (turn_f p.f2) ?_
  have hfr := lm.f
  refine ite (fun h => ?_) (fun h => ?_)
  · have hf : m.f0 = -1 := by omega
    have hz := (lm.put hf).2
    refine bind_now (held_f p.f2 m.f2 1 ht0 ht1 hk.1 (by omega)) ?_
    rw [u3]
    refine ev_eq (j0 _) ?_
    unfold dC dH
    rw [if_pos hf, if_pos hf, if_neg (fun hh => by have := hh.2.1; omega)]
    congr 1; omega
  · have hf : ¬ m.f0 = -1 := by omega
    have hcf := hp.cell hr m.f0 (by omega) hfr.2
    refine ite (fun _ => ?_) (fun h => absurd (by omega) h)
    refine ite (fun _ => ?_) (fun h => absurd hfr.2 h)
    refine bind_now (square_f m.f0 (rd p.f0 m.f0) (by omega) (by omega) hcf.1 (by omega)) ?_
    rw [u4]
    refine ev_eq (j0 _) ?_
    unfold dC dH
    rw [if_neg hf, if_neg hf]
    congr 1; omega
/-! slices.Contains -/
theorem idx_f (l : List S39) (m : S39) (hl : l.length ≤ 100000) : ∀ (d i : Nat), i + d = l.length → ∃ v, Ev (fun k => api_Move_51.l0 k l (l.length : Int) (i : Int) m.f0 m.f1 m.f2) v ∧ (v ≥ 0 ↔ m ∈ l.drop i) := by
  intro d
  induction d with
  | zero =>
    intro i hi
    refine ⟨-1, Ev.step (fun k => by rw [api_Move_51.l0]) (ite (fun h => absurd h (by omega)) (fun _ => now rfl)), ?_⟩
    rw [List.drop_of_length_le (by omega)]; simp
  | succ d ih =>
    intro i hi
    have hi1 : i < l.length := by omega
    have hi2 : (i : Int) < (l.length : Int) := by omega
    obtain ⟨v, hv, hm⟩ := ih (i + 1) (by omega)
    have hwn : wrap64 ((i : Int) + 1) = ((i + 1 : Nat) : Int) := by rw [w64s (by omega) (by omega)]; omega
    rw [← hwn] at hv
    have hg : rd_T39 l (i : Int) = l[i] := by simp [rd_T39, List.getD_eq_getElem?_getD, hi1]
    rw [List.drop_eq_getElem_cons hi1, ← hg]
    by_cases he : m = rd_T39 l (i : Int)
    · refine ⟨(i : Int), Ev.step (fun k => by rw [api_Move_51.l0]) ?_, ?_⟩
      · refine ite (fun _ => ?_) (fun h => absurd hi2 h)
        refine ite (fun _ => ?_) (fun h => absurd (Int.natCast_nonneg _) h)
        refine ite (fun _ => ?_) (fun h => absurd hi2 h)
        exact ite (fun _ => now rfl) (fun h => absurd (by rw [← he]; simp) h)
      · exact ⟨fun _ => by rw [he]; simp, fun _ => by omega⟩
    · refine ⟨v, Ev.step (fun k => by rw [api_Move_51.l0]) ?_, ?_⟩
      · refine ite (fun _ => ?_) (fun h => absurd hi2 h)
        refine ite (fun _ => ?_) (fun h => absurd (Int.natCast_nonneg _) h)
        refine ite (fun _ => ?_) (fun h => absurd hi2 h)
        refine ite (fun h => absurd ?_ he) (fun _ => hv)
        simp only [Bool.and_eq_true, beq_iff_eq] at h
        generalize rd_T39 l (i : Int) = y at *
        cases m; cases y
        simp only [S39.mk.injEq]; exact h
      · rw [hm]; simp [he]
theorem cont_f (l : List S39) (m : S39) (hl : l.length ≤ 100000) : ∃ b : Bool, Ev (fun k => api_Move_33.f k l m.f0 m.f1 m.f2) b ∧ (b = true ↔ m ∈ l) := by
  obtain ⟨v, hv, hm⟩ := idx_f l m hl l.length 0 (by omega)
  refine ⟨decide (v ≥ 0), ?_, by rw [decide_eq_true_iff, hm, List.drop_zero]⟩
  unfold api_Move_33.f api_Move_51.f
  exact Ev.bind hv (now rfl)
theorem once_len (xs : List S39) : (onceM xs).length ≤ xs.length := by
  unfold onceM Go.Lib.compact Go.Lib.compactUpTo
  rw [List.length_map]
  refine Nat.le_trans (List.length_filter_le _ _) ?_
  rw [List.length_range]; unfold sortM; rw [List.length_mergeSort]; exact Nat.le_refl _
theorem raw_len (r : S26) (p : S29) (hr : VR r) (hp : VP r p) : (rawM r p).length ≤ 100000 := by
  have hl := hp.len hr
  have ht := hr.t
  unfold rawM drops
  rw [List.length_append]
  have h1 := flat_le (fun (t : Nat) => dropK r p (t : Int) (rd (hand p) (t : Int)) 0 p.f0.length) 64 (fun t => Nat.le_trans (dropK_len r p _ _ 0 p.f0.length) hl.2) r.f3.length 0
  have h2 : ∀ i ∈ List.range' 0 p.f0.length, (pieceM r p i).length ≤ 112 := by
    intro i hi
    have hi2 : i < p.f0.length := by simpa using hi
    unfold pieceM
    split
    · rename_i ho
      have hc := hp.cell hr (i : Int) (by omega) (by omega)
      have hc1 : 1 ≤ rd p.f0 (i : Int) := by
        have htu := hp.t
        unfold own at ho; split at ho <;> omega
      have hkn := knd_lt (rd p.f0 (i : Int)) (r.f3.length : Int) ⟨hc1, hc.2.2⟩
      obtain ⟨_, _, _, _, hw, hws⟩ := hr.pc _ (rdP_mem r.f3 (knd (rd p.f0 (i : Int))) hkn.1 hkn.2)
      have hb := flat_len (wayM r p (i : Int)) 7 _ (fun w hw => wayM_len r p (i : Int) w (by have := hws w hw; omega))
      omega
    · simp
  have h3 : ∀ l : List Nat, (∀ i ∈ l, (pieceM r p i).length ≤ 112) → (l.flatMap (pieceM r p)).length ≤ 112 * l.length := by
    intro l
    induction l with
    | nil => intro _; simp
    | cons x xs ih =>
      intro h
      rw [List.flatMap_cons, List.length_append, List.length_cons]
      have := ih (fun i hi => h i (by simp [hi])); have := h x (by simp); omega
  have h4 := h3 _ h2
  rw [List.length_range'] at h4
  omega
theorem change_f (r : S26) (p : S29) (hr : VR r) (hp : VP r p) (m : S39) (hc : Ev (fun k => place_Check.f k r.f0 r.f1 r.f2 r.f3 r.f4 r.f5 r.f6 r.f7 r.f8 r.f9 r.f10 p.f0 p.f1.f0 p.f1.f1 p.f2 p.f3) 0) : Ev (fun k => zob_Change.f k r.f0 r.f1 r.f2 r.f3 r.f4 r.f5 r.f6 r.f7 r.f8 r.f9 r.f10 p.f0 p.f1.f0 p.f1.f1 p.f2 p.f3 m.f0 m.f1 m.f2) (if allowB r p m = true then (IntKind.u64.wrap (keyq r p m), 0) else (0, 13)) := by
  unfold zob_Change.f
  refine Ev.bind hc ?_
  refine ite (fun _ => ?_) (fun h => absurd rfl h)
  refine Ev.bind (gen_f r p hr hp) ?_
  obtain ⟨b, hb, hm⟩ := cont_f (onceM (rawM r p)) m (Nat.le_trans (once_len _) (raw_len r p hr hp))
  rw [(once_spec _).2 m, mem_rawM r p hr hp m] at hm
  refine Ev.bind hb ?_
  refine ite (fun h => ?_) (fun h => now (by rw [if_neg (fun hh => h (hm.2 hh))]))
  have ha := hm.1 h
  have lm := lm_of r p hr hp m ha
  rw [if_pos ha]
  refine Ev.bind (of_f _ _ _ _ _ (kv_p r p hr hp)) ?_
  refine Ev.bind (next_f r p hr hp m lm _) (now ?_)
  rw [keyq_eq r p hr hp m lm]
theorem j0_f (r : S26) (p : S29) (m : S39) (n : Int) (hr : wf26 r) (hp : wf29 p) : Ev (fun k => gamehalllaw1_ZobKeys.j0 k n false r.f0 r.f1 r.f2 r.f3 r.f4 r.f5 r.f6 r.f7 r.f8 r.f9 r.f10 p.f0 p.f1.f0 p.f1.f1 p.f2 p.f3 m.f0 m.f1 m.f2) true := by
  obtain ⟨e, h1, h2, h3⟩ := place_two r p hr hp
  refine Ev.step (fun k => by rw [gamehalllaw1_ZobKeys.j0]) ?_
  refine ite (fun h => absurd h (by decide)) (fun _ => ?_)
  by_cases h0 : e = 0
  · subst h0
    obtain ⟨v1, v2⟩ := h3 rfl
    have kf := key_f _ _ _ _ p.f3 (kv_p r p v1 v2)
    have o : Ev (fun k => zob_Key.f k r.f0 r.f1 r.f2 r.f3 r.f4 r.f5 r.f6 r.f7 r.f8 r.f9 r.f10 p.f0 p.f1.f0 p.f1.f1 p.f2 p.f3) (IntKind.u64.wrap (keyv p.f0 p.f1.f0 p.f1.f1 p.f2), 0) := by
      unfold zob_Key.f
      refine Ev.bind h1 ?_
      exact ite (fun _ => Ev.bind (of_f _ _ _ _ _ (kv_p r p v1 v2)) (now rfl)) (fun h => absurd rfl h)
    refine Ev.bind o ?_
    refine Ev.bind (change_f r p v1 v2 m h1) ?_
    refine bind_now (mix_f n) ?_
    refine bind_now (mixed_f n) ?_
    refine ite (fun _ => ?_) (fun h => absurd rfl h)
    refine Ev.bind h2 ?_
    refine ite (fun _ => ?_) (fun h => absurd rfl h)
    refine ite (fun _ => ?_) (fun h => absurd rfl h)
    refine Ev.bind kf ?_
    refine Ev.step (fun k => by rw [gamehalllaw1_ZobKeys.j1]) ?_
    refine ite (fun h => absurd h (by simp)) (fun _ => ?_)
    refine Ev.bind (allowed_f r p v1 v2 m) ?_
    refine ite (fun ha => ?_) (fun ha => ?_)
    · rw [if_pos ha]
      have lm := lm_of r p v1 v2 m ha
      obtain ⟨q, hq⟩ := after_f r p v1 v2 m lm
      refine ite (fun _ => ?_) (fun h => absurd rfl h)
      refine Ev.bind hq ?_
      refine Ev.bind (key_f _ _ _ _ q (kv_q r p v1 v2 m lm)) (now ?_)
      simp only [keyq, aft, beq_self_eq_true]
    · rw [if_neg ha]
      exact ite (fun _ => now rfl) (fun h => absurd rfl h)
  · have o : Ev (fun k => zob_Key.f k r.f0 r.f1 r.f2 r.f3 r.f4 r.f5 r.f6 r.f7 r.f8 r.f9 r.f10 p.f0 p.f1.f0 p.f1.f1 p.f2 p.f3) (0, e) := by
      unfold zob_Key.f
      refine Ev.bind h1 ?_
      exact ite (fun h => absurd h h0) (fun _ => now rfl)
    have o2 : Ev (fun k => zob_Change.f k r.f0 r.f1 r.f2 r.f3 r.f4 r.f5 r.f6 r.f7 r.f8 r.f9 r.f10 p.f0 p.f1.f0 p.f1.f1 p.f2 p.f3 m.f0 m.f1 m.f2) (0, e) := by
      unfold zob_Change.f
      refine Ev.bind h1 ?_
      exact ite (fun h => absurd h h0) (fun _ => now rfl)
    refine Ev.bind o ?_
    refine Ev.bind o2 ?_
    refine bind_now (mix_f n) ?_
    refine bind_now (mixed_f n) ?_
    refine ite (fun _ => ?_) (fun h => absurd rfl h)
    refine Ev.bind h2 ?_
    refine ite (fun h => absurd h h0) (fun _ => ?_)
    refine ite (fun _ => ?_) (fun h => absurd rfl h)
    refine ite (fun _ => ?_) (fun h => absurd rfl h)
    exact ite (fun _ => now rfl) (fun h => absurd rfl h)
def tic : S26 := ⟨⟨#[84, 73, 67]⟩, 3, 3, [⟨65, 5, 0, []⟩], List.replicate 9 0, false, false, [⟨0, 0, 3, false⟩], 2, 0, 0⟩
def won : S29 := ⟨[1, 1, 1, 2, 2, 0, 0, 0, 0], ⟨[2], [3]⟩, 1, 0⟩
set_option maxRecDepth 100000 in
theorem won_c : Ev (fun k => place_Check.f k tic.f0 tic.f1 tic.f2 tic.f3 tic.f4 tic.f5 tic.f6 tic.f7 tic.f8 tic.f9 tic.f10 won.f0 won.f1.f0 won.f1.f1 won.f2 won.f3) 0 := by
  exact Ev.of (fun k => place_Check.mono _ _ _ _ _ _ _ _ _ _ _ _ _ _ _ _ k) (k := 400) (by decide +kernel)
theorem won_kv : KV won.f0 won.f1.f0 won.f1.f1 won.f2 := ⟨by decide, by decide, by decide, by decide, by decide, by decide, by decide⟩
theorem law_f (r : S26) (p : S29) (m : S39) (n : Int) (hr : wf26 r) (hp : wf29 p) : Ev (fun k => gamehalllaw1_ZobKeys.f k r.f0 r.f1 r.f2 r.f3 r.f4 r.f5 r.f6 r.f7 r.f8 r.f9 r.f10 p.f0 p.f1.f0 p.f1.f1 p.f2 p.f3 m.f0 m.f1 m.f2 n) true := by
  have o : Ev (fun k => zob_Key.f k tic.f0 tic.f1 tic.f2 tic.f3 tic.f4 tic.f5 tic.f6 tic.f7 tic.f8 tic.f9 tic.f10 won.f0 won.f1.f0 won.f1.f1 won.f2 won.f3) (IntKind.u64.wrap (keyv won.f0 won.f1.f0 won.f1.f1 won.f2), 0) := by
    unfold zob_Key.f
    refine Ev.bind won_c ?_
    exact ite (fun _ => Ev.bind (of_f _ _ _ _ _ won_kv) (now rfl)) (fun h => absurd rfl h)
  unfold gamehalllaw1_ZobKeys.f
  refine bind_now (a := (tic.f0, tic.f1, tic.f2, tic.f3, tic.f4, tic.f5, tic.f6, tic.f7, tic.f8, tic.f9, tic.f10)) rfl ?_
  refine bind_now (a := (won.f0, won.f1.f0, won.f1.f1, won.f2, won.f3)) rfl ?_
  refine Ev.bind o ?_
  refine ite (fun _ => ?_) (fun h => absurd rfl h)
  refine bind_now (a := (won.f0, won.f1.f0, won.f1.f1, won.f2, won.f3)) rfl ?_
  refine Ev.bind (key_f _ _ _ _ won.f3 won_kv) ?_
  refine ite (fun _ => ?_) (fun h => absurd rfl h)
  refine bind_now (mix_f 0) ?_
  refine bind_now (mixed_f 0) ?_
  have hb : (mixv 0 != mixv 0) = false := by simp
  rw [hb]
  exact j0_f r p m n hr hp
end Co
theorem ZobKeys : gamehalllaw1_ZobKeys.Pure := by
  intro x0 x1 x2 a3 h0 h1 _ _
  obtain ⟨K, e⟩ := Co.law_f x0 x1 x2 a3 h0 h1
  exact ⟨K, e K (Nat.le_refl K)⟩
end Go.Proofs.Ytloadbbndnmdlaa.Pure
