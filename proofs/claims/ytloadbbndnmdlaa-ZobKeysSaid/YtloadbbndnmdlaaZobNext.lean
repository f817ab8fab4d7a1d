/- zob.Next is the key of what the reference's After returns. -/
import Derived.Test.YtloadbbndnmdlaaZob
namespace Go.Proofs.Ytloadbbndnmdlaa.Pure
open Go.RowKit Go.Proofs.Ytloadbbndnmdlaa.PZobKeys Go.Proofs.YtloadbbndnmdlaaW.PrintWords Go.Proofs.YtloadbbndnmdlaaW.PrintLast
set_option linter.unusedSimpArgs false
set_option linter.unusedVariables false
namespace Co
open Aid
/-! what a legal move is -/
structure LM (r : S26) (p : S29) (m : S39) : Prop where
  f : -1 ≤ m.f0 ∧ m.f0 < (p.f0.length : Int)
  t : 0 ≤ m.f1 ∧ m.f1 < (p.f0.length : Int)
  k : 0 ≤ m.f2 ∧ m.f2 < (r.f3.length : Int)
  put : m.f0 = -1 → rd (hand p) m.f2 ≠ 0 ∧ rd p.f0 m.f1 = 0
  go : m.f0 ≠ -1 → m.f0 ≠ m.f1
theorem reach_takes (r : S26) (p : S29) (dx dy take tq : Int) : ∀ n x y, reachB r p dx dy take tq n x y = true → takes p take (rd p.f0 tq) := by
  intro n
  induction n with
  | zero => intro x y h; simp [reachB] at h
  | succ n ih =>
    intro x y h
    rw [reachB] at h
    split at h
    · split at h
      · rename_i e; rw [e] at h; exact of_decide_eq_true h
      · split at h
        · cases h
        · exact ih _ _ h
    · cases h
theorem lm_of (r : S26) (p : S29) (hr : VR r) (hp : VP r p) (m : S39) (h : allowB r p m = true) : LM r p m := by
  unfold allowB at h
  split at h
  · rename_i hi
    obtain ⟨⟨a, b⟩, ⟨c, d⟩, e, f⟩ := hi
    refine ⟨⟨a, by omega⟩, ⟨c, by omega⟩, ⟨e, by omega⟩, fun h0 => ?_, fun h0 he => ?_⟩
    · rw [if_pos h0] at h
      unfold putB at h
      simp only [Bool.and_eq_true, decide_eq_true_eq] at h
      exact ⟨h.1, h.2.1⟩
    · rw [if_neg h0] at h
      unfold moveB at h
      simp only [Bool.and_eq_true, List.any_eq_true] at h
      obtain ⟨h1, _, w, _, hw⟩ := h
      have hc := hp.cell hr m.f0 (by omega) (by omega)
      have ht := hp.t
      have ho := (mine_own _ _ hc.1 (by omega)).1 h1
      have hk := reach_takes r p _ _ _ _ _ _ _ hw
      rw [← he] at hk
      unfold takes at hk
      omega
  · cases h
/-! After -/
def nC (p : S29) (m : S39) (s c : Int) : Int := if s = m.f1 then 2 * m.f2 + p.f2 + 1 else if s = m.f0 then 0 else c
def n1 (p : S29) (m : S39) (o t n : Int) : Int := if o = p.f2 ∧ m.f0 = -1 ∧ t = m.f2 then n - 1 else n
def nH (r : S26) (p : S29) (m : S39) (o t n : Int) : Int := if o = p.f2 ∧ r.f6 = true ∧ rd p.f0 m.f1 > 0 ∧ t = knd (rd p.f0 m.f1) ∧ n1 p m o t n < 1000 then n1 p m o t n + 1 else n1 p m o t n
def aft (r : S26) (p : S29) (m : S39) (q : Int) : List Int × List Int × List Int × Int × Int := (mapS (nC p m) 0 p.f0, mapS (nH r p m 0) 0 p.f1.f0, mapS (nH r p m 1) 0 p.f1.f1, 1 - p.f2, q)
theorem aft_j6 (r : S26) (p : S29) (m : S39) (x8 o n : Int) (xs : List Int) (x65 x66 : Int) (c h0 h1 : List Int) (tu q : Int) (ho : o = 0 ∨ o = 1) (hn : n ≤ 1000) (l0 : h0.length ≤ 100) (l1 : h1.length ≤ 100) (b : Bool) (res : List Int × List Int × List Int × Int × Int)
    (e : Ev (fun k => gamehallref1_After.l2 k x8 o o xs x65 (wrap64 (x66 + 1)) r.f0 r.f1 r.f2 r.f3 r.f4 r.f5 r.f6 r.f7 r.f8 r.f9 r.f10 p.f0 p.f1.f0 p.f1.f1 p.f2 p.f3 m.f0 m.f1 m.f2 c (if o = 0 then h0 ++ [if b = true then n + 1 else n] else h0) (if o = 0 then h1 else h1 ++ [if b = true then n + 1 else n]) tu q) res) (hn0 : -1 ≤ n) :
    Ev (fun k => gamehallref1_After.j6 k x8 o n o xs x65 x66 b r.f0 r.f1 r.f2 r.f3 r.f4 r.f5 r.f6 r.f7 r.f8 r.f9 r.f10 p.f0 p.f1.f0 p.f1.f1 p.f2 p.f3 m.f0 m.f1 m.f2 c h0 h1 tu q) res := by
  refine Ev.step (fun k => by rw [gamehallref1_After.j6]) ?_
  have hw : wrap64 (n + 1) = n + 1 := w64 (by omega) (by omega)
  rw [hw]
  have b0 : h0.length < 17592186044416 := by omega
  have b1 : h1.length < 17592186044416 := by omega
  have o0 : 0 ≤ o := by omega
  have o1 : o < 2 := by omega
  refine ite (fun hb => ?_) (fun hb => ?_)
  · rw [if_pos hb] at e
    refine ite (fun _ => ite (fun _ => ite (fun h => ?_) (fun h => ?_)) (fun h => absurd o1 h)) (fun h => absurd o0 h)
    · rw [if_pos h, if_pos h] at e; exact ite (fun _ => e) (fun h => absurd b0 h)
    · rw [if_neg h, if_neg h] at e; exact ite (fun _ => e) (fun h => absurd b1 h)
  · rw [if_neg hb] at e
    refine ite (fun _ => ite (fun _ => ite (fun h => ?_) (fun h => ?_)) (fun h => absurd o1 h)) (fun h => absurd o0 h)
    · rw [if_pos h, if_pos h] at e; exact ite (fun _ => e) (fun h => absurd b0 h)
    · rw [if_neg h, if_neg h] at e; exact ite (fun _ => e) (fun h => absurd b1 h)
theorem aft_l2 (r : S26) (p : S29) (hr : VR r) (hp : VP r p) (m : S39) (lm : LM r p m) (o : Int) (xs : List Int) (ho : o = 0 ∨ o = 1) (hx : xs = if o = 0 then p.f1.f0 else p.f1.f1) (c : List Int) (tu q : Int) (res : List Int × List Int × List Int × Int × Int) :
    ∀ (d i : Nat) (h0 h1 : List Int), i + d = xs.length → h0.length + d ≤ 50 → h1.length + d ≤ 50 →
      Ev (fun k => gamehallref1_After.l1 k (rd p.f0 m.f1) (wrap64 (o + 1)) r.f0 r.f1 r.f2 r.f3 r.f4 r.f5 r.f6 r.f7 r.f8 r.f9 r.f10 p.f0 p.f1.f0 p.f1.f1 p.f2 p.f3 m.f0 m.f1 m.f2 c (if o = 0 then h0 ++ mapS (nH r p m o) (i : Int) (xs.drop i) else h0) (if o = 0 then h1 else h1 ++ mapS (nH r p m o) (i : Int) (xs.drop i)) tu q) res →
      Ev (fun k => gamehallref1_After.l2 k (rd p.f0 m.f1) o o xs (xs.length : Int) (i : Int) r.f0 r.f1 r.f2 r.f3 r.f4 r.f5 r.f6 r.f7 r.f8 r.f9 r.f10 p.f0 p.f1.f0 p.f1.f1 p.f2 p.f3 m.f0 m.f1 m.f2 c h0 h1 tu q) res := by
  have hc := hp.cell hr m.f1 lm.t.1 lm.t.2
  have htt := hr.t
  have hxl : xs.length ≤ 6 := by
    have h0 := hp.h0; have h1 := hp.h1
    rw [hx]; split <;> omega
  have hxb : ∀ v ∈ xs, 0 ≤ v ∧ v ≤ 1000 := by
    rw [hx]; split
    · exact hp.b0
    · exact hp.b1
  intro d
  induction d with
  | zero =>
    intro i h0 h1 hi _ _ e
    rw [map_end _ xs i (by omega), List.append_nil, List.append_nil] at e
    refine Ev.step (fun k => by rw [gamehallref1_After.l2]) ?_
    refine ite (fun h => absurd h (by omega)) (fun _ => ?_)
    have e1 : (if o = 0 then h0 else h0) = h0 := by split <;> rfl
    have e2 : (if o = 0 then h1 else h1) = h1 := by split <;> rfl
    rw [e1, e2] at e; exact e
  | succ d ih =>
    intro i h0 h1 hi b0 b1 e
    have hi1 : i < xs.length := by omega
    have hi2 : (i : Int) < (xs.length : Int) := by omega
    have hv := hxb _ (rd_mem xs (i : Int) (by omega) hi2)
    rw [map_drop _ xs i hi1] at e
    have hwn := wnx i (by omega)
    have hm1 : wrap64 (rd xs (i : Int) - 1) = rd xs (i : Int) - 1 := w64 (by omega) (by omega)
    -- the last step, for either value
    have last : ∀ n : Int, n = n1 p m o (i : Int) (rd xs (i : Int)) → -1 ≤ n → n ≤ 1000 → Ev (fun k => gamehallref1_After.j5 k (rd p.f0 m.f1) o (i : Int) n o xs (xs.length : Int) (i : Int) r.f0 r.f1 r.f2 r.f3 r.f4 r.f5 r.f6 r.f7 r.f8 r.f9 r.f10 p.f0 p.f1.f0 p.f1.f1 p.f2 p.f3 m.f0 m.f1 m.f2 c h0 h1 tu q) res := by
      intro n hn n0 n9
      have step : ∀ b : Bool, (if b = true then n + 1 else n) = nH r p m o (i : Int) (rd xs (i : Int)) → Ev (fun k => gamehallref1_After.j6 k (rd p.f0 m.f1) o n o xs (xs.length : Int) (i : Int) b r.f0 r.f1 r.f2 r.f3 r.f4 r.f5 r.f6 r.f7 r.f8 r.f9 r.f10 p.f0 p.f1.f0 p.f1.f1 p.f2 p.f3 m.f0 m.f1 m.f2 c h0 h1 tu q) res := by
        intro b hb
        refine aft_j6 r p m _ o n xs _ _ c h0 h1 tu q ho n9 (by omega) (by omega) b res ?_ n0
        rw [hb, hwn]
        rcases ho with h | h
        · subst h
          simp only [if_pos] at e ⊢
          refine ih (i + 1) _ _ (by omega) (by simp; omega) (by omega) ?_
          simp only [if_pos, List.append_assoc, List.cons_append, List.nil_append]
          exact e
        · subst h
          have h10 : ¬ ((1 : Int) = 0) := by decide
          simp only [if_neg h10] at e ⊢
          refine ih (i + 1) _ _ (by omega) (by omega) (by simp; omega) ?_
          simp only [if_neg h10, List.append_assoc, List.cons_append, List.nil_append]
          exact e
      have kd : rd p.f0 m.f1 > 0 → wrap64 (Int.tdiv (wrap64 (rd p.f0 m.f1 - 1)) 2) = knd (rd p.f0 m.f1) := by
        intro h
        have hk := kind_f (rd p.f0 m.f1) (by omega)
        unfold moves_Kind.f at hk
        exact Option.some.inj hk
      refine Ev.step (fun k => by rw [gamehallref1_After.j5]) ?_
      refine ite (fun g1 => ite (fun g2 => ite (fun g3 => ite (fun g4 => ?_) (fun g4 => ?_)) (fun g3 => ?_)) (fun g2 => ?_)) (fun g1 => ?_)
      · refine step _ ?_
        unfold nH; rw [← hn]
        rw [kd g3] at g4
        by_cases h9 : n < 1000
        · rw [if_pos (decide_eq_true h9), if_pos ⟨g1, g2, g3, g4, h9⟩]
        · rw [if_neg (by simpa using h9), if_neg (fun hh => h9 hh.2.2.2.2)]
      · refine step _ ?_
        unfold nH; rw [← hn]
        rw [kd g3] at g4
        rw [if_neg (c := false = true) (by decide), if_neg (fun hh => g4 hh.2.2.2.1)]
      · refine step _ ?_
        unfold nH; rw [← hn]
        rw [if_neg (c := false = true) (by decide), if_neg (fun hh => g3 hh.2.2.1)]
      · refine step _ ?_
        unfold nH; rw [← hn]
        rw [if_neg (c := false = true) (by decide), if_neg (fun hh => g2 hh.2.1)]
      · refine step _ ?_
        unfold nH; rw [← hn]
        rw [if_neg (c := false = true) (by decide), if_neg (fun hh => g1 hh.1)]
    have j4 : ∀ b : Bool, (b = true ↔ o = p.f2 ∧ m.f0 = -1 ∧ (i : Int) = m.f2) → Ev (fun k => gamehallref1_After.j4 k (rd p.f0 m.f1) o (i : Int) (rd xs (i : Int)) o xs (xs.length : Int) (i : Int) b r.f0 r.f1 r.f2 r.f3 r.f4 r.f5 r.f6 r.f7 r.f8 r.f9 r.f10 p.f0 p.f1.f0 p.f1.f1 p.f2 p.f3 m.f0 m.f1 m.f2 c h0 h1 tu q) res := by
      intro b hb
      refine Ev.step (fun k => by rw [gamehallref1_After.j4]) ?_
      rw [hm1]
      refine ite (fun h => ?_) (fun h => ?_)
      · refine last _ ?_ (by omega) (by omega)
        unfold n1; rw [if_pos (hb.1 h)]
      · refine last _ ?_ (by omega) (by omega)
        unfold n1; rw [if_neg (fun hh => h (hb.2 hh))]
    refine Ev.step (fun k => by rw [gamehallref1_After.l2]) ?_
    refine ite (fun _ => ?_) (fun h => absurd hi2 h)
    refine ite (fun _ => ?_) (fun h => absurd (Int.natCast_nonneg _) h)
    refine ite (fun _ => ?_) (fun h => absurd hi2 h)
    refine ite (fun g1 => ite (fun g2 => ?_) (fun g2 => ?_)) (fun g1 => ?_)
    · exact j4 _ ⟨fun h => ⟨g1, g2, by simpa using h⟩, fun h => by simpa using h.2.2⟩
    · exact j4 _ ⟨fun h => absurd h (by decide), fun h => absurd h.2.1 g2⟩
    · exact j4 _ ⟨fun h => absurd h (by decide), fun h => absurd h.1 g1⟩
theorem after_f (r : S26) (p : S29) (hr : VR r) (hp : VP r p) (m : S39) (lm : LM r p m) : ∃ q, Ev (fun k => gamehallref1_After.f k r.f0 r.f1 r.f2 r.f3 r.f4 r.f5 r.f6 r.f7 r.f8 r.f9 r.f10 p.f0 p.f1.f0 p.f1.f1 p.f2 p.f3 m.f0 m.f1 m.f2) (aft r p m q) := by
  have htt := hr.t
  have hl := hp.len hr
  have hh0 := hp.h0
  have hh1 := hp.h1
  have ht := hp.t
  have hq := hp.q
  have hk := lm.k
  have htu : wrap64 (1 - p.f2) = 1 - p.f2 := w64 (by omega) (by omega)
  have hqu : wrap64 (p.f3 + 1) = p.f3 + 1 := w64 (by omega) (by omega)
  -- the end
  have j7 : ∀ (c h0 h1 : List Int) (tu q : Int), Ev (fun k => gamehallref1_After.j7 k (rd p.f0 m.f1) m.f0 m.f1 m.f2 c h0 h1 tu q) (c, h0, h1, tu, if rd p.f0 m.f1 > 0 ∨ m.f0 = -1 then 0 else q) := by
    intro c h0 h1 tu q
    refine Ev.step (fun k => by rw [gamehallref1_After.j7]) ?_
    refine ite (fun h => now (by rw [if_pos (Or.inl h)])) (fun h => ?_)
    exact ite (fun h2 => now (by rw [if_pos (Or.inr h2)])) (fun h2 => now (by rw [if_neg (fun hh => hh.elim h h2)]))
  have l1e : ∀ (c h0 h1 : List Int) (tu q : Int), Ev (fun k => gamehallref1_After.l1 k (rd p.f0 m.f1) (wrap64 (1 + 1)) r.f0 r.f1 r.f2 r.f3 r.f4 r.f5 r.f6 r.f7 r.f8 r.f9 r.f10 p.f0 p.f1.f0 p.f1.f1 p.f2 p.f3 m.f0 m.f1 m.f2 c h0 h1 tu q) (c, h0, h1, tu, if rd p.f0 m.f1 > 0 ∨ m.f0 = -1 then 0 else if q > 200 then 200 else q) := by
    intro c h0 h1 tu q
    rw [w11]
    refine Ev.step (fun k => by rw [gamehallref1_After.l1]) ?_
    refine ite (fun h => absurd h (by decide)) (fun _ => ?_)
    refine ite (fun h => ?_) (fun h => ?_)
    · rw [if_pos (c := q > 200) h]; exact j7 c h0 h1 tu 200
    · rw [if_neg (c := q > 200) h]; exact j7 c h0 h1 tu q
  have l1o : ∀ (c h0 : List Int) (tu q : Int), h0.length ≤ 20 → Ev (fun k => gamehallref1_After.l1 k (rd p.f0 m.f1) (wrap64 (0 + 1)) r.f0 r.f1 r.f2 r.f3 r.f4 r.f5 r.f6 r.f7 r.f8 r.f9 r.f10 p.f0 p.f1.f0 p.f1.f1 p.f2 p.f3 m.f0 m.f1 m.f2 c h0 [] tu q) (c, h0, mapS (nH r p m 1) 0 p.f1.f1, tu, if rd p.f0 m.f1 > 0 ∨ m.f0 = -1 then 0 else if q > 200 then 200 else q) := by
    intro c h0 tu q hb
    rw [w01]
    refine Ev.step (fun k => by rw [gamehallref1_After.l1]) ?_
    refine ite (fun _ => ?_) (fun h => absurd (by decide) h)
    refine ite (fun _ => ?_) (fun h => absurd (by decide) h)
    refine ite (fun h => absurd h (by decide)) (fun _ => ?_)
    refine Ev.step (fun k => by rw [gamehallref1_After.j2]) ?_
    have e := l1e c h0 (mapS (nH r p m 1) 0 p.f1.f1) tu q
    exact aft_l2 r p hr hp m lm 1 p.f1.f1 (Or.inr rfl) rfl c tu q _ p.f1.f1.length 0 h0 [] (by omega) (by omega) (by simp; omega) (by simpa using e)
  have l1z : ∀ (c : List Int) (tu q : Int), Ev (fun k => gamehallref1_After.l1 k (rd p.f0 m.f1) 0 r.f0 r.f1 r.f2 r.f3 r.f4 r.f5 r.f6 r.f7 r.f8 r.f9 r.f10 p.f0 p.f1.f0 p.f1.f1 p.f2 p.f3 m.f0 m.f1 m.f2 c [] [] tu q) (c, mapS (nH r p m 0) 0 p.f1.f0, mapS (nH r p m 1) 0 p.f1.f1, tu, if rd p.f0 m.f1 > 0 ∨ m.f0 = -1 then 0 else if q > 200 then 200 else q) := by
    intro c tu q
    refine Ev.step (fun k => by rw [gamehallref1_After.l1]) ?_
    refine ite (fun _ => ?_) (fun h => absurd (by decide) h)
    refine ite (fun _ => ?_) (fun h => absurd (by decide) h)
    refine ite (fun _ => ?_) (fun h => absurd rfl h)
    refine Ev.step (fun k => by rw [gamehallref1_After.j2]) ?_
    have e := l1o c (mapS (nH r p m 0) 0 p.f1.f0) tu q (by rw [map_len]; omega)
    exact aft_l2 r p hr hp m lm 0 p.f1.f0 (Or.inl rfl) rfl c tu q _ p.f1.f0.length 0 [] [] (by omega) (by simp; omega) (by simp; omega) (by simpa using e)
  have hcv : wrap64 (wrap64 (wrap64 (2 * m.f2) + p.f2) + 1) = 2 * m.f2 + p.f2 + 1 := by
    rw [w64 (n := 2 * m.f2) (by omega) (by omega), w64 (n := 2 * m.f2 + p.f2) (by omega) (by omega), w64 (by omega) (by omega)]
  have l0 : ∀ (d i : Nat) (c : List Int) (tu q : Int), i + d = p.f0.length → c.length + d ≤ 100 → Ev (fun k => gamehallref1_After.l0 k (rd p.f0 m.f1) p.f0 (p.f0.length : Int) (i : Int) r.f0 r.f1 r.f2 r.f3 r.f4 r.f5 r.f6 r.f7 r.f8 r.f9 r.f10 p.f0 p.f1.f0 p.f1.f1 p.f2 p.f3 m.f0 m.f1 m.f2 c tu q) (c ++ mapS (nC p m) (i : Int) (p.f0.drop i), mapS (nH r p m 0) 0 p.f1.f0, mapS (nH r p m 1) 0 p.f1.f1, tu, if rd p.f0 m.f1 > 0 ∨ m.f0 = -1 then 0 else if q > 200 then 200 else q) := by
    intro d
    induction d with
    | zero =>
      intro i c tu q hi hb
      refine Ev.step (fun k => by rw [gamehallref1_After.l0]) ?_
      rw [map_end _ p.f0 i (by omega), List.append_nil]
      exact ite (fun h => absurd h (by omega)) (fun _ => l1z c tu q)
    | succ d ih =>
      intro i c tu q hi hb
      have hi1 : i < p.f0.length := by omega
      have hi2 : (i : Int) < (p.f0.length : Int) := by omega
      have hcl : c.length < 17592186044416 := by omega
      have e2 : ∀ v : Int, v = nC p m (i : Int) (rd p.f0 (i : Int)) → Ev (fun k => gamehallref1_After.l0 k (rd p.f0 m.f1) p.f0 (p.f0.length : Int) (wrap64 ((i : Int) + 1)) r.f0 r.f1 r.f2 r.f3 r.f4 r.f5 r.f6 r.f7 r.f8 r.f9 r.f10 p.f0 p.f1.f0 p.f1.f1 p.f2 p.f3 m.f0 m.f1 m.f2 (c ++ [v]) tu q) (c ++ mapS (nC p m) (i : Int) (p.f0.drop i), mapS (nH r p m 0) 0 p.f1.f0, mapS (nH r p m 1) 0 p.f1.f1, tu, if rd p.f0 m.f1 > 0 ∨ m.f0 = -1 then 0 else if q > 200 then 200 else q) := by
        intro v hv
        rw [wnx i (by omega), map_drop _ p.f0 i hi1, ← hv]
        have h := ih (i + 1) (c ++ [v]) tu q (by omega) (by simp; omega)
        simp only [List.append_assoc, List.cons_append, List.nil_append] at h
        exact h
      refine Ev.step (fun k => by rw [gamehallref1_After.l0]) ?_
      rw [hcv]
      refine ite (fun _ => ?_) (fun h => absurd hi2 h)
      refine ite (fun _ => ?_) (fun h => absurd (Int.natCast_nonneg _) h)
      refine ite (fun _ => ?_) (fun h => absurd hi2 h)
      refine ite (fun h => ite (fun _ => e2 _ (by unfold nC; rw [if_pos h])) (fun hh => absurd hcl hh)) (fun h => ?_)
      refine ite (fun h2 => ite (fun _ => e2 _ (by unfold nC; rw [if_neg h, if_pos h2])) (fun hh => absurd hcl hh)) (fun h2 => ?_)
      exact ite (fun _ => e2 _ (by unfold nC; rw [if_neg h, if_neg h2])) (fun hh => absurd hcl hh)
  refine ⟨if rd p.f0 m.f1 > 0 ∨ m.f0 = -1 then 0 else if p.f3 + 1 > 200 then 200 else p.f3 + 1, ?_⟩
  unfold gamehallref1_After.f
  refine ite (fun _ => ?_) (fun h => absurd lm.t.1 h)
  refine ite (fun _ => ?_) (fun h => absurd lm.t.2 h)
  rw [htu, hqu]
  exact l0 p.f0.length 0 [] (1 - p.f2) (p.f3 + 1) (by omega) (by simp; omega)
end Co
end Go.Proofs.Ytloadbbndnmdlaa.Pure
