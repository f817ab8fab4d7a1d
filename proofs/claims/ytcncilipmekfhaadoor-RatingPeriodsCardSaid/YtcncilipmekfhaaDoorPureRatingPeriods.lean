/- RatingPeriods: for every input the law answers true. -/
import Derived.Test.YtcncilipmekfhaaDoorPRatingPeriodsx5
import Derived.Test.YtcncilipmekfhaaDoorAid
namespace Go.Proofs.YtcncilipmekfhaaDoor.Pure
open Go.RowKit Go.Proofs.YtcncilipmekfhaaDoor.PRatingPeriods Go.Proofs.YtcncilipmekfhaaDoorW.PrintWords Go.Proofs.YtcncilipmekfhaaDoorW.PrintLast

set_option linter.unusedSimpArgs false
set_option linter.unusedVariables false
namespace RaRatingPeriods
open Aid
theorem one {α : Type} {g : Nat → Option α} {x y : α} (h : Ev g x) (h' : Ev g y) : x = y := by
  obtain ⟨K, e⟩ := h
  obtain ⟨K', e'⟩ := h'
  exact Option.some.inj ((e (K + K') (by omega)).symm.trans (e' (K + K') (by omega)))
theorem rdn (xs : List Int) (i : Nat) (h : i < xs.length) : rd xs (i : Int) = xs[i] := by simp [rd, List.getD_eq_getElem?_getD, h]
/-- how many steps a difference reaches -/
def cnt (d : Int) (l : List Int) : Nat := l.countP (fun s => decide (100 * s ≤ d))
theorem cnt_le (d : Int) (l : List Int) : cnt d l ≤ l.length := List.countP_le_length
theorem cnt_cons (d s : Int) (l : List Int) : cnt d (s :: l) = cnt d l + (if 100 * s ≤ d then 1 else 0) := by
  unfold cnt; rw [List.countP_cons]; simp
def hundE (d : Int) : Int := if d < 0 then 100 - (50 + (cnt (-d) stepsL : Int)) else 50 + (cnt d stepsL : Int)
theorem small (s : Int) (h : s ∈ stepsL) : 0 ≤ s ∧ s ≤ 392 := by
  have : ∀ s ∈ stepsL, 0 ≤ s ∧ s ≤ 392 := by decide
  exact this s h
theorem hundE_range (d : Int) : 8 ≤ hundE d ∧ hundE d ≤ 92 := by
  have h1 := cnt_le (-d) stepsL
  have h2 := cnt_le d stepsL
  have : stepsL.length = 42 := rfl
  unfold hundE; split <;> omega
/-! Expect -/
theorem exp_l0 (d : Int) : ∀ (m i : Nat) (x : Int), i + m = 42 → 0 ≤ x ∧ x + m ≤ 200 → Ev (fun k => rating_Expect.l0 k d x (i : Int)) (x + (cnt d (stepsL.drop i) : Int)) := by
  intro m
  induction m with
  | zero =>
    intro i x hi hx
    refine Ev.step (fun k => by rw [rating_Expect.l0]) ?_
    refine Aid.ite (fun hc => absurd hc (by omega)) (fun _ => now ?_)
    have : stepsL.drop i = [] := List.drop_eq_nil_of_le (by show 42 ≤ i; omega)
    rw [this]; simp [cnt]
  | succ m ih =>
    intro i x hi hx
    have hlt : i < stepsL.length := by show i < 42; omega
    have hs := small stepsL[i] (List.getElem_mem hlt)
    have hd : stepsL.drop i = stepsL[i] :: stepsL.drop (i + 1) := List.drop_eq_getElem_cons hlt
    have hw := Aside0.mk (show wrap64 ((i : Int) + 1) = ((i + 1 : Nat) : Int) from by rw [w64s (by omega) (by omega)]; omega)
    refine Ev.step (fun k => by rw [rating_Expect.l0]) ?_
    rw [rdn _ _ hlt, hd, cnt_cons, hw.out]
    generalize stepsL[i] = s at hs
    rw [w64 (n := 100 * s) (by omega) (by omega)]
    refine Aid.ite (fun _ => ?_) (fun hc => absurd (show (i : Int) < 42 by omega) hc)
    refine Aid.ite (fun _ => ?_) (fun hc => absurd (show 0 ≤ (i : Int) by omega) hc)
    refine Aid.ite (fun hc => ?_) (fun hc => ?_)
    · rw [if_pos (by omega), w64s (n := x) (by omega) (by omega)]
      exact ev_eq (ih (i + 1) (x + 1) (by omega) (by omega)) (by omega)
    · rw [if_neg (by omega)]
      exact ev_eq (ih (i + 1) x (by omega) (by omega)) (by omega)
theorem exp_pos (d : Int) (h : 0 ≤ d) : Ev (fun k => rating_Expect.f k d) (50 + (cnt d stepsL : Int)) := by
  refine Ev.step (fun k => by rw [rating_Expect.f]) ?_
  refine Aid.ite (fun hc => absurd hc (by omega)) (fun _ => ?_)
  exact exp_l0 d 42 0 50 rfl (by omega)
theorem cnt_all (d : Int) (h : 39200 ≤ d) : ∀ l : List Int, (∀ s ∈ l, s ≤ 392) → cnt d l = l.length := by
  intro l hl
  unfold cnt
  rw [List.countP_eq_length]
  intro s hs
  have := hl s hs
  exact decide_eq_true (by omega)
theorem exp_ev (d : Int) (h : -4611686018427387904 ≤ d ∧ d ≤ 4611686018427387904) : Ev (fun k => rating_Expect.f k d) (hundE d) := by
  by_cases hd : d < 0
  · have e : hundE d = 100 - (50 + (cnt (-d) stepsL : Int)) := if_pos hd
    rw [e]
    have hc := cnt_le (-d) stepsL
    have hl : stepsL.length = 42 := rfl
    refine Ev.step (fun k => by rw [rating_Expect.f]) ?_
    refine Aid.ite (fun _ => ?_) (fun hc => absurd hd hc)
    have hm : wrap64 (-(mx d (-4000000))) = -(mx d (-4000000)) := by
      apply w64 <;> (unfold mx; split <;> omega)
    rw [hm]
    have e2 : cnt (-(mx d (-4000000))) stepsL = cnt (-d) stepsL := by
      unfold mx
      split
      · rename_i hlt
        rw [cnt_all _ (by omega) stepsL (fun s hs => (small s hs).2), cnt_all _ (by omega) stepsL (fun s hs => (small s hs).2)]
      · rfl
    have hp : 0 ≤ -(mx d (-4000000)) := by unfold mx; split <;> omega
    refine Ev.bind (exp_pos _ hp) (now ?_)
    rw [e2, w64 (n := 100 - (50 + (cnt (-d) stepsL : Int))) (by omega) (by omega)]
  · have e : hundE d = 50 + (cnt d stepsL : Int) := if_neg hd
    rw [e]
    exact exp_pos d (by omega)
/-! Hundredths -/
theorem cnt_append (d : Int) (a b : List Int) : cnt d (a ++ b) = cnt d a + cnt d b := by unfold cnt; exact List.countP_append
theorem ge_iff (d s : Int) (h : 0 ≤ d) : Int.tdiv d 100 ≥ s ↔ 100 * s ≤ d := by
  rw [Int.tdiv_eq_ediv_of_nonneg h]; omega
theorem hun_l1 (d : Int) (hd : 0 ≤ d ∧ d ≤ 4611686018427387904) (rows : List (List Int)) (L x21 : Int) (xs : List Int) (hxs : xs.length ≤ 50) (r : Int) : ∀ (m i : Nat) (x : Int), i + m = xs.length → 0 ≤ x ∧ x + m ≤ 1000 →
    Ev (fun k => gamehallref3_Hundredths.l0 k d (x + (cnt d (xs.drop i) : Int)) rows L (wrap64 (x21 + 1))) r →
    Ev (fun k => gamehallref3_Hundredths.l1 k d x rows L x21 xs (xs.length : Int) (i : Int)) r := by
  intro m
  induction m with
  | zero =>
    intro i x hi hx e
    refine Ev.step (fun k => by rw [gamehallref3_Hundredths.l1]) ?_
    refine Aid.ite (fun hc => absurd hc (by omega)) (fun _ => ?_)
    have : xs.drop i = [] := List.drop_eq_nil_of_le (by omega)
    rw [this] at e
    simpa [cnt] using e
  | succ m ih =>
    intro i x hi hx e
    have hlt : i < xs.length := by omega
    have hdr : xs.drop i = xs[i] :: xs.drop (i + 1) := List.drop_eq_getElem_cons hlt
    rw [hdr, cnt_cons] at e
    have hw := Aside0.mk (show wrap64 ((i : Int) + 1) = ((i + 1 : Nat) : Int) from by rw [w64s (by omega) (by omega)]; omega)
    have hdiv := Aside0.mk (show wrap64 (Int.tdiv d 100) = Int.tdiv d 100 from by rw [Int.tdiv_eq_ediv_of_nonneg hd.1]; exact w64 (by omega) (by omega))
    have hr := Aside0.mk (rdn xs i hlt)
    refine Ev.step (fun k => by rw [gamehallref3_Hundredths.l1]) ?_
    rw [hr.out, hw.out, hdiv.out]
    generalize xs[i] = s at e
    refine Aid.ite (fun _ => ?_) (fun hc => absurd (show (i : Int) < (xs.length : Int) by omega) hc)
    refine Aid.ite (fun _ => ?_) (fun hc => absurd (show 0 ≤ (i : Int) by omega) hc)
    refine Aid.ite (fun _ => ?_) (fun hc => absurd (show (i : Int) < (xs.length : Int) by omega) hc)
    refine Aid.ite (fun hc => ?_) (fun hc => ?_)
    · rw [if_pos ((ge_iff d s hd.1).mp hc)] at e
      rw [w64s (n := x) (by omega) (by omega)]
      refine ih (i + 1) (x + 1) (by omega) (by omega) ?_
      rw [show x + 1 + (cnt d (xs.drop (i + 1)) : Int) = x + ((cnt d (xs.drop (i + 1)) + 1 : Nat) : Int) by omega]
      exact e
    · rw [if_neg (fun q => hc ((ge_iff d s hd.1).mpr q))] at e
      exact ih (i + 1) x (by omega) (by omega) e
theorem rdl1 (xs : List (List Int)) (i : Nat) (h : i < xs.length) : rd_L1 xs (i : Int) = xs[i] := by simp [rd_L1, List.getD_eq_getElem?_getD, h]
theorem hun_l0 (d : Int) (hd : 0 ≤ d ∧ d ≤ 4611686018427387904) (rows : List (List Int)) (hr : rows.length ≤ 10) (hr2 : ∀ xs ∈ rows, xs.length ≤ 50) : ∀ (m i : Nat) (x : Int), i + m = rows.length → 0 ≤ x ∧ x + 50 * m ≤ 500 →
    Ev (fun k => gamehallref3_Hundredths.l0 k d x rows (rows.length : Int) (i : Int)) (50 + (x + (cnt d (rows.drop i).flatten : Int))) := by
  intro m
  induction m with
  | zero =>
    intro i x hi hx
    refine Ev.step (fun k => by rw [gamehallref3_Hundredths.l0]) ?_
    refine Aid.ite (fun hc => absurd hc (by omega)) (fun _ => now ?_)
    have : rows.drop i = [] := List.drop_eq_nil_of_le (by omega)
    rw [this, w64 (n := 50 + x) (by omega) (by omega)]; simp [cnt]
  | succ m ih =>
    intro i x hi hx
    have hlt : i < rows.length := by omega
    have hdr : rows.drop i = rows[i] :: rows.drop (i + 1) := List.drop_eq_getElem_cons hlt
    have hln := hr2 rows[i] (List.getElem_mem hlt)
    have hrr := Aside0.mk (rdl1 rows i hlt)
    refine Ev.step (fun k => by rw [gamehallref3_Hundredths.l0]) ?_
    rw [hrr.out, hdr, List.flatten_cons, cnt_append]
    generalize rows[i] = xs at hln
    have hc := cnt_le d xs
    refine Aid.ite (fun _ => ?_) (fun hc => absurd (show (i : Int) < (rows.length : Int) by omega) hc)
    refine Aid.ite (fun _ => ?_) (fun hc => absurd (show 0 ≤ (i : Int) by omega) hc)
    refine Aid.ite (fun _ => ?_) (fun hc => absurd (show (i : Int) < (rows.length : Int) by omega) hc)
    refine hun_l1 d hd rows _ (i : Int) xs hln _ xs.length 0 x (by omega) (by omega) ?_
    rw [show wrap64 ((i : Int) + 1) = ((i + 1 : Nat) : Int) from by rw [w64s (by omega) (by omega)]; omega, List.drop_zero]
    exact ev_eq (ih (i + 1) (x + (cnt d xs : Int)) (by omega) (by omega)) (by omega)
theorem hun_pos (d : Int) (h : 0 ≤ d ∧ d ≤ 4611686018427387904) : Ev (fun k => gamehallref3_Hundredths.f k d) (50 + (cnt d stepsL : Int)) := by
  refine Ev.step (fun k => by rw [gamehallref3_Hundredths.f]) ?_
  refine Aid.ite (fun hc => absurd hc (by omega)) (fun _ => ?_)
  refine bind_now rfl ?_
  exact ev_eq (hun_l0 d h _ (by decide) (by decide) 5 0 0 rfl (by omega)) (by simp [stepsL])
theorem hun_ev (d : Int) (h : -4611686018427387904 ≤ d ∧ d ≤ 4611686018427387904) : Ev (fun k => gamehallref3_Hundredths.f k d) (hundE d) := by
  by_cases hd : d < 0
  · have e : hundE d = 100 - (50 + (cnt (-d) stepsL : Int)) := if_pos hd
    have hc := cnt_le (-d) stepsL
    have hl : stepsL.length = 42 := rfl
    rw [e]
    refine Ev.step (fun k => by rw [gamehallref3_Hundredths.f]) ?_
    refine Aid.ite (fun _ => ?_) (fun hc => absurd hd hc)
    rw [w64 (n := -d) (by omega) (by omega)]
    refine Ev.bind (hun_pos (-d) (by omega)) (now ?_)
    rw [w64 (n := 100 - (50 + (cnt (-d) stepsL : Int))) (by omega) (by omega)]
  · have e : hundE d = 50 + (cnt d stepsL : Int) := if_neg hd
    rw [e]
    exact hun_pos d (by omega)
theorem rates_true : Ev (fun k => gamehalllaw3_rates.f k) true := by
  have h0 : hundE 0 = 50 := by decide
  have h1 : hundE 400 = 51 := by decide
  unfold gamehalllaw3_rates.f
  refine Ev.bind (ev_eq (exp_ev 0 (by omega)) h0) ?_
  refine Aid.ite (fun _ => ?_) (fun hc => absurd rfl hc)
  exact Ev.bind (ev_eq (exp_ev 400 (by omega)) h1) (now rfl)
/-! Check -/
def okr (n : Int) : Prop := -1000000 ≤ n ∧ n ≤ 1000000
instance (n : Int) : Decidable (okr n) := by unfold okr; infer_instance
def chkE (l : List Int) : Int := if l.length = 0 ∨ l.length > 64 then 2 else if ∀ n ∈ l, okr n then 0 else 4
theorem chk_l0 (l : List Int) (hl : l.length ≤ 64) : ∀ (m i : Nat), i + m = l.length → Ev (fun k => rating_Check.l0 k l (l.length : Int) (i : Int)) (if ∀ n ∈ l.drop i, okr n then 0 else 4) := by
  intro m
  induction m with
  | zero =>
    intro i hi
    refine Ev.step (fun k => by rw [rating_Check.l0]) ?_
    refine Aid.ite (fun hc => absurd hc (by omega)) (fun _ => now ?_)
    have : l.drop i = [] := List.drop_eq_nil_of_le (by omega)
    rw [this, if_pos (by simp)]
  | succ m ih =>
    intro i hi
    have hlt : i < l.length := by omega
    have hdr : l.drop i = l[i] :: l.drop (i + 1) := List.drop_eq_getElem_cons hlt
    have hw := Aside0.mk (show wrap64 ((i : Int) + 1) = ((i + 1 : Nat) : Int) from by rw [w64s (by omega) (by omega)]; omega)
    have hr := Aside0.mk (rdn l i hlt)
    have e := ih (i + 1) (by omega)
    refine Ev.step (fun k => by rw [rating_Check.l0]) ?_
    rw [hr.out, hw.out, hdr]
    generalize l[i] = n
    refine Aid.ite (fun _ => ?_) (fun hc => absurd (show (i : Int) < (l.length : Int) by omega) hc)
    refine Aid.ite (fun _ => ?_) (fun hc => absurd (show 0 ≤ (i : Int) by omega) hc)
    refine Aid.ite (fun _ => ?_) (fun hc => absurd (show (i : Int) < (l.length : Int) by omega) hc)
    refine Aid.ite (fun hc => now (if_neg (fun q => by have := q n (by simp); unfold okr at this; omega)).symm) (fun h1 => ?_)
    refine Aid.ite (fun hc => now (if_neg (fun q => by have := q n (by simp); unfold okr at this; omega)).symm) (fun h2 => ?_)
    have hn : okr n := by unfold okr; omega
    by_cases hrest : ∀ x ∈ l.drop (i + 1), okr x
    · rw [if_pos hrest] at e
      rw [if_pos (fun x hx => (List.mem_cons.mp hx).elim (fun q => q ▸ hn) (fun q => hrest x q))]; exact e
    · rw [if_neg hrest] at e
      rw [if_neg (fun q => hrest (fun x hx => q x (List.mem_cons_of_mem _ hx)))]; exact e
theorem chk_ev (l : List Int) : Ev (fun k => rating_Check.f k l) (chkE l) := by
  have main : ∀ c, c = decide (l.length = 0 ∨ l.length > 64) → Ev (fun k => rating_Check.j0 k l c) (chkE l) := by
    intro c hc
    refine Ev.step (fun k => by rw [rating_Check.j0]) ?_
    unfold chkE
    refine Aid.ite (fun h => ?_) (fun h => ?_)
    · rw [hc] at h
      exact now (if_pos (of_decide_eq_true h)).symm
    · have h1 : ¬ (l.length = 0 ∨ l.length > 64) := fun q => h (by rw [hc]; exact decide_eq_true q)
      rw [if_neg h1]
      exact chk_l0 l (by omega) l.length 0 (by omega)
  unfold rating_Check.f
  refine Aid.ite (fun h => main _ (decide_eq_true (by omega)).symm) (fun h => main _ ?_)
  apply decide_eq_decide.mpr; omega
theorem chk0 {l : List Int} (h : chkE l = 0) : 0 < l.length ∧ l.length ≤ 64 ∧ ∀ n ∈ l, okr n := by
  unfold chkE at h
  by_cases h1 : l.length = 0 ∨ l.length > 64
  · rw [if_pos h1] at h; exact absurd h (by decide)
  · rw [if_neg h1] at h
    by_cases h2 : ∀ n ∈ l, okr n
    · exact ⟨by omega, by omega, h2⟩
    · rw [if_neg h2] at h; exact absurd h (by decide)
/-! Change -/
def delta (a b p q : Int) : Int := wrap64 (q * (wrap64 ((wrap64 (50 * p)) - hundE (a - b))))
theorem change_ev (a b p q : Int) (ha : okr a) (hb : okr b) : Ev (fun k => rating_Change.f k a b p q) (if p < 0 ∨ p > 2 then (0, 1) else if q < 1 ∨ q > 64 then (0, 4) else (delta a b p q, 0)) := by
  have hc : chkE [a, b] = 0 := by
    unfold chkE
    rw [if_neg (by simp), if_pos (fun n hn => by simp at hn; rcases hn with rfl | rfl <;> assumption)]
  have main : ∀ c, c = decide (p < 0 ∨ p > 2) → Ev (fun k => rating_Change.j0 k a b p q c) (if p < 0 ∨ p > 2 then (0, 1) else if q < 1 ∨ q > 64 then (0, 4) else (delta a b p q, 0)) := by
    intro c hc
    refine Ev.step (fun k => by rw [rating_Change.j0]) ?_
    refine Aid.ite (fun h => ?_) (fun h => ?_)
    · rw [hc] at h
      exact now (if_pos (of_decide_eq_true h)).symm
    · have h1 : ¬ (p < 0 ∨ p > 2) := fun z => h (by rw [hc]; exact decide_eq_true z)
      rw [if_neg h1]
      refine Aid.ite (fun z => now (if_pos (.inl z)).symm) (fun z1 => ?_)
      refine Aid.ite (fun z => now (if_pos (.inr z)).symm) (fun z2 => ?_)
      rw [if_neg (by omega)]
      unfold okr at ha hb
      rw [w64 (n := a - b) (by omega) (by omega)]
      exact Ev.bind (exp_ev (a - b) (by omega)) (Ev.now _)
  unfold rating_Change.f
  refine Ev.bind (ev_eq (chk_ev [a, b]) hc) ?_
  refine Aid.ite (fun _ => ?_) (fun hh => absurd rfl hh)
  refine Aid.ite (fun h => main _ (decide_eq_true (by omega)).symm) (fun h => main _ ?_)
  apply decide_eq_decide.mpr; omega
theorem same_l0 (l : List Int) (hl : l.length ≤ 100000) : ∀ (m i : Nat), i + m = l.length → Ev (fun k => gamehalllaw3_sameInts.l0 k l l (l.length : Int) (i : Int)) true := by
  intro m
  induction m with
  | zero =>
    intro i hi
    refine Ev.step (fun k => by rw [gamehalllaw3_sameInts.l0]) ?_
    exact Aid.ite (fun hc => absurd hc (by omega)) (fun _ => Ev.now _)
  | succ m ih =>
    intro i hi
    have e := ih (i + 1) (by omega)
    refine Ev.step (fun k => by rw [gamehalllaw3_sameInts.l0]) ?_
    rw [show wrap64 ((i : Int) + 1) = ((i + 1 : Nat) : Int) from by rw [w64s (by omega) (by omega)]; omega]
    refine Aid.ite (fun _ => ?_) (fun hc => absurd (show (i : Int) < (l.length : Int) by omega) hc)
    refine Aid.ite (fun _ => ?_) (fun hc => absurd (show 0 ≤ (i : Int) by omega) hc)
    refine Aid.ite (fun _ => ?_) (fun hc => absurd (show (i : Int) < (l.length : Int) by omega) hc)
    refine Aid.ite (fun _ => ?_) (fun hc => absurd (show (i : Int) < (l.length : Int) by omega) hc)
    exact Aid.ite (fun _ => e) (fun hc => absurd rfl hc)
theorem same_ev (l : List Int) (hl : l.length ≤ 100000) : Ev (fun k => gamehalllaw3_sameInts.f k l l) true := by
  unfold gamehalllaw3_sameInts.f
  exact Aid.ite (fun _ => same_l0 l hl l.length 0 (by omega)) (fun hc => absurd rfl hc)
theorem rd41 (xs : List S41) (i : Nat) (h : i < xs.length) : rd_T41 xs (i : Int) = xs[i] := by simp [rd_T41, List.getD_eq_getElem?_getD, h]
theorem rd_mem (l : List Int) (i : Int) (h0 : 0 ≤ i) (h1 : i < l.length) : rd l i ∈ l := by
  obtain ⟨n, rfl⟩ : ∃ n : Nat, i = (n : Int) := ⟨i.toNat, by omega⟩
  rw [rdn l n (by omega)]; exact List.getElem_mem _
def badF (n : Nat) (g : S41) : Prop := g.f0 < 0 ∨ g.f1 < 0 ∨ g.f0 ≥ n ∨ g.f1 ≥ n ∨ g.f0 = g.f1
instance (n : Nat) (g : S41) : Decidable (badF n g) := by unfold badF; infer_instance
theorem mn_neg (x y : Int) : mn x y < 0 ↔ x < 0 ∨ y < 0 := by unfold mn; split <;> omega
theorem mx_ge (x y n : Int) : mx x y ≥ n ↔ x ≥ n ∨ y ≥ n := by unfold mx; split <;> omega
def upd (l out : List Int) (q : Int) (g : S41) : List Int :=
  (out.set g.f0.toNat (wrap64 (rd out g.f0 + delta (rd l g.f0) (rd l g.f1) g.f2 q))).set g.f1.toNat (wrap64 (rd (out.set g.f0.toNat (wrap64 (rd out g.f0 + delta (rd l g.f0) (rd l g.f1) g.f2 q))) g.f1 - delta (rd l g.f0) (rd l g.f1) g.f2 q))
theorem upd_len (l out : List Int) (q : Int) (g : S41) : (upd l out q g).length = out.length := by simp [upd]
def perE (l : List Int) (q : Int) : List S41 → List Int → List Int × Int
  | [], out => if chkE out = 0 then (out, 0) else ([], chkE out)
  | g :: gs, out => if badF l.length g then ([], 3) else if g.f2 < 0 ∨ g.f2 > 2 then ([], 1) else if q < 1 ∨ q > 64 then ([], 4) else perE l q gs (upd l out q g)
section
variable (l : List Int) (q : Int) (gs : List S41)
theorem per_l0 (hl : ∀ n ∈ l, okr n) (hg : gs.length ≤ 1000) : ∀ (m i : Nat) (out : List Int), i + m = gs.length → out.length = l.length → Ev (fun k => rating_Period.l0 k l q out gs (gs.length : Int) (i : Int)) (perE l q (gs.drop i) out) := by
  intro m
  induction m with
  | zero =>
    intro i out hi ho
    have : gs.drop i = [] := List.drop_eq_nil_of_le (by omega)
    rw [this, perE]
    refine Ev.step (fun k => by rw [rating_Period.l0]) ?_
    refine Aid.ite (fun hc => absurd hc (by omega)) (fun _ => ?_)
    refine Ev.bind (chk_ev out) ?_
    exact Aid.ite (fun h => now (by rw [if_pos h])) (fun h => now (by rw [if_neg h]))
  | succ m ih =>
    intro i out hi ho
    have hlt : i < gs.length := by omega
    have hdr : gs.drop i = gs[i] :: gs.drop (i + 1) := List.drop_eq_getElem_cons hlt
    have hr := Aside0.mk (rd41 gs i hlt)
    have hw := Aside0.mk (show wrap64 ((i : Int) + 1) = ((i + 1 : Nat) : Int) from by rw [w64s (by omega) (by omega)]; omega)
    have ih' := fun o h => ih (i + 1) o (by omega) h
    refine Ev.step (fun k => by rw [rating_Period.l0]) ?_
    rw [hr.out, hdr, perE]
    generalize gs[i] = g
    have j1 : ∀ c, c = decide (badF l.length g) → Ev (fun k => rating_Period.j1 k l q out gs (gs.length : Int) (i : Int) c g.f0 g.f1 g.f2) (if badF l.length g then ([], 3) else if g.f2 < 0 ∨ g.f2 > 2 then ([], 1) else if q < 1 ∨ q > 64 then ([], 4) else perE l q (gs.drop (i + 1)) (upd l out q g)) := by
      intro c hc
      refine Ev.step (fun k => by rw [rating_Period.j1]) ?_
      refine Aid.ite (fun h => ?_) (fun h => ?_)
      · rw [hc] at h; exact now (if_pos (of_decide_eq_true h)).symm
      · have hb : ¬ badF l.length g := fun z => h (by rw [hc]; exact decide_eq_true z)
        rw [if_neg hb, hw.out]
        unfold badF at hb
        refine Aid.ite (fun _ => ?_) (fun hc => absurd (show 0 ≤ g.f0 by omega) hc)
        refine Aid.ite (fun _ => ?_) (fun hc => absurd (show g.f0 < (l.length : Int) by omega) hc)
        refine Aid.ite (fun _ => ?_) (fun hc => absurd (show 0 ≤ g.f1 by omega) hc)
        refine Aid.ite (fun _ => ?_) (fun hc => absurd (show g.f1 < (l.length : Int) by omega) hc)
        refine Ev.bind (change_ev _ _ g.f2 q (hl _ (rd_mem l g.f0 (by omega) (by omega))) (hl _ (rd_mem l g.f1 (by omega) (by omega)))) ?_
        by_cases hp : g.f2 < 0 ∨ g.f2 > 2
        · rw [if_pos hp, if_pos hp]; exact Aid.ite (fun z => absurd z (by decide)) (fun _ => Ev.now _)
        · rw [if_neg hp, if_neg hp]
          by_cases hq : q < 1 ∨ q > 64
          · rw [if_pos hq, if_pos hq]; exact Aid.ite (fun z => absurd z (by decide)) (fun _ => Ev.now _)
          · rw [if_neg hq, if_neg hq]
            refine Aid.ite (fun _ => ?_) (fun hc => absurd rfl hc)
            refine Aid.ite (fun _ => ?_) (fun hc => absurd (show g.f0 < (out.length : Int) by omega) hc)
            refine bind_now rfl ?_
            refine Aid.ite (fun _ => ?_) (fun hc => absurd (show g.f1 < (out.length : Int) by omega) hc)
            exact ih' (upd l out q g) (by rw [upd_len]; exact ho)
    refine Aid.ite (fun _ => ?_) (fun hc => absurd (show (i : Int) < (gs.length : Int) by omega) hc)
    refine Aid.ite (fun _ => ?_) (fun hc => absurd (show 0 ≤ (i : Int) by omega) hc)
    refine Aid.ite (fun _ => ?_) (fun hc => absurd (show (i : Int) < (gs.length : Int) by omega) hc)
    refine Aid.ite (fun h => j1 _ (decide_eq_true (by rw [mn_neg] at h; unfold badF; omega)).symm) (fun h1 => ?_)
    refine Aid.ite (fun h => j1 _ (decide_eq_true (by rw [mx_ge] at h; unfold badF; omega)).symm) (fun h2 => j1 _ ?_)
    rw [mn_neg] at h1; rw [mx_ge] at h2
    rw [Bool.eq_iff_iff, beq_iff_eq, decide_eq_true_iff]; unfold badF; omega
theorem per_f (h : chkE l = 0) (hg : gs.length ≤ 256) : Ev (fun k => rating_Period.f k l gs q) (perE l q gs l) := by
  obtain ⟨h1, h2, h3⟩ := chk0 h
  unfold rating_Period.f
  refine Ev.bind (ev_eq (chk_ev l) h) ?_
  refine Aid.ite (fun _ => ?_) (fun hc => absurd rfl hc)
  refine Aid.ite (fun hc => absurd hc (by omega)) (fun _ => ?_)
  refine bind_now rfl ?_
  refine Aid.ite (fun _ => ?_) (fun hc => absurd (show ([] : List Int).length + l.length < 17592186044416 by simp; omega) hc)
  exact per_l0 l q gs h3 (by omega) gs.length 0 l (by omega) rfl
theorem per_bad (v : Int) (hv : chkE l = v) (h : v ≠ 0) : Ev (fun k => rating_Period.f k l gs q) ([], v) := by
  unfold rating_Period.f
  refine Ev.bind (ev_eq (chk_ev l) hv) ?_
  exact Aid.ite (fun hc => absurd hc h) (fun _ => Ev.now _)
theorem law_l0 (hl : ∀ n ∈ l, okr n) (hll : l.length ≤ 64) (hg : gs.length ≤ 1000) (R : List Int × Int) : ∀ (m i : Nat) (want : List Int), i + m = gs.length → want.length = l.length → R = perE l q (gs.drop i) want →
    Ev (fun k => gamehalllaw3_RatingPeriods.l0 k l q R.1 R.2 want gs (gs.length : Int) (i : Int)) true := by
  intro m
  induction m with
  | zero =>
    intro i want hi ho hR
    have : gs.drop i = [] := List.drop_eq_nil_of_le (by omega)
    rw [this, perE] at hR
    refine Ev.step (fun k => by rw [gamehalllaw3_RatingPeriods.l0]) ?_
    refine Aid.ite (fun hc => absurd hc (by omega)) (fun _ => ?_)
    refine Ev.bind (chk_ev want) ?_
    refine Aid.ite (fun h => ?_) (fun h => ?_)
    · rw [if_pos h] at hR
      subst hR
      refine Aid.ite (fun _ => ?_) (fun hc => absurd rfl hc)
      exact Ev.bind (same_ev want (by omega)) (Ev.now _)
    · rw [if_neg h] at hR
      subst hR
      exact Aid.ite (fun _ => now rfl) (fun hc => absurd rfl hc)
  | succ m ih =>
    intro i want hi ho hR
    have hlt : i < gs.length := by omega
    have hdr : gs.drop i = gs[i] :: gs.drop (i + 1) := List.drop_eq_getElem_cons hlt
    have hr := Aside0.mk (rd41 gs i hlt)
    have hw := Aside0.mk (show wrap64 ((i : Int) + 1) = ((i + 1 : Nat) : Int) from by rw [w64s (by omega) (by omega)]; omega)
    have ih' := fun o h => ih (i + 1) o (by omega) h
    rw [hdr, perE] at hR
    refine Ev.step (fun k => by rw [gamehalllaw3_RatingPeriods.l0]) ?_
    rw [hr.out]
    generalize gs[i] = g at hR
    have j3 : ∀ c, c = decide (badF l.length g) → Ev (fun k => gamehalllaw3_RatingPeriods.j3 k l q R.1 R.2 want gs (gs.length : Int) (i : Int) c g.f0 g.f1 g.f2) true := by
      intro c hc
      refine Ev.step (fun k => by rw [gamehalllaw3_RatingPeriods.j3]) ?_
      refine Aid.ite (fun h => ?_) (fun h => ?_)
      · rw [hc] at h
        rw [if_pos (of_decide_eq_true h)] at hR
        subst hR
        exact Aid.ite (fun _ => now rfl) (fun hc => absurd rfl hc)
      · have hb : ¬ badF l.length g := fun z => h (by rw [hc]; exact decide_eq_true z)
        rw [if_neg hb] at hR
        unfold badF at hb
        have j4 : ∀ c, c = decide (g.f2 < 0 ∨ g.f2 > 2) → Ev (fun k => gamehalllaw3_RatingPeriods.j4 k l q R.1 R.2 want gs (gs.length : Int) (i : Int) c g.f0 g.f1 g.f2) true := by
          intro c hc
          refine Ev.step (fun k => by rw [gamehalllaw3_RatingPeriods.j4]) ?_
          refine Aid.ite (fun h => ?_) (fun h => ?_)
          · rw [hc] at h
            rw [if_pos (of_decide_eq_true h)] at hR
            subst hR
            exact Aid.ite (fun _ => now rfl) (fun hc => absurd rfl hc)
          · have hp : ¬ (g.f2 < 0 ∨ g.f2 > 2) := fun z => h (by rw [hc]; exact decide_eq_true z)
            rw [if_neg hp] at hR
            refine Aid.ite (fun z => ?_) (fun z1 => ?_)
            · rw [if_pos (.inl z)] at hR; subst hR
              exact Aid.ite (fun _ => now rfl) (fun hc => absurd rfl hc)
            refine Aid.ite (fun z => ?_) (fun z2 => ?_)
            · rw [if_pos (.inr z)] at hR; subst hR
              exact Aid.ite (fun _ => now rfl) (fun hc => absurd rfl hc)
            rw [if_neg (by omega)] at hR
            rw [hw.out]
            have o1 := hl _ (rd_mem l g.f0 (by omega) (by omega))
            have o2 := hl _ (rd_mem l g.f1 (by omega) (by omega))
            unfold okr at o1 o2
            refine Aid.ite (fun _ => ?_) (fun hc => absurd (show 0 ≤ g.f0 by omega) hc)
            refine Aid.ite (fun _ => ?_) (fun hc => absurd (show g.f0 < (l.length : Int) by omega) hc)
            refine Aid.ite (fun _ => ?_) (fun hc => absurd (show 0 ≤ g.f1 by omega) hc)
            refine Aid.ite (fun _ => ?_) (fun hc => absurd (show g.f1 < (l.length : Int) by omega) hc)
            rw [w64 (n := rd l g.f0 - rd l g.f1) (by omega) (by omega)]
            refine Ev.bind (hun_ev (rd l g.f0 - rd l g.f1) (by omega)) ?_
            refine Aid.ite (fun _ => ?_) (fun hc => absurd (show g.f0 < (want.length : Int) by omega) hc)
            refine bind_now rfl ?_
            refine Aid.ite (fun _ => ?_) (fun hc => absurd (show g.f1 < (want.length : Int) by omega) hc)
            exact ih' (upd l want q g) (by rw [upd_len]; exact ho) hR
        refine Aid.ite (fun h => j4 _ (decide_eq_true (by omega)).symm) (fun h => j4 _ ?_)
        apply decide_eq_decide.mpr; omega
    refine Aid.ite (fun _ => ?_) (fun hc => absurd (show (i : Int) < (gs.length : Int) by omega) hc)
    refine Aid.ite (fun _ => ?_) (fun hc => absurd (show 0 ≤ (i : Int) by omega) hc)
    refine Aid.ite (fun _ => ?_) (fun hc => absurd (show (i : Int) < (gs.length : Int) by omega) hc)
    refine Aid.ite (fun h => j3 _ (decide_eq_true (by rw [mn_neg] at h; unfold badF; omega)).symm) (fun h1 => ?_)
    refine Aid.ite (fun h => j3 _ (decide_eq_true (by rw [mx_ge] at h; unfold badF; omega)).symm) (fun h2 => j3 _ ?_)
    rw [mn_neg] at h1; rw [mx_ge] at h2
    rw [Bool.eq_iff_iff, beq_iff_eq, decide_eq_true_iff]; unfold badF; omega
end
/-! sums -/
def sumE (n : Int) : List Int → Int
  | [] => 0
  | o :: l => hundE (n - o) + sumE n l
theorem sum_range (n : Int) : ∀ l : List Int, 0 ≤ sumE n l ∧ sumE n l ≤ 92 * (l.length : Int)
  | [] => by simp [sumE]
  | o :: l => by
    have h := sum_range n l
    have g := hundE_range (n - o)
    rw [sumE, List.length_cons]; omega
theorem gets_l0 (l : List Int) (hl : ∀ n ∈ l, okr n) (hll : l.length ≤ 64) (n : Int) (hn : -2000000 ≤ n ∧ n ≤ 2000000) : ∀ (m i : Nat) (x : Int), i + m = l.length → 0 ≤ x ∧ x ≤ 92 * (i : Int) → Ev (fun k => gamehalllaw3_gets.l0 k n x l (l.length : Int) (i : Int)) (x + sumE n (l.drop i)) := by
  intro m
  induction m with
  | zero =>
    intro i x hi hx
    have : l.drop i = [] := List.drop_eq_nil_of_le (by omega)
    rw [this, sumE]
    refine Ev.step (fun k => by rw [gamehalllaw3_gets.l0]) ?_
    exact Aid.ite (fun hc => absurd hc (by omega)) (fun _ => now (by omega))
  | succ m ih =>
    intro i x hi hx
    have hlt : i < l.length := by omega
    have hdr : l.drop i = l[i] :: l.drop (i + 1) := List.drop_eq_getElem_cons hlt
    have ho := hl l[i] (List.getElem_mem hlt)
    have hr := Aside0.mk (rdn l i hlt)
    have hw := Aside0.mk (show wrap64 ((i : Int) + 1) = ((i + 1 : Nat) : Int) from by rw [w64s (by omega) (by omega)]; omega)
    unfold okr at ho
    refine Ev.step (fun k => by rw [gamehalllaw3_gets.l0]) ?_
    rw [hr.out, hdr, sumE, hw.out]
    generalize l[i] = o at ho
    have g := hundE_range (n - o)
    rw [w64 (n := n - o) (by omega) (by omega)]
    refine Aid.ite (fun _ => ?_) (fun hc => absurd (show (i : Int) < (l.length : Int) by omega) hc)
    refine Aid.ite (fun _ => ?_) (fun hc => absurd (show 0 ≤ (i : Int) by omega) hc)
    refine Aid.ite (fun _ => ?_) (fun hc => absurd (show (i : Int) < (l.length : Int) by omega) hc)
    refine Ev.bind (hun_ev (n - o) (by omega)) ?_
    rw [w64 (n := x + hundE (n - o)) (by omega) (by omega)]
    exact ev_eq (ih (i + 1) (x + hundE (n - o)) (by omega) (by omega)) (by omega)
theorem gets_f (l : List Int) (hl : ∀ n ∈ l, okr n) (hll : l.length ≤ 64) (n : Int) (hn : -2000000 ≤ n ∧ n ≤ 2000000) : Ev (fun k => gamehalllaw3_gets.f k l n) (sumE n l) := by
  unfold gamehalllaw3_gets.f
  exact ev_eq (gets_l0 l hl hll n hn l.length 0 0 (by omega) (by omega)) (by simp)
theorem perf_l1 (l : List Int) (hl : ∀ n ∈ l, okr n) (hll : l.length ≤ 64) (p low high md : Int) (hm : -10001 ≤ md ∧ md ≤ 10001) (r : Int × Int) : ∀ (m i : Nat) (x : Int), i + m = l.length → 0 ≤ x ∧ x ≤ 92 * (i : Int) →
    Ev (fun k => if x + sumE (100 * md) (l.drop i) ≤ wrap64 (50 * p) then rating_Performance.l0 k l p md high else rating_Performance.l0 k l p low (wrap64 (md - 1))) r →
    Ev (fun k => rating_Performance.l1 k l p low high md x l (l.length : Int) (i : Int)) r := by
  intro m
  induction m with
  | zero =>
    intro i x hi hx e
    have : l.drop i = [] := List.drop_eq_nil_of_le (by omega)
    rw [this, sumE, Int.add_zero] at e
    refine Ev.step (fun k => by rw [rating_Performance.l1]) ?_
    exact Aid.ite (fun hc => absurd hc (by omega)) (fun _ => e)
  | succ m ih =>
    intro i x hi hx e
    have hlt : i < l.length := by omega
    have hdr : l.drop i = l[i] :: l.drop (i + 1) := List.drop_eq_getElem_cons hlt
    have ho := hl l[i] (List.getElem_mem hlt)
    have hr := Aside0.mk (rdn l i hlt)
    have hw := Aside0.mk (show wrap64 ((i : Int) + 1) = ((i + 1 : Nat) : Int) from by rw [w64s (by omega) (by omega)]; omega)
    unfold okr at ho
    rw [hdr, sumE] at e
    refine Ev.step (fun k => by rw [rating_Performance.l1]) ?_
    rw [hr.out, hw.out]
    generalize l[i] = o at ho e
    have g := hundE_range (100 * md - o)
    rw [w64 (n := 100 * md) (by omega) (by omega), w64 (n := 100 * md - o) (by omega) (by omega)]
    refine Aid.ite (fun _ => ?_) (fun hc => absurd (show (i : Int) < (l.length : Int) by omega) hc)
    refine Aid.ite (fun _ => ?_) (fun hc => absurd (show 0 ≤ (i : Int) by omega) hc)
    refine Aid.ite (fun _ => ?_) (fun hc => absurd (show (i : Int) < (l.length : Int) by omega) hc)
    refine Ev.bind (exp_ev (100 * md - o) (by omega)) ?_
    rw [w64 (n := x + hundE (100 * md - o)) (by omega) (by omega)]
    refine ih (i + 1) (x + hundE (100 * md - o)) (by omega) (by omega) ?_
    rw [Int.add_assoc]; exact e
/-- what the search keeps -/
def good (l : List Int) (p v : Int) : Prop := (-10001 ≤ v ∧ v ≤ 10000) ∧ (v = -10001 ∨ sumE (100 * v) l ≤ 50 * p) ∧ (v = 10000 ∨ ¬ sumE (100 * (v + 1)) l ≤ 50 * p)
theorem perf_l0 (l : List Int) (hl : ∀ n ∈ l, okr n) (hll : l.length ≤ 64) (p : Int) (hp : 0 ≤ p ∧ p ≤ 1000) : ∀ (m : Nat) (low high : Int), (high - low).toNat ≤ m → -10001 ≤ low → low ≤ high → high ≤ 10000 → (low = -10001 ∨ sumE (100 * low) l ≤ 50 * p) → (high = 10000 ∨ ¬ sumE (100 * (high + 1)) l ≤ 50 * p) →
    ∃ v, good l p v ∧ Ev (fun k => rating_Performance.l0 k l p low high) (if v < -10000 then (0, 8) else (100 * v, 0)) := by
  have hwp : wrap64 (50 * p) = 50 * p := w64 (by omega) (by omega)
  have done : ∀ low high : Int, -10001 ≤ low → low = high → high ≤ 10000 → (low = -10001 ∨ sumE (100 * low) l ≤ 50 * p) → (high = 10000 ∨ ¬ sumE (100 * (high + 1)) l ≤ 50 * p) → ∃ v, good l p v ∧ Ev (fun k => rating_Performance.l0 k l p low high) (if v < -10000 then (0, 8) else (100 * v, 0)) := by
    intro low high h1 h2 h3 h4 h5
    subst h2
    refine ⟨low, ⟨⟨h1, h3⟩, h4, h5⟩, ?_⟩
    refine Ev.step (fun k => by rw [rating_Performance.l0]) ?_
    refine Aid.ite (fun hc => absurd hc (by omega)) (fun _ => ?_)
    exact Aid.ite (fun h => now (if_pos h).symm) (fun h => now (by rw [if_neg h, w64 (n := 100 * low) (by omega) (by omega)]))
  intro m
  induction m with
  | zero =>
    intro low high hm h1 h2 h3 h4 h5
    exact done low high h1 (by omega) h3 h4 h5
  | succ m ih =>
    intro low high hm h1 h2 h3 h4 h5
    by_cases hlt : low < high
    · have hmid : low < (low + high + 1) / 2 ∧ (low + high + 1) / 2 ≤ high := by omega
      have hw1 := Aside0.mk (show (wrap64 ((wrap64 (low + high)) + 1)) / 2 = (low + high + 1) / 2 from by rw [w64 (n := low + high) (by omega) (by omega), w64 (n := low + high + 1) (by omega) (by omega)])
      have fin : ∀ v, Ev (fun k => if 0 + sumE (100 * ((low + high + 1) / 2)) (l.drop 0) ≤ wrap64 (50 * p) then rating_Performance.l0 k l p ((low + high + 1) / 2) high else rating_Performance.l0 k l p low (wrap64 ((low + high + 1) / 2 - 1))) v → Ev (fun k => rating_Performance.l0 k l p low high) v := by
        intro v e
        refine Ev.step (fun k => by rw [rating_Performance.l0]) ?_
        refine Aid.ite (fun _ => ?_) (fun hc => absurd hlt hc)
        rw [hw1.out]
        exact perf_l1 l hl hll p low high _ (by omega) v l.length 0 0 (by omega) (by omega) e
      generalize (low + high + 1) / 2 = md at hmid fin
      rw [List.drop_zero, Int.zero_add, hwp, w64 (n := md - 1) (by omega) (by omega)] at fin
      by_cases hs : sumE (100 * md) l ≤ 50 * p
      · obtain ⟨v, g, e⟩ := ih md high (by omega) (by omega) (by omega) h3 (.inr hs) h5
        exact ⟨v, g, fin _ (Aid.ite (fun _ => e) (fun hc => absurd hs hc))⟩
      · obtain ⟨v, g, e⟩ := ih low (md - 1) (by omega) h1 (by omega) (by omega) h4 (.inr (by rw [Int.sub_add_cancel]; exact hs))
        exact ⟨v, g, fin _ (Aid.ite (fun hc => absurd hc hs) (fun _ => e))⟩
    · exact done low high h1 (by omega) h3 h4 h5
theorem perf_arg (l : List Int) (p : Int) (h : chkE l = 0) (hp : p < 0 ∨ p > 2 * (l.length : Int)) : Ev (fun k => rating_Performance.f k l p) (0, 1) := by
  have hl := chk0 h
  have t : Ev (fun k => rating_Performance.j0 k l p true) (0, 1) := Ev.step (fun k => by rw [rating_Performance.j0]) (Aid.ite (fun _ => Ev.now _) (fun hc => absurd rfl hc))
  unfold rating_Performance.f
  refine Ev.bind (ev_eq (chk_ev l) h) ?_
  refine Aid.ite (fun _ => ?_) (fun hc => absurd rfl hc)
  rw [w64 (n := 2 * (l.length : Int)) (by omega) (by omega)]
  refine Aid.ite (fun _ => t) (fun hc => ?_)
  rw [decide_eq_true (show p > 2 * (l.length : Int) by omega)]; exact t
theorem perf_bad (l : List Int) (p v : Int) (hv : chkE l = v) (h : v ≠ 0) : Ev (fun k => rating_Performance.f k l p) (0, v) := by
  unfold rating_Performance.f
  refine Ev.bind (ev_eq (chk_ev l) hv) ?_
  exact Aid.ite (fun hc => absurd hc h) (fun _ => Ev.now _)
theorem perf_ok (l : List Int) (p : Int) (h : chkE l = 0) (hp : 0 ≤ p ∧ p ≤ 2 * (l.length : Int)) : ∃ v, good l p v ∧ Ev (fun k => rating_Performance.f k l p) (if v < -10000 then (0, 8) else (100 * v, 0)) := by
  have hl := chk0 h
  obtain ⟨v, g, e⟩ := perf_l0 l hl.2.2 hl.2.1 p (by omega) 20001 (-10001) 10000 (by decide) (by decide) (by decide) (by decide) (.inl rfl) (.inl rfl)
  refine ⟨v, g, ?_⟩
  unfold rating_Performance.f
  refine Ev.bind (ev_eq (chk_ev l) h) ?_
  refine Aid.ite (fun _ => ?_) (fun hc => absurd rfl hc)
  refine Aid.ite (fun hc => absurd hc (by omega)) (fun _ => ?_)
  rw [w64 (n := 2 * (l.length : Int)) (by omega) (by omega), decide_eq_false (show ¬ p > 2 * (l.length : Int) by omega)]
  refine Ev.step (fun k => by rw [rating_Performance.j0]) ?_
  exact Aid.ite (fun hc => absurd hc (by decide)) (fun _ => e)
theorem law_j1 (l : List Int) (gs : List S41) (q : Int) (h : chkE l = 0) (hg : gs.length ≤ 256) : Ev (fun k => gamehalllaw3_RatingPeriods.j1 k l gs q (perE l q gs l).1 (perE l q gs l).2) true := by
  have hl := chk0 h
  refine Ev.step (fun k => by rw [gamehalllaw3_RatingPeriods.j1]) ?_
  refine bind_now rfl ?_
  refine Aid.ite (fun _ => ?_) (fun hc => absurd (show ([] : List Int).length + l.length < 17592186044416 by simp; omega) hc)
  exact law_l0 l q gs hl.2.2 hl.2.1 (by omega) (perE l q gs l) gs.length 0 l (by omega) rfl rfl
theorem law_mid (l : List Int) (gs : List S41) (q p : Int) (h : chkE l = 0) (hg : gs.length ≤ 256) (P : Int × Int) (hP : Ev (fun k => rating_Performance.f k l p) P) (c : Bool) (hc : c = decide (p < 0 ∨ p > 2 * (l.length : Int))) :
    Ev (fun k => gamehalllaw3_RatingPeriods.j0 k l gs q p (perE l q gs l).1 (perE l q gs l).2 P.1 P.2 c) true := by
  have hl := chk0 h
  have j1 := law_j1 l gs q h hg
  refine Ev.step (fun k => by rw [gamehalllaw3_RatingPeriods.j0]) ?_
  refine Aid.ite (fun ht => ?_) (fun ht => ?_)
  · rw [hc] at ht
    have e := one hP (perf_arg l p h (of_decide_eq_true ht))
    subst e
    exact Aid.ite (fun _ => Aid.ite (fun _ => j1) (fun hc => absurd rfl hc)) (fun hc => absurd rfl hc)
  · have hp : ¬ (p < 0 ∨ p > 2 * (l.length : Int)) := fun z => ht (by rw [hc]; exact decide_eq_true z)
    obtain ⟨v, ⟨g1, g2, g3⟩, e⟩ := perf_ok l p h (by omega)
    have e := one hP e
    have hwp : wrap64 (50 * p) = 50 * p := w64 (by omega) (by omega)
    rw [hwp]
    by_cases hv : v < -10000
    · rw [if_pos hv] at e
      subst e
      have hv1 : v = -10001 := by omega
      rw [hv1] at g3
      refine Aid.ite (fun hc => absurd hc (by decide)) (fun _ => ?_)
      refine Aid.ite (fun _ => ?_) (fun hc => absurd rfl hc)
      refine Ev.bind (gets_f l hl.2.2 hl.2.1 (-1000000) (by omega)) ?_
      refine Aid.ite (fun hc => absurd hc ?_) (fun _ => j1)
      rcases g3 with g3 | g3
      · exact absurd g3 (by decide)
      · exact g3
    · rw [if_neg hv] at e
      subst e
      refine Aid.ite (fun _ => ?_) (fun hc => absurd rfl hc)
      refine Aid.ite (fun _ => ?_) (fun hc => absurd (show Int.tmod (100 * v) 100 = 0 from Int.mul_tmod_right 100 v) hc)
      refine Ev.bind (gets_f l hl.2.2 hl.2.1 (100 * v) (by omega)) ?_
      refine Aid.ite (fun hc => absurd hc ?_) (fun _ => ?_)
      · rcases g2 with g2 | g2
        · omega
        · exact Int.not_lt.mpr g2
      refine Aid.ite (fun h6 => ?_) (fun _ => j1)
      have h6' : 100 * v < 1000000 := h6
      dsimp only
      rw [w64 (n := 100 * v + 100) (by omega) (by omega)]
      refine Ev.bind (gets_f l hl.2.2 hl.2.1 (100 * v + 100) (by omega)) ?_
      refine Aid.ite (fun hc => absurd hc ?_) (fun _ => j1)
      rcases g3 with g3 | g3
      · omega
      · rw [Int.mul_add] at g3; exact g3
theorem law (l0 : List Int) (l1 : List S41) (q p : Int) : Ev (fun k => gamehalllaw3_RatingPeriods.f k l0 l1 q p) true := by
  unfold gamehalllaw3_RatingPeriods.f
  refine Ev.bind rates_true ?_
  refine Aid.ite (fun _ => ?_) (fun hc => absurd rfl hc)
  have m1 : 0 ≤ mn (l0.length : Int) 12 ∧ mn (l0.length : Int) 12 ≤ (l0.length : Int) ∧ mn (l0.length : Int) 12 ≤ 12 := by unfold mn; split <;> omega
  have m2 : 0 ≤ mn (l1.length : Int) 30 ∧ mn (l1.length : Int) 30 ≤ (l1.length : Int) ∧ mn (l1.length : Int) 30 ≤ 30 := by unfold mn; split <;> omega
  refine Aid.ite (fun _ => ?_) (fun hc => absurd m1.1 hc)
  refine Aid.ite (fun _ => ?_) (fun hc => absurd m1.2.1 hc)
  refine bind_now rfl ?_
  refine Aid.ite (fun _ => ?_) (fun hc => absurd m2.1 hc)
  refine Aid.ite (fun _ => ?_) (fun hc => absurd m2.2.1 hc)
  refine bind_now rfl ?_
  have hl : (l0.take (mn (l0.length : Int) 12).toNat).length ≤ 12 := by rw [List.length_take]; omega
  have hg : (l1.take (mn (l1.length : Int) 30).toNat).length ≤ 30 := by rw [List.length_take]; omega
  generalize l0.take (mn (l0.length : Int) 12).toNat = l at hl
  generalize l1.take (mn (l1.length : Int) 30).toNat = gs at hg
  by_cases h : chkE l = 0
  · refine Ev.bind (per_f l q gs h (by omega)) ?_
    have ex : ∃ P, Ev (fun k => rating_Performance.f k l p) P := by
      by_cases hp : p < 0 ∨ p > 2 * (l.length : Int)
      · exact ⟨_, perf_arg l p h hp⟩
      · obtain ⟨v, _, e⟩ := perf_ok l p h (by omega)
        exact ⟨_, e⟩
    obtain ⟨P, hP⟩ := ex
    refine Ev.bind hP ?_
    refine Ev.bind (ev_eq (chk_ev l) h) ?_
    refine Aid.ite (fun _ => ?_) (fun hc => absurd rfl hc)
    rw [w64 (n := 2 * (l.length : Int)) (by omega) (by omega)]
    refine Aid.ite (fun hp => law_mid l gs q p h (by omega) P hP true (decide_eq_true (.inl hp)).symm) (fun hp => law_mid l gs q p h (by omega) P hP _ ?_)
    apply decide_eq_decide.mpr; omega
  · refine Ev.bind (per_bad l q gs _ rfl h) ?_
    refine Ev.bind (perf_bad l p _ rfl h) ?_
    refine Ev.bind (chk_ev l) ?_
    refine Aid.ite (fun hc => absurd hc h) (fun _ => ?_)
    refine Aid.ite (fun _ => ?_) (fun hc => absurd rfl hc)
    refine Aid.ite (fun _ => ?_) (fun hc => absurd rfl hc)
    exact now (show (wrap64 ((0 : Int) + 0) == 0) = true by decide +kernel)
end RaRatingPeriods
theorem RatingPeriods : gamehalllaw3_RatingPeriods.Pure := by
  intro l0 l1 a2 a3 _ _ _ _
  obtain ⟨K, e⟩ := RaRatingPeriods.law l0 l1 a2 a3
  exact ⟨K, e K (Nat.le_refl K)⟩
end Go.Proofs.YtcncilipmekfhaaDoor.Pure
