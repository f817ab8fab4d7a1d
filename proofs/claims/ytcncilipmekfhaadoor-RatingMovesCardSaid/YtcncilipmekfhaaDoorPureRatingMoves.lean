/- RatingMoves: for every input the law answers true. -/
import Derived.Test.YtcncilipmekfhaaDoorPRatingMovesx3
import Derived.Test.YtcncilipmekfhaaDoorAid
namespace Go.Proofs.YtcncilipmekfhaaDoor.Pure
open Go.RowKit Go.Proofs.YtcncilipmekfhaaDoor.PRatingMoves Go.Proofs.YtcncilipmekfhaaDoorW.PrintWords Go.Proofs.YtcncilipmekfhaaDoorW.PrintLast

set_option linter.unusedSimpArgs false
set_option linter.unusedVariables false
namespace RaRatingMoves
open Aid
theorem one {α : Type} {g : Nat → Option α} {x y : α} (h : Ev g x) (h' : Ev g y) : x = y := by
  obtain ⟨K, e⟩ := h
  obtain ⟨K', e'⟩ := h'
  exact Option.some.inj ((e (K + K') (by omega)).symm.trans (e' (K + K') (by omega)))
theorem rdn (xs : List Int) (i : Nat) (h : i < xs.length) : rd xs (i : Int) = xs[i] := by simp [rd, List.getD_eq_getElem?_getD, h]
/-- how many steps a difference reaches -/
def cnt (d : Int) (l : List Int) : Nat := l.countP (fun s => decide (100 * s ≤ d))
theorem cnt_le (d : Int) (l : List Int) : cnt d l ≤ l.length := List.countP_le_length
theorem cnt_cons (d s : Int) (l : List Int) : cnt d (s :: l) = cnt d l + (if 100 * s ≤ d then 1 else 0) := by
  unfold cnt; rw [List.countP_cons]; simp
def hundE (d : Int) : Int := if d < 0 then 100 - (50 + (cnt (-d) stepsL : Int)) else 50 + (cnt d stepsL : Int)
theorem small (s : Int) (h : s ∈ stepsL) : 0 ≤ s ∧ s ≤ 392 := by
  have : ∀ s ∈ stepsL, 0 ≤ s ∧ s ≤ 392 := by decide
  exact this s h
theorem hundE_range (d : Int) : 8 ≤ hundE d ∧ hundE d ≤ 92 := by
  have h1 := cnt_le (-d) stepsL
  have h2 := cnt_le d stepsL
  have : stepsL.length = 42 := rfl
  unfold hundE; split <;> omega
/-! Expect -/
theorem exp_l0 (d : Int) : ∀ (m i : Nat) (x : Int), i + m = 42 → 0 ≤ x ∧ x + m ≤ 200 → Ev (fun k => rating_Expect.l0 k d x (i : Int)) (x + (cnt d (stepsL.drop i) : Int)) := by
  intro m
  induction m with
  | zero =>
    intro i x hi hx
    refine Ev.step (fun k => by rw [rating_Expect.l0]) ?_
    refine Aid.ite (fun hc => absurd hc (by omega)) (fun _ => now ?_)
    have : stepsL.drop i = [] := List.drop_eq_nil_of_le (by show 42 ≤ i; omega)
    rw [this]; simp [cnt]
  | succ m ih =>
    intro i x hi hx
    have hlt : i < stepsL.length := by show i < 42; omega
    have hs := small stepsL[i] (List.getElem_mem hlt)
    have hd : stepsL.drop i = stepsL[i] :: stepsL.drop (i + 1) := List.drop_eq_getElem_cons hlt
    have hw := Aside0.mk (show wrap64 ((i : Int) + 1) = ((i + 1 : Nat) : Int) from by rw [w64s (by omega) (by omega)]; omega)
    refine Ev.step (fun k => by rw [rating_Expect.l0]) ?_
    rw [rdn _ _ hlt, hd, cnt_cons, hw.out]
    generalize stepsL[i] = s at hs
    rw [w64 (n := 100 * s) (by omega) (by omega)]
    refine Aid.ite (fun _ => ?_) (fun hc => absurd (show (i : Int) < 42 by omega) hc)
    refine Aid.ite (fun _ => ?_) (fun hc => absurd (show 0 ≤ (i : Int) by omega) hc)
    refine Aid.ite (fun hc => ?_) (fun hc => ?_)
    · rw [if_pos (by omega), w64s (n := x) (by omega) (by omega)]
      exact ev_eq (ih (i + 1) (x + 1) (by omega) (by omega)) (by omega)
    · rw [if_neg (by omega)]
      exact ev_eq (ih (i + 1) x (by omega) (by omega)) (by omega)
theorem exp_pos (d : Int) (h : 0 ≤ d) : Ev (fun k => rating_Expect.f k d) (50 + (cnt d stepsL : Int)) := by
  refine Ev.step (fun k => by rw [rating_Expect.f]) ?_
  refine Aid.ite (fun hc => absurd hc (by omega)) (fun _ => ?_)
  exact exp_l0 d 42 0 50 rfl (by omega)
theorem cnt_all (d : Int) (h : 39200 ≤ d) : ∀ l : List Int, (∀ s ∈ l, s ≤ 392) → cnt d l = l.length := by
  intro l hl
  unfold cnt
  rw [List.countP_eq_length]
  intro s hs
  have := hl s hs
  exact decide_eq_true (by omega)
theorem exp_ev (d : Int) (h : -4611686018427387904 ≤ d ∧ d ≤ 4611686018427387904) : Ev (fun k => rating_Expect.f k d) (hundE d) := by
  by_cases hd : d < 0
  · have e : hundE d = 100 - (50 + (cnt (-d) stepsL : Int)) := if_pos hd
    rw [e]
    have hc := cnt_le (-d) stepsL
    have hl : stepsL.length = 42 := rfl
    refine Ev.step (fun k => by rw [rating_Expect.f]) ?_
    refine Aid.ite (fun _ => ?_) (fun hc => absurd hd hc)
    have hm : wrap64 (-(mx d (-4000000))) = -(mx d (-4000000)) := by
      apply w64 <;> (unfold mx; split <;> omega)
    rw [hm]
    have e2 : cnt (-(mx d (-4000000))) stepsL = cnt (-d) stepsL := by
      unfold mx
      split
      · rename_i hlt
        rw [cnt_all _ (by omega) stepsL (fun s hs => (small s hs).2), cnt_all _ (by omega) stepsL (fun s hs => (small s hs).2)]
      · rfl
    have hp : 0 ≤ -(mx d (-4000000)) := by unfold mx; split <;> omega
    refine Ev.bind (exp_pos _ hp) (now ?_)
    rw [e2, w64 (n := 100 - (50 + (cnt (-d) stepsL : Int))) (by omega) (by omega)]
  · have e : hundE d = 50 + (cnt d stepsL : Int) := if_neg hd
    rw [e]
    exact exp_pos d (by omega)
/-! Hundredths -/
theorem cnt_append (d : Int) (a b : List Int) : cnt d (a ++ b) = cnt d a + cnt d b := by unfold cnt; exact List.countP_append
theorem ge_iff (d s : Int) (h : 0 ≤ d) : Int.tdiv d 100 ≥ s ↔ 100 * s ≤ d := by
  rw [Int.tdiv_eq_ediv_of_nonneg h]; omega
theorem hun_l1 (d : Int) (hd : 0 ≤ d ∧ d ≤ 4611686018427387904) (rows : List (List Int)) (L x21 : Int) (xs : List Int) (hxs : xs.length ≤ 50) (r : Int) : ∀ (m i : Nat) (x : Int), i + m = xs.length → 0 ≤ x ∧ x + m ≤ 1000 →
    Ev (fun k => gamehallref3_Hundredths.l0 k d (x + (cnt d (xs.drop i) : Int)) rows L (wrap64 (x21 + 1))) r →
    Ev (fun k => gamehallref3_Hundredths.l1 k d x rows L x21 xs (xs.length : Int) (i : Int)) r := by
  intro m
  induction m with
  | zero =>
    intro i x hi hx e
    refine Ev.step (fun k => by rw [gamehallref3_Hundredths.l1]) ?_
    refine Aid.ite (fun hc => absurd hc (by omega)) (fun _ => ?_)
    have : xs.drop i = [] := List.drop_eq_nil_of_le (by omega)
    rw [this] at e
    simpa [cnt] using e
  | succ m ih =>
    intro i x hi hx e
    have hlt : i < xs.length := by omega
    have hdr : xs.drop i = xs[i] :: xs.drop (i + 1) := List.drop_eq_getElem_cons hlt
    rw [hdr, cnt_cons] at e
    have hw := Aside0.mk (show wrap64 ((i : Int) + 1) = ((i + 1 : Nat) : Int) from by rw [w64s (by omega) (by omega)]; omega)
    have hdiv := Aside0.mk (show wrap64 (Int.tdiv d 100) = Int.tdiv d 100 from by rw [Int.tdiv_eq_ediv_of_nonneg hd.1]; exact w64 (by omega) (by omega))
    have hr := Aside0.mk (rdn xs i hlt)
    refine Ev.step (fun k => by rw [gamehallref3_Hundredths.l1]) ?_
    rw [hr.out, hw.out, hdiv.out]
    generalize xs[i] = s at e
    refine Aid.ite (fun _ => ?_) (fun hc => absurd (show (i : Int) < (xs.length : Int) by omega) hc)
    refine Aid.ite (fun _ => ?_) (fun hc => absurd (show 0 ≤ (i : Int) by omega) hc)
    refine Aid.ite (fun _ => ?_) (fun hc => absurd (show (i : Int) < (xs.length : Int) by omega) hc)
    refine Aid.ite (fun hc => ?_) (fun hc => ?_)
    · rw [if_pos ((ge_iff d s hd.1).mp hc)] at e
      rw [w64s (n := x) (by omega) (by omega)]
      refine ih (i + 1) (x + 1) (by omega) (by omega) ?_
      rw [show x + 1 + (cnt d (xs.drop (i + 1)) : Int) = x + ((cnt d (xs.drop (i + 1)) + 1 : Nat) : Int) by omega]
      exact e
    · rw [if_neg (fun q => hc ((ge_iff d s hd.1).mpr q))] at e
      exact ih (i + 1) x (by omega) (by omega) e
theorem rdl1 (xs : List (List Int)) (i : Nat) (h : i < xs.length) : rd_L1 xs (i : Int) = xs[i] := by simp [rd_L1, List.getD_eq_getElem?_getD, h]
theorem hun_l0 (d : Int) (hd : 0 ≤ d ∧ d ≤ 4611686018427387904) (rows : List (List Int)) (hr : rows.length ≤ 10) (hr2 : ∀ xs ∈ rows, xs.length ≤ 50) : ∀ (m i : Nat) (x : Int), i + m = rows.length → 0 ≤ x ∧ x + 50 * m ≤ 500 →
    Ev (fun k => gamehallref3_Hundredths.l0 k d x rows (rows.length : Int) (i : Int)) (50 + (x + (cnt d (rows.drop i).flatten : Int))) := by
  intro m
  induction m with
  | zero =>
    intro i x hi hx
    refine Ev.step (fun k => by rw [gamehallref3_Hundredths.l0]) ?_
    refine Aid.ite (fun hc => absurd hc (by omega)) (fun _ => now ?_)
    have : rows.drop i = [] := List.drop_eq_nil_of_le (by omega)
    rw [this, w64 (n := 50 + x) (by omega) (by omega)]; simp [cnt]
  | succ m ih =>
    intro i x hi hx
    have hlt : i < rows.length := by omega
    have hdr : rows.drop i = rows[i] :: rows.drop (i + 1) := List.drop_eq_getElem_cons hlt
    have hln := hr2 rows[i] (List.getElem_mem hlt)
    have hrr := Aside0.mk (rdl1 rows i hlt)
    refine Ev.step (fun k => by rw [gamehallref3_Hundredths.l0]) ?_
    rw [hrr.out, hdr, List.flatten_cons, cnt_append]
    generalize rows[i] = xs at hln
    have hc := cnt_le d xs
    refine Aid.ite (fun _ => ?_) (fun hc => absurd (show (i : Int) < (rows.length : Int) by omega) hc)
    refine Aid.ite (fun _ => ?_) (fun hc => absurd (show 0 ≤ (i : Int) by omega) hc)
    refine Aid.ite (fun _ => ?_) (fun hc => absurd (show (i : Int) < (rows.length : Int) by omega) hc)
    refine hun_l1 d hd rows _ (i : Int) xs hln _ xs.length 0 x (by omega) (by omega) ?_
    rw [show wrap64 ((i : Int) + 1) = ((i + 1 : Nat) : Int) from by rw [w64s (by omega) (by omega)]; omega, List.drop_zero]
    exact ev_eq (ih (i + 1) (x + (cnt d xs : Int)) (by omega) (by omega)) (by omega)
theorem hun_pos (d : Int) (h : 0 ≤ d ∧ d ≤ 4611686018427387904) : Ev (fun k => gamehallref3_Hundredths.f k d) (50 + (cnt d stepsL : Int)) := by
  refine Ev.step (fun k => by rw [gamehallref3_Hundredths.f]) ?_
  refine Aid.ite (fun hc => absurd hc (by omega)) (fun _ => ?_)
  refine bind_now rfl ?_
  exact ev_eq (hun_l0 d h _ (by decide) (by decide) 5 0 0 rfl (by omega)) (by simp [stepsL])
theorem hun_ev (d : Int) (h : -4611686018427387904 ≤ d ∧ d ≤ 4611686018427387904) : Ev (fun k => gamehallref3_Hundredths.f k d) (hundE d) := by
  by_cases hd : d < 0
  · have e : hundE d = 100 - (50 + (cnt (-d) stepsL : Int)) := if_pos hd
    have hc := cnt_le (-d) stepsL
    have hl : stepsL.length = 42 := rfl
    rw [e]
    refine Ev.step (fun k => by rw [gamehallref3_Hundredths.f]) ?_
    refine Aid.ite (fun _ => ?_) (fun hc => absurd hd hc)
    rw [w64 (n := -d) (by omega) (by omega)]
    refine Ev.bind (hun_pos (-d) (by omega)) (now ?_)
    rw [w64 (n := 100 - (50 + (cnt (-d) stepsL : Int))) (by omega) (by omega)]
  · have e : hundE d = 50 + (cnt d stepsL : Int) := if_neg hd
    rw [e]
    exact hun_pos d (by omega)
theorem rates_true : Ev (fun k => gamehalllaw3_rates.f k) true := by
  have h0 : hundE 0 = 50 := by decide
  have h1 : hundE 400 = 51 := by decide
  unfold gamehalllaw3_rates.f
  refine Ev.bind (ev_eq (exp_ev 0 (by omega)) h0) ?_
  refine Aid.ite (fun _ => ?_) (fun hc => absurd rfl hc)
  exact Ev.bind (ev_eq (exp_ev 400 (by omega)) h1) (now rfl)
/-! Check -/
def okr (n : Int) : Prop := -1000000 ≤ n ∧ n ≤ 1000000
instance (n : Int) : Decidable (okr n) := by unfold okr; infer_instance
def chkE (l : List Int) : Int := if l.length = 0 ∨ l.length > 64 then 2 else if ∀ n ∈ l, okr n then 0 else 4
theorem chk_l0 (l : List Int) (hl : l.length ≤ 64) : ∀ (m i : Nat), i + m = l.length → Ev (fun k => rating_Check.l0 k l (l.length : Int) (i : Int)) (if ∀ n ∈ l.drop i, okr n then 0 else 4) := by
  intro m
  induction m with
  | zero =>
    intro i hi
    refine Ev.step (fun k => by rw [rating_Check.l0]) ?_
    refine Aid.ite (fun hc => absurd hc (by omega)) (fun _ => now ?_)
    have : l.drop i = [] := List.drop_eq_nil_of_le (by omega)
    rw [this, if_pos (by simp)]
  | succ m ih =>
    intro i hi
    have hlt : i < l.length := by omega
    have hdr : l.drop i = l[i] :: l.drop (i + 1) := List.drop_eq_getElem_cons hlt
    have hw := Aside0.mk (show wrap64 ((i : Int) + 1) = ((i + 1 : Nat) : Int) from by rw [w64s (by omega) (by omega)]; omega)
    have hr := Aside0.mk (rdn l i hlt)
    have e := ih (i + 1) (by omega)
    refine Ev.step (fun k => by rw [rating_Check.l0]) ?_
    rw [hr.out, hw.out, hdr]
    generalize l[i] = n
    refine Aid.ite (fun _ => ?_) (fun hc => absurd (show (i : Int) < (l.length : Int) by omega) hc)
    refine Aid.ite (fun _ => ?_) (fun hc => absurd (show 0 ≤ (i : Int) by omega) hc)
    refine Aid.ite (fun _ => ?_) (fun hc => absurd (show (i : Int) < (l.length : Int) by omega) hc)
    refine Aid.ite (fun hc => now (if_neg (fun q => by have := q n (by simp); unfold okr at this; omega)).symm) (fun h1 => ?_)
    refine Aid.ite (fun hc => now (if_neg (fun q => by have := q n (by simp); unfold okr at this; omega)).symm) (fun h2 => ?_)
    have hn : okr n := by unfold okr; omega
    by_cases hrest : ∀ x ∈ l.drop (i + 1), okr x
    · rw [if_pos hrest] at e
      rw [if_pos (fun x hx => (List.mem_cons.mp hx).elim (fun q => q ▸ hn) (fun q => hrest x q))]; exact e
    · rw [if_neg hrest] at e
      rw [if_neg (fun q => hrest (fun x hx => q x (List.mem_cons_of_mem _ hx)))]; exact e
theorem chk_ev (l : List Int) : Ev (fun k => rating_Check.f k l) (chkE l) := by
  have main : ∀ c, c = decide (l.length = 0 ∨ l.length > 64) → Ev (fun k => rating_Check.j0 k l c) (chkE l) := by
    intro c hc
    refine Ev.step (fun k => by rw [rating_Check.j0]) ?_
    unfold chkE
    refine Aid.ite (fun h => ?_) (fun h => ?_)
    · rw [hc] at h
      exact now (if_pos (of_decide_eq_true h)).symm
    · have h1 : ¬ (l.length = 0 ∨ l.length > 64) := fun q => h (by rw [hc]; exact decide_eq_true q)
      rw [if_neg h1]
      exact chk_l0 l (by omega) l.length 0 (by omega)
  unfold rating_Check.f
  refine Aid.ite (fun h => main _ (decide_eq_true (by omega)).symm) (fun h => main _ ?_)
  apply decide_eq_decide.mpr; omega
theorem chk0 {l : List Int} (h : chkE l = 0) : 0 < l.length ∧ l.length ≤ 64 ∧ ∀ n ∈ l, okr n := by
  unfold chkE at h
  by_cases h1 : l.length = 0 ∨ l.length > 64
  · rw [if_pos h1] at h; exact absurd h (by decide)
  · rw [if_neg h1] at h
    by_cases h2 : ∀ n ∈ l, okr n
    · exact ⟨by omega, by omega, h2⟩
    · rw [if_neg h2] at h; exact absurd h (by decide)
/-! Change -/
def delta (a b p q : Int) : Int := wrap64 (q * (wrap64 ((wrap64 (50 * p)) - hundE (a - b))))
theorem change_ev (a b p q : Int) (ha : okr a) (hb : okr b) : Ev (fun k => rating_Change.f k a b p q) (if p < 0 ∨ p > 2 then (0, 1) else if q < 1 ∨ q > 64 then (0, 4) else (delta a b p q, 0)) := by
  have hc : chkE [a, b] = 0 := by
    unfold chkE
    rw [if_neg (by simp), if_pos (fun n hn => by simp at hn; rcases hn with rfl | rfl <;> assumption)]
  have main : ∀ c, c = decide (p < 0 ∨ p > 2) → Ev (fun k => rating_Change.j0 k a b p q c) (if p < 0 ∨ p > 2 then (0, 1) else if q < 1 ∨ q > 64 then (0, 4) else (delta a b p q, 0)) := by
    intro c hc
    refine Ev.step (fun k => by rw [rating_Change.j0]) ?_
    refine Aid.ite (fun h => ?_) (fun h => ?_)
    · rw [hc] at h
      exact now (if_pos (of_decide_eq_true h)).symm
    · have h1 : ¬ (p < 0 ∨ p > 2) := fun z => h (by rw [hc]; exact decide_eq_true z)
      rw [if_neg h1]
      refine Aid.ite (fun z => now (if_pos (.inl z)).symm) (fun z1 => ?_)
      refine Aid.ite (fun z => now (if_pos (.inr z)).symm) (fun z2 => ?_)
      rw [if_neg (by omega)]
      unfold okr at ha hb
      rw [w64 (n := a - b) (by omega) (by omega)]
      exact Ev.bind (exp_ev (a - b) (by omega)) (Ev.now _)
  unfold rating_Change.f
  refine Ev.bind (ev_eq (chk_ev [a, b]) hc) ?_
  refine Aid.ite (fun _ => ?_) (fun hh => absurd rfl hh)
  refine Aid.ite (fun h => main _ (decide_eq_true (by omega)).symm) (fun h => main _ ?_)
  apply decide_eq_decide.mpr; omega
theorem same_l0 (l : List Int) (hl : l.length ≤ 100000) : ∀ (m i : Nat), i + m = l.length → Ev (fun k => gamehalllaw3_sameInts.l0 k l l (l.length : Int) (i : Int)) true := by
  intro m
  induction m with
  | zero =>
    intro i hi
    refine Ev.step (fun k => by rw [gamehalllaw3_sameInts.l0]) ?_
    exact Aid.ite (fun hc => absurd hc (by omega)) (fun _ => Ev.now _)
  | succ m ih =>
    intro i hi
    have e := ih (i + 1) (by omega)
    refine Ev.step (fun k => by rw [gamehalllaw3_sameInts.l0]) ?_
    rw [show wrap64 ((i : Int) + 1) = ((i + 1 : Nat) : Int) from by rw [w64s (by omega) (by omega)]; omega]
    refine Aid.ite (fun _ => ?_) (fun hc => absurd (show (i : Int) < (l.length : Int) by omega) hc)
    refine Aid.ite (fun _ => ?_) (fun hc => absurd (show 0 ≤ (i : Int) by omega) hc)
    refine Aid.ite (fun _ => ?_) (fun hc => absurd (show (i : Int) < (l.length : Int) by omega) hc)
    refine Aid.ite (fun _ => ?_) (fun hc => absurd (show (i : Int) < (l.length : Int) by omega) hc)
    exact Aid.ite (fun _ => e) (fun hc => absurd rfl hc)
theorem same_ev (l : List Int) (hl : l.length ≤ 100000) : Ev (fun k => gamehalllaw3_sameInts.f k l l) true := by
  unfold gamehalllaw3_sameInts.f
  exact Aid.ite (fun _ => same_l0 l hl l.length 0 (by omega)) (fun hc => absurd rfl hc)
theorem rd41 (xs : List S41) (i : Nat) (h : i < xs.length) : rd_T41 xs (i : Int) = xs[i] := by simp [rd_T41, List.getD_eq_getElem?_getD, h]
theorem rd_mem (l : List Int) (i : Int) (h0 : 0 ≤ i) (h1 : i < l.length) : rd l i ∈ l := by
  obtain ⟨n, rfl⟩ : ∃ n : Nat, i = (n : Int) := ⟨i.toNat, by omega⟩
  rw [rdn l n (by omega)]; exact List.getElem_mem _
def badF (n : Nat) (g : S41) : Prop := g.f0 < 0 ∨ g.f1 < 0 ∨ g.f0 ≥ n ∨ g.f1 ≥ n ∨ g.f0 = g.f1
instance (n : Nat) (g : S41) : Decidable (badF n g) := by unfold badF; infer_instance
theorem mn_neg (x y : Int) : mn x y < 0 ↔ x < 0 ∨ y < 0 := by unfold mn; split <;> omega
theorem mx_ge (x y n : Int) : mx x y ≥ n ↔ x ≥ n ∨ y ≥ n := by unfold mx; split <;> omega
def clE (a b d : Int) : Int := mx (mx (mn (mn d (wrap64 (1000000 - a))) (wrap64 (b + 1000000))) (wrap64 ((-1000000) - a))) (wrap64 (b - 1000000))
def clN (a b d : Int) : Int := if d < 0 then mx (mx d (-1000000 - a)) (b - 1000000) else d
def clA (a b d : Int) : Int := if d > 0 then mn (mn d (1000000 - a)) (b + 1000000) else clN a b d
theorem clE_eq (a b d : Int) (ha : okr a) (hb : okr b) (hd : -7000 ≤ d ∧ d ≤ 7000) : clE a b d = clA a b d := by
  unfold okr at ha hb
  unfold clE
  rw [w64 (n := 1000000 - a) (by omega) (by omega), w64 (n := b + 1000000) (by omega) (by omega), w64 (n := (-1000000) - a) (by omega) (by omega), w64 (n := b - 1000000) (by omega) (by omega)]
  unfold clA clN mx mn
  (repeat' split) <;> omega
theorem clA_okr (a b d : Int) (ha : okr a) (hb : okr b) (hd : -7000 ≤ d ∧ d ≤ 7000) : okr (a + clA a b d) ∧ okr (b - clA a b d) := by
  unfold okr at ha hb ⊢
  unfold clA clN mx mn
  (repeat' split) <;> omega
theorem delta_range (a b p q : Int) (hp : 0 ≤ p ∧ p ≤ 2) (hq : 1 ≤ q ∧ q ≤ 64) : -7000 ≤ delta a b p q ∧ delta a b p q ≤ 7000 := by
  have hh := hundE_range (a - b)
  unfold delta
  rw [w64 (n := 50 * p) (by omega) (by omega), w64 (n := 50 * p - hundE (a - b)) (by omega) (by omega)]
  generalize hx : 50 * p - hundE (a - b) = x
  have h1 : q * x ≤ q * 92 := Int.mul_le_mul_of_nonneg_left (by omega) (by omega)
  have h2 : q * (-92) ≤ q * x := Int.mul_le_mul_of_nonneg_left (by omega) (by omega)
  generalize q * x = y at h1 h2
  rw [w64 (n := y) (by omega) (by omega)]
  omega
def updC (l : List Int) (g : S41) (c : Int) : List Int :=
  (l.set g.f0.toNat (wrap64 (rd l g.f0 + c))).set g.f1.toNat (wrap64 (rd (l.set g.f0.toNat (wrap64 (rd l g.f0 + c))) g.f1 - c))
theorem updC_len (l : List Int) (g : S41) (c : Int) : (updC l g c).length = l.length := by simp [updC]
def gameE (l : List Int) (q : Int) (g : S41) : List Int × Int :=
  if badF l.length g then ([], 3) else if g.f2 < 0 ∨ g.f2 > 2 then ([], 1) else if q < 1 ∨ q > 64 then ([], 4) else (updC l g (clE (rd l g.f0) (rd l g.f1) (delta (rd l g.f0) (rd l g.f1) g.f2 q)), 0)
theorem game_f (l : List Int) (q : Int) (g : S41) (h : chkE l = 0) : Ev (fun k => rating_Game.f k l g.f0 g.f1 g.f2 q) (gameE l q g) := by
  obtain ⟨h1, h2, h3⟩ := chk0 h
  have j0 : ∀ c, c = decide (badF l.length g) → Ev (fun k => rating_Game.j0 k l q c g.f0 g.f1 g.f2) (gameE l q g) := by
    intro c hc
    unfold gameE
    refine Ev.step (fun k => by rw [rating_Game.j0]) ?_
    refine Aid.ite (fun h => ?_) (fun h => ?_)
    · rw [hc] at h; exact now (if_pos (of_decide_eq_true h)).symm
    · have hb : ¬ badF l.length g := fun z => h (by rw [hc]; exact decide_eq_true z)
      rw [if_neg hb]
      unfold badF at hb
      refine Aid.ite (fun _ => ?_) (fun hc => absurd (show 0 ≤ g.f0 by omega) hc)
      refine Aid.ite (fun _ => ?_) (fun hc => absurd (show g.f0 < (l.length : Int) by omega) hc)
      refine Aid.ite (fun _ => ?_) (fun hc => absurd (show 0 ≤ g.f1 by omega) hc)
      refine Aid.ite (fun _ => ?_) (fun hc => absurd (show g.f1 < (l.length : Int) by omega) hc)
      refine Ev.bind (change_ev _ _ g.f2 q (h3 _ (rd_mem l g.f0 (by omega) (by omega))) (h3 _ (rd_mem l g.f1 (by omega) (by omega)))) ?_
      by_cases hp : g.f2 < 0 ∨ g.f2 > 2
      · rw [if_pos hp, if_pos hp]; exact Aid.ite (fun z => absurd z (by decide)) (fun _ => Ev.now _)
      · rw [if_neg hp, if_neg hp]
        by_cases hq : q < 1 ∨ q > 64
        · rw [if_pos hq, if_pos hq]; exact Aid.ite (fun z => absurd z (by decide)) (fun _ => Ev.now _)
        · rw [if_neg hq, if_neg hq]
          refine Aid.ite (fun _ => ?_) (fun hc => absurd rfl hc)
          refine bind_now rfl ?_
          refine Aid.ite (fun _ => ?_) (fun hc => absurd (show ([] : List Int).length + l.length < 17592186044416 by simp; omega) hc)
          refine bind_now rfl ?_
          refine Aid.ite (fun _ => ?_) (fun hc => absurd (show g.f0 < (l.length : Int) by omega) hc)
          refine bind_now rfl ?_
          refine Aid.ite (fun _ => ?_) (fun hc => absurd (show g.f1 < (l.length : Int) by omega) hc)
          exact now rfl
  unfold rating_Game.f
  refine Ev.bind (ev_eq (chk_ev l) h) ?_
  refine Aid.ite (fun _ => ?_) (fun hc => absurd rfl hc)
  refine Aid.ite (fun h => j0 _ (decide_eq_true (by rw [mn_neg] at h; unfold badF; omega)).symm) (fun h1 => ?_)
  refine Aid.ite (fun h => j0 _ (decide_eq_true (by rw [mx_ge] at h; unfold badF; omega)).symm) (fun h2 => j0 _ ?_)
  rw [mn_neg] at h1; rw [mx_ge] at h2
  rw [Bool.eq_iff_iff, beq_iff_eq, decide_eq_true_iff]; unfold badF; omega
theorem rd_set_ne (l : List Int) (i j v : Int) (hi : 0 ≤ i) (hj : 0 ≤ j) (h : i ≠ j) : rd (l.set i.toNat v) j = rd l j := by
  have : i.toNat ≠ j.toNat := by omega
  simp [rd, List.getD_eq_getElem?_getD, List.getElem?_set_ne this]
theorem updC_chk (l : List Int) (q : Int) (g : S41) (h : chkE l = 0) (hb : ¬ badF l.length g) (d : Int) (hd : -7000 ≤ d ∧ d ≤ 7000) : chkE (updC l g (clA (rd l g.f0) (rd l g.f1) d)) = 0 := by
  obtain ⟨h1, h2, h3⟩ := chk0 h
  have hb' := hb
  unfold badF at hb'
  have o1 := h3 _ (rd_mem l g.f0 (by omega) (by omega))
  have o2 := h3 _ (rd_mem l g.f1 (by omega) (by omega))
  obtain ⟨q1, q2⟩ := clA_okr _ _ d o1 o2 hd
  generalize clA (rd l g.f0) (rd l g.f1) d = c at q1 q2
  have hlen := updC_len l g c
  unfold chkE
  rw [if_neg (by omega), if_pos ?_]
  intro n hn
  unfold updC at hn
  rw [rd_set_ne l g.f0 g.f1 _ (by omega) (by omega) (by omega)] at hn
  rcases List.mem_or_eq_of_mem_set hn with hn | hn
  · rcases List.mem_or_eq_of_mem_set hn with hn | hn
    · exact h3 n hn
    · rw [hn, w64 (n := rd l g.f0 + c) (by unfold okr at q1; omega) (by unfold okr at q1; omega)]; exact q1
  · rw [hn, w64 (n := rd l g.f1 - c) (by unfold okr at q2; omega) (by unfold okr at q2; omega)]; exact q2
theorem game_ok (l : List Int) (q : Int) (g : S41) (h : chkE l = 0) (h0 : (gameE l q g).2 = 0) : (¬ badF l.length g ∧ ¬ (g.f2 < 0 ∨ g.f2 > 2) ∧ ¬ (q < 1 ∨ q > 64)) ∧ (-7000 ≤ delta (rd l g.f0) (rd l g.f1) g.f2 q ∧ delta (rd l g.f0) (rd l g.f1) g.f2 q ≤ 7000) ∧ gameE l q g = (updC l g (clA (rd l g.f0) (rd l g.f1) (delta (rd l g.f0) (rd l g.f1) g.f2 q)), 0) := by
  unfold gameE at h0 ⊢
  by_cases hb : badF l.length g
  · rw [if_pos hb] at h0; exact absurd h0 (by decide)
  · rw [if_neg hb] at h0 ⊢
    by_cases hp : g.f2 < 0 ∨ g.f2 > 2
    · rw [if_pos hp] at h0; exact absurd h0 (by decide)
    · rw [if_neg hp] at h0 ⊢
      by_cases hq : q < 1 ∨ q > 64
      · rw [if_pos hq] at h0; exact absurd h0 (by decide)
      · rw [if_neg hq]
        obtain ⟨h1, h2, h3⟩ := chk0 h
        have hb' := hb
        unfold badF at hb'
        have o1 := h3 _ (rd_mem l g.f0 (by omega) (by omega))
        have o2 := h3 _ (rd_mem l g.f1 (by omega) (by omega))
        have hd := delta_range (rd l g.f0) (rd l g.f1) g.f2 q (by omega) (by omega)
        rw [clE_eq _ _ _ o1 o2 hd]
        exact ⟨⟨hb, hp, hq⟩, hd, rfl⟩
theorem game_chk (l : List Int) (q : Int) (g : S41) (h : chkE l = 0) (h0 : (gameE l q g).2 = 0) : chkE (gameE l q g).1 = 0 ∧ (gameE l q g).1.length = l.length := by
  obtain ⟨⟨hb, _, _⟩, hd, e⟩ := game_ok l q g h h0
  rw [e]
  exact ⟨updC_chk l q g h hb _ hd, updC_len _ _ _⟩
def allE (q : Int) : List S41 → List Int → List Int × Int
  | [], out => (out, 0)
  | g :: gs, out => if (gameE out q g).2 = 0 then allE q gs (gameE out q g).1 else ([], (gameE out q g).2)
theorem all_l0 (q : Int) (gs : List S41) (hg : gs.length ≤ 1000) : ∀ (m i : Nat) (out : List Int), i + m = gs.length → chkE out = 0 → Ev (fun k => rating_All.l0 k q out gs (gs.length : Int) (i : Int)) (allE q (gs.drop i) out) := by
  intro m
  induction m with
  | zero =>
    intro i out hi ho
    have : gs.drop i = [] := List.drop_eq_nil_of_le (by omega)
    rw [this, allE]
    refine Ev.step (fun k => by rw [rating_All.l0]) ?_
    refine Aid.ite (fun hc => absurd hc (by omega)) (fun _ => ?_)
    exact Ev.now _
  | succ m ih =>
    intro i out hi ho
    have hlt : i < gs.length := by omega
    have hdr : gs.drop i = gs[i] :: gs.drop (i + 1) := List.drop_eq_getElem_cons hlt
    have hr := Aside0.mk (rd41 gs i hlt)
    have hw := Aside0.mk (show wrap64 ((i : Int) + 1) = ((i + 1 : Nat) : Int) from by rw [w64s (by omega) (by omega)]; omega)
    have ih' := fun o h => ih (i + 1) o (by omega) h
    refine Ev.step (fun k => by rw [rating_All.l0]) ?_
    rw [hr.out, hw.out, hdr, allE]
    generalize gs[i] = g
    refine Aid.ite (fun _ => ?_) (fun hc => absurd (show (i : Int) < (gs.length : Int) by omega) hc)
    refine Aid.ite (fun _ => ?_) (fun hc => absurd (show 0 ≤ (i : Int) by omega) hc)
    refine Aid.ite (fun _ => ?_) (fun hc => absurd (show (i : Int) < (gs.length : Int) by omega) hc)
    refine Ev.bind (game_f out q g ho) ?_
    refine Aid.ite (fun h0 => ?_) (fun h0 => ?_)
    · rw [if_pos h0]; exact ih' _ (game_chk out q g ho h0).1
    · rw [if_neg h0]; exact Ev.now _
theorem all_f (l : List Int) (q : Int) (gs : List S41) (h : chkE l = 0) (hg : gs.length ≤ 256) : Ev (fun k => rating_All.f k l gs q) (allE q gs l) := by
  obtain ⟨h1, h2, h3⟩ := chk0 h
  unfold rating_All.f
  refine Ev.bind (ev_eq (chk_ev l) h) ?_
  refine Aid.ite (fun _ => ?_) (fun hc => absurd rfl hc)
  refine Aid.ite (fun hc => absurd hc (by omega)) (fun _ => ?_)
  refine bind_now rfl ?_
  refine Aid.ite (fun _ => ?_) (fun hc => absurd (show ([] : List Int).length + l.length < 17592186044416 by simp; omega) hc)
  exact all_l0 q gs (by omega) gs.length 0 l (by omega) h
theorem all_bad (l : List Int) (q : Int) (gs : List S41) (v : Int) (hv : chkE l = v) (h : v ≠ 0) : Ev (fun k => rating_All.f k l gs q) ([], v) := by
  unfold rating_All.f
  refine Ev.bind (ev_eq (chk_ev l) hv) ?_
  exact Aid.ite (fun hc => absurd hc h) (fun _ => Ev.now _)
section
variable (l : List Int) (q : Int) (x9 : List Int) (x10 : Int) (x11 : Int) (now_ : List Int) (x17 : List Int) (x18 : Int) (gs : List S41) (len i : Int) (g : S41)
def contK (c : Int) : Nat → Option Bool := fun k => if x18 = 0 then (gamehalllaw3_sameInts.f k x17 (updC now_ g c)).bind fun t => (if t = true then gamehalllaw3_RatingMoves.l1 k l q x9 x10 x11 (updC now_ g c) gs len (wrap64 (i + 1)) else some false) else some false
theorem l3_fin (h : chkE now_ = 0) (hb : ¬ badF now_.length g) (r : Bool) : ∀ (m : Nat) (d : Int), (-d).toNat ≤ m → -7000 ≤ d → d ≤ 7000 → Ev (contK l q x9 x10 x11 now_ x17 x18 gs len i g (clN (rd now_ g.f0) (rd now_ g.f1) d)) r →
    Ev (fun k => gamehalllaw3_RatingMoves.l3 k l q x9 x10 x11 now_ x17 x18 d gs len i g.f0 g.f1 g.f2) r := by
  have hb' := hb
  unfold badF at hb'
  have o1 := (chk0 h).2.2 _ (rd_mem now_ g.f0 (by omega) (by omega))
  have o2 := (chk0 h).2.2 _ (rd_mem now_ g.f1 (by omega) (by omega))
  unfold okr at o1 o2
  have done : ∀ d, ¬ d < 0 → Ev (contK l q x9 x10 x11 now_ x17 x18 gs len i g (clN (rd now_ g.f0) (rd now_ g.f1) d)) r → Ev (fun k => gamehalllaw3_RatingMoves.l3 k l q x9 x10 x11 now_ x17 x18 d gs len i g.f0 g.f1 g.f2) r := by
    intro d hd e
    rw [show clN (rd now_ g.f0) (rd now_ g.f1) d = d from if_neg hd] at e
    refine Ev.step (fun k => by rw [gamehalllaw3_RatingMoves.l3]) ?_
    refine Aid.ite (fun hc => absurd hc hd) (fun _ => ?_)
    refine Aid.ite (fun _ => ?_) (fun hc => absurd (show 0 ≤ g.f0 by omega) hc)
    refine Aid.ite (fun _ => ?_) (fun hc => absurd (show g.f0 < (now_.length : Int) by omega) hc)
    refine bind_now rfl ?_
    refine Aid.ite (fun _ => ?_) (fun hc => absurd (show 0 ≤ g.f1 by omega) hc)
    refine Aid.ite (fun _ => ?_) (fun hc => absurd (show g.f1 < (now_.length : Int) by omega) hc)
    refine bind_now rfl ?_
    exact e
  intro m
  induction m with
  | zero => intro d hm h1 h2 e; exact done d (by omega) e
  | succ m ih =>
    intro d hm h1 h2 e
    by_cases hd : d < 0
    · have w1 := Aside0.mk (w64 (n := rd now_ g.f0 + d) (by omega) (by omega))
      have w2 := Aside0.mk (w64 (n := rd now_ g.f1 - d) (by omega) (by omega))
      have w3 := Aside0.mk (w64 (n := d + 1) (by omega) (by omega))
      refine Ev.step (fun k => by rw [gamehalllaw3_RatingMoves.l3]) ?_
      refine Aid.ite (fun _ => ?_) (fun hc => absurd hd hc)
      refine Aid.ite (fun _ => ?_) (fun hc => absurd (show 0 ≤ g.f0 by omega) hc)
      refine Aid.ite (fun _ => ?_) (fun hc => absurd (show g.f0 < (now_.length : Int) by omega) hc)
      refine Aid.ite (fun hc => ?_) (fun hc1 => ?_)
      · rw [w1.out] at hc
        rw [w3.out]
        have e2 : clN (rd now_ g.f0) (rd now_ g.f1) d = clN (rd now_ g.f0) (rd now_ g.f1) (d + 1) := by unfold clN mx; (repeat' split) <;> omega
        rw [e2] at e
        exact ih (d + 1) (by omega) (by omega) (by omega) e
      rw [w1.out] at hc1
      refine Aid.ite (fun _ => ?_) (fun hc => absurd (show 0 ≤ g.f1 by omega) hc)
      refine Aid.ite (fun _ => ?_) (fun hc => absurd (show g.f1 < (now_.length : Int) by omega) hc)
      refine Aid.ite (fun hc => ?_) (fun hc2 => ?_)
      · rw [w2.out] at hc
        rw [w3.out]
        have e2 : clN (rd now_ g.f0) (rd now_ g.f1) d = clN (rd now_ g.f0) (rd now_ g.f1) (d + 1) := by unfold clN mx; (repeat' split) <;> omega
        rw [e2] at e
        exact ih (d + 1) (by omega) (by omega) (by omega) e
      rw [w2.out] at hc2
      have e2 : clN (rd now_ g.f0) (rd now_ g.f1) d = d := by unfold clN mx; (repeat' split) <;> omega
      rw [e2] at e
      refine bind_now rfl ?_
      refine bind_now rfl ?_
      exact e
    · exact done d hd e
theorem l2_fin (h : chkE now_ = 0) (hb : ¬ badF now_.length g) (r : Bool) : ∀ (m : Nat) (d : Int), d.toNat ≤ m → -7000 ≤ d → d ≤ 7000 → Ev (contK l q x9 x10 x11 now_ x17 x18 gs len i g (clA (rd now_ g.f0) (rd now_ g.f1) d)) r →
    Ev (fun k => gamehalllaw3_RatingMoves.l2 k l q x9 x10 x11 now_ x17 x18 d gs len i g.f0 g.f1 g.f2) r := by
  have hb' := hb
  unfold badF at hb'
  have o1 := (chk0 h).2.2 _ (rd_mem now_ g.f0 (by omega) (by omega))
  have o2 := (chk0 h).2.2 _ (rd_mem now_ g.f1 (by omega) (by omega))
  unfold okr at o1 o2
  have j10 : ∀ d, -7000 ≤ d → d ≤ 7000 → Ev (contK l q x9 x10 x11 now_ x17 x18 gs len i g (clN (rd now_ g.f0) (rd now_ g.f1) d)) r → Ev (fun k => gamehalllaw3_RatingMoves.j10 k l q x9 x10 x11 now_ x17 x18 d gs len i g.f0 g.f1 g.f2) r := by
    intro d h1 h2 e
    refine Ev.step (fun k => by rw [gamehalllaw3_RatingMoves.j10]) ?_
    exact l3_fin l q x9 x10 x11 now_ x17 x18 gs len i g h hb r _ d (Nat.le_refl _) h1 h2 e
  have done : ∀ d, ¬ d > 0 → -7000 ≤ d → d ≤ 7000 → Ev (contK l q x9 x10 x11 now_ x17 x18 gs len i g (clA (rd now_ g.f0) (rd now_ g.f1) d)) r → Ev (fun k => gamehalllaw3_RatingMoves.l2 k l q x9 x10 x11 now_ x17 x18 d gs len i g.f0 g.f1 g.f2) r := by
    intro d hd h1 h2 e
    rw [show clA (rd now_ g.f0) (rd now_ g.f1) d = clN (rd now_ g.f0) (rd now_ g.f1) d from if_neg hd] at e
    refine Ev.step (fun k => by rw [gamehalllaw3_RatingMoves.l2]) ?_
    refine Aid.ite (fun hc => absurd hc hd) (fun _ => ?_)
    exact j10 d h1 h2 e
  intro m
  induction m with
  | zero => intro d hm h1 h2 e; exact done d (by omega) h1 h2 e
  | succ m ih =>
    intro d hm h1 h2 e
    by_cases hd : d > 0
    · have w1 := Aside0.mk (w64 (n := rd now_ g.f0 + d) (by omega) (by omega))
      have w2 := Aside0.mk (w64 (n := rd now_ g.f1 - d) (by omega) (by omega))
      have w3 := Aside0.mk (w64 (n := d - 1) (by omega) (by omega))
      refine Ev.step (fun k => by rw [gamehalllaw3_RatingMoves.l2]) ?_
      refine Aid.ite (fun _ => ?_) (fun hc => absurd hd hc)
      refine Aid.ite (fun _ => ?_) (fun hc => absurd (show 0 ≤ g.f0 by omega) hc)
      refine Aid.ite (fun _ => ?_) (fun hc => absurd (show g.f0 < (now_.length : Int) by omega) hc)
      refine Aid.ite (fun hc => ?_) (fun hc1 => ?_)
      · rw [w1.out] at hc
        rw [w3.out]
        have e2 : clA (rd now_ g.f0) (rd now_ g.f1) d = clA (rd now_ g.f0) (rd now_ g.f1) (d - 1) := by unfold clA clN mx mn; (repeat' split) <;> omega
        rw [e2] at e
        exact ih (d - 1) (by omega) (by omega) (by omega) e
      rw [w1.out] at hc1
      refine Aid.ite (fun _ => ?_) (fun hc => absurd (show 0 ≤ g.f1 by omega) hc)
      refine Aid.ite (fun _ => ?_) (fun hc => absurd (show g.f1 < (now_.length : Int) by omega) hc)
      refine Aid.ite (fun hc => ?_) (fun hc2 => ?_)
      · rw [w2.out] at hc
        rw [w3.out]
        have e2 : clA (rd now_ g.f0) (rd now_ g.f1) d = clA (rd now_ g.f0) (rd now_ g.f1) (d - 1) := by unfold clA clN mx mn; (repeat' split) <;> omega
        rw [e2] at e
        exact ih (d - 1) (by omega) (by omega) (by omega) e
      rw [w2.out] at hc2
      have e2 : clA (rd now_ g.f0) (rd now_ g.f1) d = clN (rd now_ g.f0) (rd now_ g.f1) d := by unfold clA clN mx mn; (repeat' split) <;> omega
      rw [e2] at e
      exact j10 d h1 h2 e
    · exact done d hd h1 h2 e
theorem j7_bad (x : Int) (h : x ≠ 0) : Ev (fun k => gamehalllaw3_RatingMoves.j7 k l q ([] : List Int) x x now_ ([] : List Int) x gs len i g.f0 g.f1 g.f2) true := by
  refine Ev.step (fun k => by rw [gamehalllaw3_RatingMoves.j7]) ?_
  refine Aid.ite (fun hc => absurd hc h) (fun _ => ?_)
  refine Aid.ite (fun _ => ?_) (fun hc => absurd rfl hc)
  refine Aid.ite (fun _ => ?_) (fun hc => absurd rfl hc)
  refine Aid.ite (fun _ => ?_) (fun hc => absurd rfl hc)
  exact now rfl
end
theorem law_l1 (l : List Int) (q : Int) (gs : List S41) (hll : l.length ≤ 64) (hg : gs.length ≤ 1000) (R : List Int × Int) : ∀ (m i : Nat) (want : List Int), i + m = gs.length → chkE want = 0 → want.length = l.length → R = allE q (gs.drop i) want →
    Ev (fun k => gamehalllaw3_RatingMoves.l1 k l q R.1 R.2 0 want gs (gs.length : Int) (i : Int)) true := by
  intro m
  induction m with
  | zero =>
    intro i want hi hc ho hR
    have : gs.drop i = [] := List.drop_eq_nil_of_le (by omega)
    rw [this, allE] at hR
    subst hR
    refine Ev.step (fun k => by rw [gamehalllaw3_RatingMoves.l1]) ?_
    refine Aid.ite (fun hc => absurd hc (by omega)) (fun _ => ?_)
    refine Aid.ite (fun _ => ?_) (fun hc => absurd rfl hc)
    exact Ev.bind (same_ev want (by omega)) (Ev.now _)
  | succ m ih =>
    intro i want hi hck ho hR
    have hlt : i < gs.length := by omega
    have hdr : gs.drop i = gs[i] :: gs.drop (i + 1) := List.drop_eq_getElem_cons hlt
    have hr := Aside0.mk (rd41 gs i hlt)
    have hw := Aside0.mk (show wrap64 ((i : Int) + 1) = ((i + 1 : Nat) : Int) from by rw [w64s (by omega) (by omega)]; omega)
    have ih' := fun o h => ih (i + 1) o (by omega) h
    rw [hdr, allE] at hR
    refine Ev.step (fun k => by rw [gamehalllaw3_RatingMoves.l1]) ?_
    rw [hr.out]
    generalize gs[i] = g at hR
    refine Aid.ite (fun _ => ?_) (fun hc => absurd (show (i : Int) < (gs.length : Int) by omega) hc)
    refine Aid.ite (fun _ => ?_) (fun hc => absurd (show 0 ≤ (i : Int) by omega) hc)
    refine Aid.ite (fun _ => ?_) (fun hc => absurd (show (i : Int) < (gs.length : Int) by omega) hc)
    refine Ev.bind (game_f want q g hck) ?_
    have hgk := game_chk want q g hck
    have hgo := game_ok want q g hck
    have hge : gameE want q g = if badF want.length g then ([], 3) else if g.f2 < 0 ∨ g.f2 > 2 then ([], 1) else if q < 1 ∨ q > 64 then ([], 4) else (updC want g (clE (rd want g.f0) (rd want g.f1) (delta (rd want g.f0) (rd want g.f1) g.f2 q)), 0) := rfl
    generalize hP : gameE want q g = P at hge hgk hgo hR
    have bad : ∀ x : Int, x ≠ 0 → P = ([], x) → Ev (fun k => gamehalllaw3_RatingMoves.j7 k l q R.1 R.2 x want P.1 P.2 gs (gs.length : Int) (i : Int) g.f0 g.f1 g.f2) true := by
      intro x hx e
      subst e
      rw [if_neg hx] at hR
      subst hR
      exact j7_bad l q want gs _ _ g x hx
    have j5 : ∀ c, c = decide (badF want.length g) → Ev (fun k => gamehalllaw3_RatingMoves.j5 k l q R.1 R.2 0 want P.1 P.2 gs (gs.length : Int) (i : Int) c g.f0 g.f1 g.f2) true := by
      intro c hc
      refine Ev.step (fun k => by rw [gamehalllaw3_RatingMoves.j5]) ?_
      refine Aid.ite (fun h => ?_) (fun h => ?_)
      · rw [hc] at h
        rw [if_pos (of_decide_eq_true h)] at hge
        exact bad 3 (by decide) hge
      · have hb : ¬ badF want.length g := fun z => h (by rw [hc]; exact decide_eq_true z)
        rw [if_neg hb] at hge
        have hb' := hb
        unfold badF at hb'
        have j6 : ∀ c, c = decide (g.f2 < 0 ∨ g.f2 > 2) → Ev (fun k => gamehalllaw3_RatingMoves.j6 k l q R.1 R.2 0 want P.1 P.2 gs (gs.length : Int) (i : Int) c g.f0 g.f1 g.f2) true := by
          intro c hc
          refine Ev.step (fun k => by rw [gamehalllaw3_RatingMoves.j6]) ?_
          refine Aid.ite (fun h => ?_) (fun h => ?_)
          · rw [hc] at h
            rw [if_pos (of_decide_eq_true h)] at hge
            exact bad 1 (by decide) hge
          · have hp : ¬ (g.f2 < 0 ∨ g.f2 > 2) := fun z => h (by rw [hc]; exact decide_eq_true z)
            rw [if_neg hp] at hge
            refine Aid.ite (fun z => ?_) (fun z1 => ?_)
            · rw [if_pos (.inl z)] at hge; exact bad 4 (by decide) hge
            refine Aid.ite (fun z => ?_) (fun z2 => ?_)
            · rw [if_pos (.inr z)] at hge; exact bad 4 (by decide) hge
            rw [if_neg (by omega)] at hge
            have hP0 : P.2 = 0 := by rw [hge]
            obtain ⟨_, hd, hPe⟩ := hgo hP0
            rw [if_pos hP0] at hR
            have o1 := (chk0 hck).2.2 _ (rd_mem want g.f0 (by omega) (by omega))
            have o2 := (chk0 hck).2.2 _ (rd_mem want g.f1 (by omega) (by omega))
            have o1' := o1
            have o2' := o2
            unfold okr at o1' o2'
            refine Ev.step (fun k => by rw [gamehalllaw3_RatingMoves.j7]) ?_
            refine Aid.ite (fun _ => ?_) (fun hc => absurd rfl hc)
            refine Aid.ite (fun _ => ?_) (fun hc => absurd (show 0 ≤ g.f0 by omega) hc)
            refine Aid.ite (fun _ => ?_) (fun hc => absurd (show g.f0 < (want.length : Int) by omega) hc)
            refine Aid.ite (fun _ => ?_) (fun hc => absurd (show 0 ≤ g.f1 by omega) hc)
            refine Aid.ite (fun _ => ?_) (fun hc => absurd (show g.f1 < (want.length : Int) by omega) hc)
            rw [w64 (n := rd want g.f0 - rd want g.f1) (by omega) (by omega)]
            refine Ev.bind (hun_ev (rd want g.f0 - rd want g.f1) (by omega)) ?_
            refine Ev.bind (ev_eq (change_ev _ _ g.f2 q o1 o2) (by rw [if_neg hp, if_neg (by omega)])) ?_
            refine Aid.ite (fun _ => ?_) (fun hc => absurd rfl hc)
            have hdd : wrap64 (q * wrap64 (wrap64 (50 * g.f2) - hundE (rd want g.f0 - rd want g.f1))) = delta (rd want g.f0) (rd want g.f1) g.f2 q := rfl
            rw [hdd]
            generalize delta (rd want g.f0) (rd want g.f1) g.f2 q = d at hd hPe
            dsimp only
            rw [bne_self_eq_false]
            refine Ev.step (fun k => by rw [gamehalllaw3_RatingMoves.j8]) ?_
            refine Aid.ite (fun hc => absurd hc (by decide)) (fun _ => ?_)
            refine l2_fin l q R.1 R.2 0 want P.1 P.2 gs _ _ g hck hb true _ d (Nat.le_refl _) hd.1 hd.2 ?_
            have hk := hgk hP0
            unfold contK
            rw [hPe] at hk hR ⊢
            generalize updC want g (clA (rd want g.f0) (rd want g.f1) d) = nx at hk hR ⊢
            have hk1 : chkE nx = 0 := hk.1
            have hk2 : nx.length = want.length := hk.2
            refine Aid.ite (fun _ => ?_) (fun hc => absurd rfl hc)
            refine Ev.bind (same_ev nx (by omega)) ?_
            refine Aid.ite (fun _ => ?_) (fun hc => absurd rfl hc)
            rw [hw.out]
            exact ih' nx hk1 (hk2.trans ho) hR
        refine Aid.ite (fun h => j6 _ (decide_eq_true (by omega)).symm) (fun h => j6 _ ?_)
        apply decide_eq_decide.mpr; omega
    refine Aid.ite (fun h => j5 _ (decide_eq_true (by rw [mn_neg] at h; unfold badF; omega)).symm) (fun h1 => ?_)
    refine Aid.ite (fun h => j5 _ (decide_eq_true (by rw [mx_ge] at h; unfold badF; omega)).symm) (fun h2 => j5 _ ?_)
    rw [mn_neg] at h1; rw [mx_ge] at h2
    rw [Bool.eq_iff_iff, beq_iff_eq, decide_eq_true_iff]; unfold badF; omega
def fault (x : Int) (t : List Int) : Int := if x = 0 then (if ∀ n ∈ t, okr n then 0 else 4) else x
theorem fault_ne (x : Int) (t : List Int) (h : x ≠ 0) : fault x t = x := if_neg h
theorem fault_ok (n : Int) (t : List Int) (h : okr n) : fault 0 (n :: t) = fault 0 t := by
  unfold fault
  rw [if_pos rfl, if_pos rfl]
  refine ite_congr (propext ?_) (fun _ => rfl) (fun _ => rfl)
  exact ⟨fun z m hm => z m (List.mem_cons_of_mem _ hm), fun z m hm => by rcases List.mem_cons.mp hm with rfl | hm; exact h; exact z m hm⟩
theorem fault_bad (n : Int) (t : List Int) (h : ¬ okr n) : fault 0 (n :: t) = 4 := by
  unfold fault
  rw [if_pos rfl, if_neg (fun z => h (z n (List.mem_cons_self ..)))]
section
variable (l : List Int) (gs : List S41) (q : Int) (x9 : List Int) (x10 : Int)
def finK (x11 : Int) : Nat → Option Bool := fun k => (rating_Check.f k l).bind fun t178 => (if t178 = x11 then (if x11 = 0 then ((some (([] : List Int) : List Int)).bind fun y179 => (if y179.length + l.length < 17592186044416 then (gamehalllaw3_RatingMoves.l1 k l q x9 x10 x11 (y179 ++ l) gs (gs.length : Int) 0) else (none))) else (if x10 = x11 then (some ((x9.length : Int) == 0)) else (some false))) else (some false))
theorem law_l0 (hl : l.length ≤ 1000) (r : Bool) : ∀ (m i : Nat) (x11 : Int), i + m = l.length → Ev (finK l gs q x9 x10 (fault x11 (l.drop i))) r → Ev (fun k => gamehalllaw3_RatingMoves.l0 k l gs q x9 x10 x11 l (l.length : Int) (i : Int)) r := by
  intro m
  induction m with
  | zero =>
    intro i x11 hi e
    have : l.drop i = [] := List.drop_eq_nil_of_le (by omega)
    rw [this, show fault x11 [] = x11 from by unfold fault; split <;> simp_all] at e
    refine Ev.step (fun k => by rw [gamehalllaw3_RatingMoves.l0]) ?_
    refine Aid.ite (fun hc => absurd hc (by omega)) (fun _ => ?_)
    exact e
  | succ m ih =>
    intro i x11 hi e
    have hlt : i < l.length := by omega
    have hdr : l.drop i = l[i] :: l.drop (i + 1) := List.drop_eq_getElem_cons hlt
    have hr := Aside0.mk (rdn l i hlt)
    have hw := Aside0.mk (show wrap64 ((i : Int) + 1) = ((i + 1 : Nat) : Int) from by rw [w64s (by omega) (by omega)]; omega)
    have ih' := fun x e => ih (i + 1) x (by omega) e
    rw [hdr] at e
    refine Ev.step (fun k => by rw [gamehalllaw3_RatingMoves.l0]) ?_
    rw [hr.out, hw.out]
    generalize l[i] = n at e
    refine Aid.ite (fun _ => ?_) (fun hc => absurd (show (i : Int) < (l.length : Int) by omega) hc)
    refine Aid.ite (fun _ => ?_) (fun hc => absurd (show 0 ≤ (i : Int) by omega) hc)
    refine Aid.ite (fun _ => ?_) (fun hc => absurd (show (i : Int) < (l.length : Int) by omega) hc)
    refine Aid.ite (fun h0 => ?_) (fun h0 => ?_)
    · subst h0
      have b4 : ¬ okr n → Ev (fun k => gamehalllaw3_RatingMoves.l0 k l gs q x9 x10 4 l (l.length : Int) ((i + 1 : Nat) : Int)) r := by
        intro hn
        rw [fault_bad n _ hn] at e
        exact ih' 4 (by rw [fault_ne 4 _ (by decide)]; exact e)
      refine Aid.ite (fun h => b4 (by unfold okr; omega)) (fun h1 => ?_)
      refine Aid.ite (fun h => b4 (by unfold okr; omega)) (fun h2 => ?_)
      rw [fault_ok n _ (by unfold okr; omega)] at e
      exact ih' 0 e
    · rw [fault_ne _ _ h0] at e
      exact ih' x11 (by rw [fault_ne _ _ h0]; exact e)
theorem law_j1 (hl : l.length ≤ 1000) (r : Bool) (e : Ev (finK l gs q x9 x10 (chkE l)) r) (c : Bool) (hc : c = decide (l.length = 0 ∨ l.length > 64)) : Ev (fun k => gamehalllaw3_RatingMoves.j1 k l gs q x9 x10 0 c) r := by
  unfold chkE at e
  refine Ev.step (fun k => by rw [gamehalllaw3_RatingMoves.j1]) ?_
  refine Aid.ite (fun h => ?_) (fun h => ?_)
  · rw [hc] at h
    rw [if_pos (of_decide_eq_true h)] at e
    refine Ev.step (fun k => by rw [gamehalllaw3_RatingMoves.j2]) ?_
    exact law_l0 l gs q x9 x10 hl r l.length 0 2 (by omega) e
  · have hn : ¬ (l.length = 0 ∨ l.length > 64) := fun z => h (by rw [hc]; exact decide_eq_true z)
    rw [if_neg hn] at e
    refine Ev.step (fun k => by rw [gamehalllaw3_RatingMoves.j2]) ?_
    exact law_l0 l gs q x9 x10 hl r l.length 0 0 (by omega) e
end
theorem law_j0 (l : List Int) (gs : List S41) (q : Int) (hl : l.length ≤ 70) (hg : gs.length ≤ 60) : Ev (fun k => gamehalllaw3_RatingMoves.j0 k l gs q false) true := by
  have main : ∃ R, Ev (fun k => rating_All.f k l gs q) R ∧ Ev (finK l gs q R.1 R.2 (chkE l)) true := by
    by_cases h : chkE l = 0
    · refine ⟨_, all_f l q gs h (by omega), ?_⟩
      rw [h]
      unfold finK
      refine Ev.bind (ev_eq (chk_ev l) h) ?_
      refine Aid.ite (fun _ => ?_) (fun hc => absurd rfl hc)
      refine Aid.ite (fun _ => ?_) (fun hc => absurd rfl hc)
      refine bind_now rfl ?_
      refine Aid.ite (fun _ => ?_) (fun hc => absurd (show ([] : List Int).length + l.length < 17592186044416 by simp; omega) hc)
      exact law_l1 l q gs (chk0 h).2.1 (by omega) (allE q gs l) gs.length 0 l (by omega) h rfl rfl
    · refine ⟨_, all_bad l q gs _ rfl h, ?_⟩
      unfold finK
      refine Ev.bind (chk_ev l) ?_
      refine Aid.ite (fun _ => ?_) (fun hc => absurd rfl hc)
      refine Aid.ite (fun hc => absurd hc h) (fun _ => ?_)
      refine Aid.ite (fun _ => ?_) (fun hc => absurd rfl hc)
      exact now rfl
  obtain ⟨R, e1, e2⟩ := main
  refine Ev.step (fun k => by rw [gamehalllaw3_RatingMoves.j0]) ?_
  refine Aid.ite (fun hc => absurd hc (by decide)) (fun _ => ?_)
  refine Ev.bind e1 ?_
  refine Aid.ite (fun h => law_j1 l gs q _ _ (by omega) true e2 true (decide_eq_true (by omega)).symm) (fun h => law_j1 l gs q _ _ (by omega) true e2 _ ?_)
  apply decide_eq_decide.mpr; omega
theorem law (l0 : List Int) (l1 : List S41) (q d : Int) : Ev (fun k => gamehalllaw3_RatingMoves.f k l0 l1 q d) true := by
  unfold gamehalllaw3_RatingMoves.f
  refine Ev.bind rates_true ?_
  refine Aid.ite (fun _ => ?_) (fun hc => absurd rfl hc)
  have m1 : 0 ≤ mn (l0.length : Int) 70 ∧ mn (l0.length : Int) 70 ≤ (l0.length : Int) ∧ mn (l0.length : Int) 70 ≤ 70 := by unfold mn; split <;> omega
  have m2 : 0 ≤ mn (l1.length : Int) 60 ∧ mn (l1.length : Int) 60 ≤ (l1.length : Int) ∧ mn (l1.length : Int) 60 ≤ 60 := by unfold mn; split <;> omega
  refine Aid.ite (fun _ => ?_) (fun hc => absurd m1.1 hc)
  refine Aid.ite (fun _ => ?_) (fun hc => absurd m1.2.1 hc)
  refine bind_now rfl ?_
  refine Aid.ite (fun _ => ?_) (fun hc => absurd m2.1 hc)
  refine Aid.ite (fun _ => ?_) (fun hc => absurd m2.2.1 hc)
  refine bind_now rfl ?_
  have hl : (l0.take (mn (l0.length : Int) 70).toNat).length ≤ 70 := by rw [List.length_take]; omega
  have hg : (l1.take (mn (l1.length : Int) 60).toNat).length ≤ 60 := by rw [List.length_take]; omega
  generalize l0.take (mn (l0.length : Int) 70).toNat = l at hl
  generalize l1.take (mn (l1.length : Int) 60).toNat = gs at hg
  have J := law_j0 l gs q hl hg
  refine Aid.ite (fun h1 => ?_) (fun _ => J)
  refine Aid.ite (fun h2 => ?_) (fun _ => J)
  refine Ev.bind (exp_ev d (by omega)) ?_
  refine Ev.bind (hun_ev d (by omega)) ?_
  rw [bne_self_eq_false]
  exact J
end RaRatingMoves
theorem RatingMoves : gamehalllaw3_RatingMoves.Pure := by
  intro l0 l1 a2 a3 _ _ _ _
  obtain ⟨K, e⟩ := RaRatingMoves.law l0 l1 a2 a3
  exact ⟨K, e K (Nat.le_refl K)⟩
end Go.Proofs.YtcncilipmekfhaaDoor.Pure
