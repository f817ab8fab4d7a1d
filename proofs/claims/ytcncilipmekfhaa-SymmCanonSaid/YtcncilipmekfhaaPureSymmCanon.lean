/- SymmCanon: for every input the law answers true. Code and reference move the cells alike (a finite fact), and keep the least cells alike. -/
import Derived.Test.YtcncilipmekfhaaPSymmCanonx3
import Derived.Test.YtcncilipmekfhaaAid
namespace Go.Proofs.Ytcncilipmekfhaa.Pure
open Go.RowKit Go.Proofs.Ytcncilipmekfhaa.PSymmCanon Go.Proofs.YtcncilipmekfhaaW.PrintWords Go.Proofs.YtcncilipmekfhaaW.PrintLast

set_option linter.unusedSimpArgs false
set_option linter.unusedVariables false
set_option linter.unusedSectionVars false
namespace Sn
open Aid
theorem in_f (a b c : Int) : gamehallref1_In.f a b c = some (decide (b ≤ a ∧ a ≤ c)) := by
  unfold gamehallref1_In.f
  by_cases h : a ≥ b
  · rw [if_pos h]; simp; omega
  · rw [if_neg h]; simp; omega
def nS (w h : Nat) : Nat := if w = h then 8 else 4
def mvn (w h s q : Nat) : Nat := ((symm_image.f 10 (w : Int) (h : Int) (s : Int) (q : Int)).getD 0).toNat
theorem all_mv : (List.range 9).all (fun w => (List.range 9).all (fun h => w == 0 || h == 0 || (List.range (nS w h)).all (fun s => (List.range (w * h)).all (fun q =>
    symm_image.f 10 (w : Int) (h : Int) (s : Int) (q : Int) == some ((mvn w h s q : Nat) : Int) && gamehallref1_Moved.f 10 (w : Int) (h : Int) (s : Int) (q : Int) == some ((mvn w h s q : Nat) : Int) && decide (mvn w h s q < w * h) && (s != 0 || mvn w h s q == q))))) = true := by decide +kernel
theorem mv (w h : Nat) (hw : 1 ≤ w ∧ w ≤ 8) (hh : 1 ≤ h ∧ h ≤ 8) (s : Nat) (hs : s < nS w h) (q : Nat) (hq : q < w * h) :
    symm_image.f 10 (w : Int) (h : Int) (s : Int) (q : Int) = some ((mvn w h s q : Nat) : Int) ∧ gamehallref1_Moved.f 10 (w : Int) (h : Int) (s : Int) (q : Int) = some ((mvn w h s q : Nat) : Int) ∧ mvn w h s q < w * h ∧ (s = 0 → mvn w h s q = q) := by
  have h1 := List.all_eq_true.mp (List.all_eq_true.mp all_mv w (List.mem_range.mpr (by omega))) h (List.mem_range.mpr (by omega))
  rw [show (w == 0) = false from beq_eq_false_iff_ne.mpr (by omega), show (h == 0) = false from beq_eq_false_iff_ne.mpr (by omega), Bool.false_or, Bool.false_or] at h1
  have h2 := List.all_eq_true.mp (List.all_eq_true.mp h1 s (List.mem_range.mpr hs)) q (List.mem_range.mpr hq)
  rw [Bool.and_eq_true, Bool.and_eq_true, Bool.and_eq_true] at h2
  refine ⟨eq_of_beq h2.1.1.1, eq_of_beq h2.1.1.2, of_decide_eq_true h2.1.2, fun h0 => ?_⟩
  rcases (Bool.or_eq_true _ _).mp h2.2 with h3 | h3
  · exact absurd h0 (bne_iff_ne.mp h3)
  · exact eq_of_beq h3
theorem nS_or (w h : Nat) : nS w h = 8 ∨ nS w h = 4 := by unfold nS; split <;> simp
theorem many (w h : Nat) : symm_many.f (w : Int) (h : Int) = some ((nS w h : Nat) : Int) := by
  unfold symm_many.f nS
  by_cases e : w = h
  · rw [if_pos (by omega), if_pos e]; rfl
  · rw [if_neg (by omega), if_neg e]; rfl
theorem rd_set (xs : List Int) (a b : Nat) (v : Int) (h : a < xs.length) : rd (xs.set a v) (b : Int) = if a = b then v else rd xs (b : Int) := by
  unfold rd
  rw [Int.toNat_natCast, List.getD_eq_getElem?_getD, List.getD_eq_getElem?_getD, List.getElem?_set]
  by_cases e : a = b
  · subst e; simp [h]
  · simp [e]
theorem rd_at (xs : List Int) (i : Nat) (h : i < xs.length) : rd xs (i : Int) = xs[i] := by simp [rd, List.getD_eq_getElem?_getD, h]
theorem ext_rd (xs ys : List Int) (h : xs.length = ys.length) (e : ∀ k, k < xs.length → rd xs (k : Int) = rd ys (k : Int)) : xs = ys := by
  apply List.ext_getElem h
  intro k h1 h2
  rw [← rd_at xs k h1, ← rd_at ys k h2]
  exact e k h1
theorem check_f (a b : Int) : symm_Check.f a b = some (if (1 ≤ a ∧ a ≤ 8) ∧ (1 ≤ b ∧ b ≤ 8) then 0 else 4) := by
  unfold symm_Check.f
  repeat' split
  all_goals first | rfl | (exfalso; omega)
/-- the cells, moved -/
def ap (w h s : Nat) (X : List Int) : Nat → Nat → List Int → List Int
  | 0, _, M => M
  | d + 1, j, M => ap w h s X d (j + 1) (M.set (mvn w h s j) (rd X (j : Int)))
theorem ap_len (w h s : Nat) (X : List Int) : ∀ d j M, (ap w h s X d j M).length = M.length := by
  intro d
  induction d with
  | zero => intro j M; rfl
  | succ d ih => intro j M; rw [ap, ih, List.length_set]
def lt (M B : List Int) : Nat → Nat → Bool
  | 0, _ => false
  | d + 1, j => if rd M (j : Int) = rd B (j : Int) then lt M B d (j + 1) else decide (rd M (j : Int) < rd B (j : Int))
theorem lt_self (M : List Int) : ∀ d j, lt M M d j = false := by
  intro d
  induction d with
  | zero => intro j; rfl
  | succ d ih => intro j; rw [lt, if_pos rfl, ih]
theorem cmp_f (a b : Int) : cmp_Compare_int.f a b = some (if a < b then -1 else if a > b then 1 else 0) := by
  unfold cmp_Compare_int.f cmp_isNaN_int.f
  simp only [bne_self_eq_false, Option.bind_some, Bool.false_eq_true, if_false]
  repeat' split
  all_goals rfl
theorem same_ev (B : List Int) (hl : B.length ≤ 64) : ∀ (d j : Nat), j + d = B.length → Ev (fun k => gamehallref1_SameInts.l0 k B B (B.length : Int) (j : Int)) true := by
  intro d
  induction d with
  | zero =>
    intro j hj
    refine Ev.step (fun k => by rw [gamehallref1_SameInts.l0]) ?_
    exact Aid.ite (fun hh => absurd hh (by omega)) (fun _ => Ev.now _)
  | succ d ih =>
    intro j hj
    have hw := Aside0.mk (show wrap64 ((j : Int) + 1) = ((j + 1 : Nat) : Int) from by rw [w64s (by omega) (by omega)]; omega)
    refine Ev.step (fun k => by rw [gamehallref1_SameInts.l0]) ?_
    rw [hw.out]
    refine Aid.ite (fun _ => ?_) (fun hh => absurd (show (j : Int) < (B.length : Int) by omega) hh)
    refine Aid.ite (fun _ => ?_) (fun hh => absurd (show (0 : Int) ≤ (j : Int) by omega) hh)
    refine Aid.ite (fun _ => ?_) (fun hh => absurd (show (j : Int) < (B.length : Int) by omega) hh)
    refine Aid.ite (fun _ => ?_) (fun hh => absurd (show (j : Int) < (B.length : Int) by omega) hh)
    exact Aid.ite (fun _ => ih (j + 1) (by omega)) (fun hh => absurd rfl hh)
theorem same_f (B : List Int) (hl : B.length ≤ 64) : Ev (fun k => gamehallref1_SameInts.f k B B) true := by
  unfold gamehallref1_SameInts.f
  exact Aid.ite (fun _ => same_ev B hl B.length 0 (by omega)) (fun hh => absurd rfl hh)
theorem compare_ev (M B : List Int) (hMB : M.length = B.length) (hl : M.length ≤ 64) : ∀ (d j : Nat), j + d = M.length → ∃ r : Int, Ev (fun k => slices_Compare_int_int.l0 k M B M (M.length : Int) (j : Int)) r ∧ (r < 0 ↔ lt M B d j = true) := by
  intro d
  induction d with
  | zero =>
    intro j hj
    refine ⟨0, Ev.step (fun k => by rw [slices_Compare_int_int.l0]) ?_, by simp [lt]⟩
    refine Aid.ite (fun hh => absurd hh (by omega)) (fun _ => ?_)
    exact Aid.ite (fun hh => absurd hh (by omega)) (fun _ => Ev.now _)
  | succ d ih =>
    intro j hj
    have hw := Aside0.mk (show wrap64 ((j : Int) + 1) = ((j + 1 : Nat) : Int) from by rw [w64s (by omega) (by omega)]; omega)
    obtain ⟨r, e, hr⟩ := ih (j + 1) (by omega)
    rw [lt]
    by_cases he : rd M (j : Int) = rd B (j : Int)
    · refine ⟨r, Ev.step (fun k => by rw [slices_Compare_int_int.l0]) ?_, by rw [if_pos he]; exact hr⟩
      rw [hw.out]
      refine Aid.ite (fun _ => ?_) (fun hh => absurd (show (j : Int) < (M.length : Int) by omega) hh)
      refine Aid.ite (fun _ => ?_) (fun hh => absurd (show (0 : Int) ≤ (j : Int) by omega) hh)
      refine Aid.ite (fun _ => ?_) (fun hh => absurd (show (j : Int) < (M.length : Int) by omega) hh)
      refine Aid.ite (fun hh => absurd hh (by omega)) (fun _ => ?_)
      refine Aid.ite (fun _ => ?_) (fun hh => absurd (show (j : Int) < (B.length : Int) by omega) hh)
      refine bind_now (cmp_f _ _) ?_
      rw [he, if_neg (Int.lt_irrefl _), if_neg (Int.lt_irrefl _)]
      exact Aid.ite (fun _ => e) (fun hh => absurd rfl hh)
    · refine ⟨if rd M (j : Int) < rd B (j : Int) then -1 else 1, Ev.step (fun k => by rw [slices_Compare_int_int.l0]) ?_, ?_⟩
      · refine Aid.ite (fun _ => ?_) (fun hh => absurd (show (j : Int) < (M.length : Int) by omega) hh)
        refine Aid.ite (fun _ => ?_) (fun hh => absurd (show (0 : Int) ≤ (j : Int) by omega) hh)
        refine Aid.ite (fun _ => ?_) (fun hh => absurd (show (j : Int) < (M.length : Int) by omega) hh)
        refine Aid.ite (fun hh => absurd hh (by omega)) (fun _ => ?_)
        refine Aid.ite (fun _ => ?_) (fun hh => absurd (show (j : Int) < (B.length : Int) by omega) hh)
        refine bind_now (cmp_f _ _) ?_
        by_cases hlt : rd M (j : Int) < rd B (j : Int)
        · rw [if_pos hlt]
          exact Aid.ite (fun hh => absurd hh (by decide)) (fun _ => now (by rw [if_pos hlt]))
        · rw [if_neg hlt, if_pos (by omega)]
          exact Aid.ite (fun hh => absurd hh (by decide)) (fun _ => now (by rw [if_neg hlt]))
      · rw [if_neg he]
        by_cases hlt : rd M (j : Int) < rd B (j : Int)
        · rw [if_pos hlt, decide_eq_true hlt]; simp
        · rw [if_neg hlt, decide_eq_false hlt]; simp
section
variable (w h n : Nat) (hwh : n = w * h) (vw : 1 ≤ w ∧ w ≤ 8) (vh : 1 ≤ h ∧ h ≤ 8) (hn : n ≤ 64) (X : List Int) (hX : X.length = n)
include hwh vw vh hn hX
theorem apply_l0 (s : Nat) (hs : s < nS w h) : ∀ (d j : Nat) (M : List Int), j + d = n → M.length = n → Ev (fun k => symm_Apply.l0 k (w : Int) (h : Int) (s : Int) M X (n : Int) (j : Int)) (ap w h s X d j M, 0) := by
  intro d
  induction d with
  | zero =>
    intro j M hj hM
    refine Ev.step (fun k => by rw [symm_Apply.l0]) ?_
    exact Aid.ite (fun hh => absurd hh (by omega)) (fun _ => Ev.now _)
  | succ d ih =>
    intro j M hj hM
    have hw := Aside0.mk (show wrap64 ((j : Int) + 1) = ((j + 1 : Nat) : Int) from by rw [w64s (by omega) (by omega)]; omega)
    obtain ⟨m1, _, m3, _⟩ := mv w h vw vh s hs j (by omega)
    refine Ev.step (fun k => by rw [symm_Apply.l0]) ?_
    rw [hw.out, ap]
    refine Aid.ite (fun _ => ?_) (fun hh => absurd (show (j : Int) < (n : Int) by omega) hh)
    refine Aid.ite (fun _ => ?_) (fun hh => absurd (show (0 : Int) ≤ (j : Int) by omega) hh)
    refine Aid.ite (fun _ => ?_) (fun hh => absurd (show (j : Int) < (X.length : Int) by omega) hh)
    refine Ev.bind (Ev.of (symm_image.mono _ _ _ _) m1) ?_
    refine Aid.ite (fun _ => ?_) (fun hh => absurd (show (0 : Int) ≤ ((mvn w h s j : Nat) : Int) by omega) hh)
    refine Aid.ite (fun _ => ?_) (fun hh => absurd (show ((mvn w h s j : Nat) : Int) < (M.length : Int) by omega) hh)
    rw [Int.toNat_natCast]
    exact ih (j + 1) _ (by omega) (by rw [List.length_set]; exact hM)
theorem apply_f (s : Nat) (hs : s < nS w h) : Ev (fun k => symm_Apply.f k (w : Int) (h : Int) (s : Int) X) (ap w h s X n 0 (List.replicate n 0), 0) := by
  unfold symm_Apply.f
  have hck : symm_check.f (w : Int) (h : Int) (s : Int) = some 0 := by
    unfold symm_check.f
    rw [check_f, if_pos (by omega)]
    simp only [Option.bind_some, if_true]
    rw [if_neg (by omega), many]
    simp only [Option.bind_some]
    rw [if_neg (by omega)]
  refine bind_now hck ?_
  refine Aid.ite (fun _ => ?_) (fun hh => absurd rfl hh)
  rw [hX, show wrap64 ((w : Int) * (h : Int)) = (n : Int) by rw [← Int.natCast_mul, ← hwh, w64 (by omega) (by omega)], Int.toNat_natCast]
  refine Aid.ite (fun _ => ?_) (fun hh => absurd rfl hh)
  refine Aid.ite (fun _ => ?_) (fun hh => absurd (show (0 : Int) ≤ (n : Int) by omega) hh)
  refine Aid.ite (fun _ => ?_) (fun hh => absurd (show n ≤ 35184372088832 by omega) hh)
  exact apply_l0 w h n hwh vw vh hn X hX s hs n 0 _ (by omega) (by simp)
theorem l2_ev (x10 : List Int) (x11 x12 x16 x74 x75 x17 : Int) (M B : List Int) (hM : M.length = n) (hB : B.length = n) : ∀ (d j : Nat), j + d = n →
    Ev (fun k => gamehalllaw1_SymmCanon.l0 k (w : Int) (h : Int) X x10 x11 x12 (if lt M B d j = true then M else B) (if lt M B d j = true then x17 else x16) x74 (wrap64 (x75 + 1))) true →
    Ev (fun k => gamehalllaw1_SymmCanon.l2 k (w : Int) (h : Int) X x10 x11 x12 B x16 x17 M x74 x75 (n : Int) (j : Int)) true := by
  intro d
  induction d with
  | zero =>
    intro j hj e
    refine Ev.step (fun k => by rw [gamehalllaw1_SymmCanon.l2]) ?_
    refine Aid.ite (fun hh => absurd hh (by omega)) (fun _ => ?_)
    rw [lt, if_neg (by decide), if_neg (by decide)] at e
    exact e
  | succ d ih =>
    intro j hj e
    have hw := Aside0.mk (show wrap64 ((j : Int) + 1) = ((j + 1 : Nat) : Int) from by rw [w64s (by omega) (by omega)]; omega)
    rw [lt] at e
    refine Ev.step (fun k => by rw [gamehalllaw1_SymmCanon.l2]) ?_
    rw [hw.out]
    refine Aid.ite (fun _ => ?_) (fun hh => absurd (show (j : Int) < (n : Int) by omega) hh)
    refine Aid.ite (fun _ => ?_) (fun hh => absurd (show (0 : Int) ≤ (j : Int) by omega) hh)
    refine Aid.ite (fun _ => ?_) (fun hh => absurd (show (j : Int) < (M.length : Int) by omega) hh)
    refine Aid.ite (fun _ => ?_) (fun hh => absurd (show (j : Int) < (B.length : Int) by omega) hh)
    refine Aid.ite (fun he => ?_) (fun he => ?_)
    · rw [if_pos he] at e
      exact ih (j + 1) (by omega) e
    · rw [if_neg he] at e
      refine Aid.ite (fun hlt => ?_) (fun hlt => ?_)
      · rw [decide_eq_true hlt, if_pos rfl, if_pos rfl] at e; exact e
      · rw [decide_eq_false hlt, if_neg (by decide), if_neg (by decide)] at e; exact e
theorem l1_ev (x10 : List Int) (x11 x12 x16 x74 : Int) (s : Nat) (hs : s < nS w h) (B : List Int) : ∀ (d j : Nat) (M : List Int), j + d = n → M.length = n →
    Ev (fun k => gamehalllaw1_SymmCanon.l2 k (w : Int) (h : Int) X x10 x11 x12 B x16 (s : Int) (ap w h s X d j M) x74 (s : Int) (n : Int) 0) true →
    Ev (fun k => gamehalllaw1_SymmCanon.l1 k (w : Int) (h : Int) X x10 x11 x12 B x16 (s : Int) M x74 (s : Int) (n : Int) (j : Int)) true := by
  intro d
  induction d with
  | zero =>
    intro j M hj hM e
    refine Ev.step (fun k => by rw [gamehalllaw1_SymmCanon.l1]) ?_
    refine Aid.ite (fun hh => absurd hh (by omega)) (fun _ => ?_)
    rw [hM]
    exact e
  | succ d ih =>
    intro j M hj hM e
    have hw := Aside0.mk (show wrap64 ((j : Int) + 1) = ((j + 1 : Nat) : Int) from by rw [w64s (by omega) (by omega)]; omega)
    obtain ⟨_, m2, m3, _⟩ := mv w h vw vh s hs j (by omega)
    rw [ap] at e
    refine Ev.step (fun k => by rw [gamehalllaw1_SymmCanon.l1]) ?_
    rw [hw.out]
    refine Aid.ite (fun _ => ?_) (fun hh => absurd (show (j : Int) < (n : Int) by omega) hh)
    refine Aid.ite (fun _ => ?_) (fun hh => absurd (show (0 : Int) ≤ (j : Int) by omega) hh)
    refine Aid.ite (fun _ => ?_) (fun hh => absurd (show (j : Int) < (X.length : Int) by omega) hh)
    refine Ev.bind (Ev.of (gamehallref1_Moved.mono _ _ _ _) m2) ?_
    refine Aid.ite (fun _ => ?_) (fun hh => absurd (show (0 : Int) ≤ ((mvn w h s j : Nat) : Int) by omega) hh)
    refine Aid.ite (fun _ => ?_) (fun hh => absurd (show ((mvn w h s j : Nat) : Int) < (M.length : Int) by omega) hh)
    rw [Int.toNat_natCast]
    exact ih (j + 1) _ (by omega) (by rw [List.length_set]; exact hM) e
theorem law_step (x10 : List Int) (x11 x12 x16 : Int) (s : Nat) (hs : s < nS w h) (B : List Int) (hB : B.length = n)
    (e : Ev (fun k => gamehalllaw1_SymmCanon.l0 k (w : Int) (h : Int) X x10 x11 x12 (if lt (ap w h s X n 0 (List.replicate n 0)) B n 0 = true then ap w h s X n 0 (List.replicate n 0) else B) (if lt (ap w h s X n 0 (List.replicate n 0)) B n 0 = true then (s : Int) else x16) ((nS w h : Nat) : Int) (wrap64 ((s : Int) + 1))) true) :
    Ev (fun k => gamehalllaw1_SymmCanon.l0 k (w : Int) (h : Int) X x10 x11 x12 B x16 ((nS w h : Nat) : Int) (s : Int)) true := by
  refine Ev.step (fun k => by rw [gamehalllaw1_SymmCanon.l0]) ?_
  rw [hX, Int.toNat_natCast]
  refine Aid.ite (fun _ => ?_) (fun hh => absurd (show (s : Int) < ((nS w h : Nat) : Int) by omega) hh)
  refine Aid.ite (fun _ => ?_) (fun hh => absurd (show (0 : Int) ≤ (n : Int) by omega) hh)
  refine Aid.ite (fun _ => ?_) (fun hh => absurd (show n ≤ 35184372088832 by omega) hh)
  refine l1_ev w h n hwh vw vh hn X hX x10 x11 x12 x16 ((nS w h : Nat) : Int) s hs B n 0 (List.replicate n 0) (by omega) (by simp) ?_
  exact l2_ev w h n hwh vw vh hn X hX x10 x11 x12 x16 ((nS w h : Nat) : Int) (s : Int) (s : Int) _ B (by rw [ap_len]; simp) hB n 0 (by omega) e
theorem sim : ∀ (d s : Nat) (B : List Int) (t : Int), s + d = nS w h → B.length = n → ∃ fb ft, Ev (fun k => symm_Canon.l0 k (w : Int) (h : Int) X B t (s : Int)) (fb, ft, 0) ∧
    Ev (fun k => gamehalllaw1_SymmCanon.l0 k (w : Int) (h : Int) X fb ft 0 B t ((nS w h : Nat) : Int) (s : Int)) true := by
  have h8 := nS_or w h
  intro d
  induction d with
  | zero =>
    intro s B t hs hB
    refine ⟨B, t, Ev.step (fun k => by rw [symm_Canon.l0]) ?_, Ev.step (fun k => by rw [gamehalllaw1_SymmCanon.l0]) ?_⟩
    · refine bind_now (many w h) ?_
      exact Aid.ite (fun hh => absurd hh (by omega)) (fun _ => Ev.now _)
    · refine Aid.ite (fun hh => absurd hh (by omega)) (fun _ => ?_)
      refine Aid.ite (fun _ => ?_) (fun hh => absurd rfl hh)
      refine Aid.ite (fun _ => ?_) (fun hh => absurd rfl hh)
      exact Ev.bind (same_f B (by omega)) (Ev.now _)
  | succ d ih =>
    intro s B t hs hB
    have hw := Aside0.mk (show wrap64 ((s : Int) + 1) = ((s + 1 : Nat) : Int) from by rw [w64s (by omega) (by omega)]; omega)
    have hlen : (ap w h s X n 0 (List.replicate n 0)).length = n := by rw [ap_len]; simp
    have e1 := apply_f w h n hwh vw vh hn X hX s (by omega)
    have e3 := fun fb ft => law_step w h n hwh vw vh hn X hX fb ft 0 t s (by omega) B hB
    generalize ap w h s X n 0 (List.replicate n 0) = M at hlen e1 e3
    obtain ⟨r, e2, hr⟩ := compare_ev M B (by omega) (by omega) M.length 0 (by omega)
    rw [hlen] at hr
    rw [hw.out] at e3
    have step : ∀ fb ft, Ev (fun k => symm_Canon.l0 k (w : Int) (h : Int) X (if lt M B n 0 = true then M else B) (if lt M B n 0 = true then (s : Int) else t) ((s + 1 : Nat) : Int)) (fb, ft, 0) → Ev (fun k => symm_Canon.l0 k (w : Int) (h : Int) X B t (s : Int)) (fb, ft, 0) := by
      intro fb ft e
      refine Ev.step (fun k => by rw [symm_Canon.l0]) ?_
      rw [hw.out]
      refine bind_now (many w h) ?_
      refine Aid.ite (fun _ => ?_) (fun hh => absurd (show (s : Int) < ((nS w h : Nat) : Int) by omega) hh)
      refine Ev.bind e1 ?_
      refine Ev.bind (show Ev (fun k => slices_Compare_int_int.f k M B) r from e2) ?_
      refine Aid.ite (fun hh => ?_) (fun hh => ?_)
      · rw [if_pos (hr.mp hh), if_pos (hr.mp hh)] at e; exact e
      · rw [if_neg (fun hc => hh (hr.mpr hc)), if_neg (fun hc => hh (hr.mpr hc))] at e; exact e
    obtain ⟨fb, ft, a, b⟩ := ih (s + 1) (if lt M B n 0 = true then M else B) (if lt M B n 0 = true then (s : Int) else t) (by omega) (by split <;> assumption)
    exact ⟨fb, ft, step fb ft a, e3 fb ft b⟩
theorem ap_id : ∀ (d j : Nat) (M : List Int), j + d = n → M.length = n → (∀ k, k < j → rd M (k : Int) = rd X (k : Int)) → ap w h 0 X d j M = X := by
  have h8 := nS_or w h
  intro d
  induction d with
  | zero =>
    intro j M hj hM f
    exact ext_rd M X (by omega) (fun k hk => f k (by omega))
  | succ d ih =>
    intro j M hj hM f
    have m4 := (mv w h vw vh 0 (by omega) j (by omega)).2.2.2 rfl
    rw [ap, m4]
    refine ih (j + 1) _ (by omega) (by rw [List.length_set]; exact hM) (fun k hk => ?_)
    rw [rd_set M j k _ (by omega)]
    by_cases e : j = k
    · rw [if_pos e, e]
    · rw [if_neg e]; exact f k (by omega)
end
theorem sym_ev (w h : Nat) (hw : 1 ≤ w ∧ w ≤ 8) (hh : 1 ≤ h ∧ h ≤ 8) : Ev (fun r => gamehallref1_Symmetries.f r (w : Int) (h : Int)) ((nS w h : Nat) : Int) := by
  unfold gamehallref1_Symmetries.f
  refine bind_now (in_f _ _ _) ?_
  rw [decide_eq_true (show 1 ≤ (w : Int) ∧ (w : Int) ≤ 8 by omega)]
  refine Aid.ite (fun _ => ?_) (fun hh => absurd rfl hh)
  refine bind_now (in_f _ _ _) ?_
  rw [decide_eq_true (show 1 ≤ (h : Int) ∧ (h : Int) ≤ 8 by omega)]
  refine Ev.step (fun r => by rw [gamehallref1_Symmetries.j0]) ?_
  refine Aid.ite (fun hh => absurd hh (by decide)) (fun _ => ?_)
  unfold nS
  refine Aid.ite (fun e => now ?_) (fun e => now ?_)
  · rw [if_pos (show w = h by omega)]; rfl
  · rw [if_neg (show ¬ w = h by omega)]; rfl
end Sn
open Sn Aid

theorem SymmCanon : gamehalllaw1_SymmCanon.Pure := by
  intro a0 a1 X hw0 hw1 hl
  refine Ev.rounds (g := fun k => gamehalllaw1_SymmCanon.f k a0 a1 X) ?_
  unfold gamehalllaw1_SymmCanon.f
  have e1 : Ev (fun k => symm_Canon.f k 2 1 (([6, 5] : List Int))) ([5, 6], 1, 0) := Ev.of (symm_Canon.mono _ _ _) (k := 100) (by decide +kernel)
  refine Ev.bind e1 ?_
  refine Aid.ite (fun _ => ?_) (fun hh => absurd rfl hh)
  refine Aid.ite (fun _ => ?_) (fun hh => absurd rfl hh)
  refine Ev.bind (same_f [5, 6] (by decide)) ?_
  refine Ev.step (fun k => by rw [gamehalllaw1_SymmCanon.j0]) ?_
  refine Aid.ite (fun hh => absurd hh (by decide)) (fun _ => ?_)
  clear e1
  by_cases hv : (1 ≤ a0 ∧ a0 ≤ 8) ∧ (1 ≤ a1 ∧ a1 ≤ 8)
  · obtain ⟨w, rfl⟩ : ∃ w : Nat, a0 = (w : Int) := ⟨a0.toNat, by omega⟩
    obtain ⟨h, rfl⟩ : ∃ h : Nat, a1 = (h : Int) := ⟨a1.toNat, by omega⟩
    have vw : 1 ≤ w ∧ w ≤ 8 := by omega
    have vh : 1 ≤ h ∧ h ≤ 8 := by omega
    have hS := sym_ev w h vw vh
    have h8 := nS_or w h
    have hb : w * h ≤ 64 := Nat.mul_le_mul vw.2 vh.2
    have hwn := Aside0.mk (show wrap64 ((w : Int) * (h : Int)) = ((w * h : Nat) : Int) from by rw [← Int.natCast_mul, w64 (by omega) (by omega)])
    by_cases hX : X.length = w * h
    · obtain ⟨fb, ft, c1, c2⟩ := sim w h (w * h) rfl vw vh hb X hX (nS w h - 1) 1 X 0 (by omega) hX
      have hid := ap_id w h (w * h) rfl vw vh hb X hX (w * h) 0 (List.replicate (w * h) 0) (by omega) (by simp) (fun k hk => absurd hk (by omega))
      have eA := apply_f w h (w * h) rfl vw vh hb X hX 0 (by omega)
      rw [hid] at eA
      have eC : Ev (fun k => symm_Canon.f k (w : Int) (h : Int) X) (fb, ft, 0) := by
        unfold symm_Canon.f
        refine Ev.bind eA ?_
        exact Aid.ite (fun _ => c1) (fun hh => absurd rfl hh)
      have e0 := law_step w h (w * h) rfl vw vh hb X hX fb ft 0 0 0 (by omega) X hX
      rw [hid, lt_self, if_neg (by decide), if_neg (by decide), show wrap64 (((0 : Nat) : Int) + 1) = ((1 : Nat) : Int) from w64s (by omega) (by omega)] at e0
      refine Ev.bind eC ?_
      refine Ev.bind hS ?_
      refine Aid.ite (fun hh => absurd hh (by omega)) (fun _ => ?_)
      rw [hwn.out]
      refine Aid.ite (fun _ => ?_) (fun hh => absurd (show (X.length : Int) = ((w * h : Nat) : Int) by omega) hh)
      refine Ev.step (fun k => by rw [gamehalllaw1_SymmCanon.j1]) ?_
      refine Aid.ite (fun _ => ?_) (fun hh => absurd rfl hh)
      exact e0 c2
    · have eC : Ev (fun k => symm_Canon.f k (w : Int) (h : Int) X) ([], 0, 3) := by
        have eA : Ev (fun k => symm_Apply.f k (w : Int) (h : Int) 0 X) ([], 3) := by
          unfold symm_Apply.f
          have hck : symm_check.f (w : Int) (h : Int) 0 = some 0 := by
            unfold symm_check.f
            rw [check_f, if_pos hv]
            simp only [Option.bind_some, if_true]
            rw [if_neg (by omega), many]
            simp only [Option.bind_some]
            rw [if_neg (by omega)]
          refine bind_now hck ?_
          refine Aid.ite (fun _ => ?_) (fun hh => absurd rfl hh)
          rw [hwn.out]
          exact Aid.ite (fun hh => absurd hh (by omega)) (fun _ => Ev.now _)
        unfold symm_Canon.f
        refine Ev.bind eA ?_
        exact Aid.ite (fun hh => absurd hh (by decide)) (fun _ => Ev.now _)
      refine Ev.bind eC ?_
      refine Ev.bind hS ?_
      refine Aid.ite (fun hh => absurd hh (by omega)) (fun _ => ?_)
      rw [hwn.out]
      refine Aid.ite (fun hh => absurd hh (by omega)) (fun _ => ?_)
      refine Ev.step (fun k => by rw [gamehalllaw1_SymmCanon.j1]) ?_
      refine Aid.ite (fun hh => absurd hh (by decide)) (fun _ => ?_)
      refine Aid.ite (fun _ => ?_) (fun hh => absurd rfl hh)
      refine Aid.ite (fun _ => ?_) (fun hh => absurd rfl hh)
      exact now rfl
  · have eC : Ev (fun k => symm_Canon.f k a0 a1 X) ([], 0, 4) := by
      have eA : Ev (fun k => symm_Apply.f k a0 a1 0 X) ([], 4) := by
        unfold symm_Apply.f
        have hck : symm_check.f a0 a1 0 = some 4 := by
          unfold symm_check.f
          rw [check_f, if_neg hv]
          rfl
        refine bind_now hck ?_
        exact Aid.ite (fun hh => absurd hh (by decide)) (fun _ => Ev.now _)
      unfold symm_Canon.f
      refine Ev.bind eA ?_
      exact Aid.ite (fun hh => absurd hh (by decide)) (fun _ => Ev.now _)
    have eS : Ev (fun k => gamehallref1_Symmetries.f k a0 a1) 0 := by
      have jt : Ev (fun k => gamehallref1_Symmetries.j0 k a0 a1 true) 0 := Ev.step (fun k => by rw [gamehallref1_Symmetries.j0]) (Aid.ite (fun _ => Ev.now _) (fun hh => absurd rfl hh))
      unfold gamehallref1_Symmetries.f
      refine bind_now (in_f _ _ _) ?_
      by_cases h1 : 1 ≤ a0 ∧ a0 ≤ 8
      · rw [decide_eq_true h1]
        refine Aid.ite (fun _ => ?_) (fun hh => absurd rfl hh)
        refine bind_now (in_f _ _ _) ?_
        rw [decide_eq_false (show ¬ (1 ≤ a1 ∧ a1 ≤ 8) by omega)]
        exact jt
      · rw [decide_eq_false h1]
        exact Aid.ite (fun hh => absurd hh (by decide)) (fun _ => jt)
    refine Ev.bind eC ?_
    refine Ev.bind eS ?_
    refine Aid.ite (fun _ => ?_) (fun hh => absurd rfl hh)
    refine Ev.step (fun k => by rw [gamehalllaw1_SymmCanon.j1]) ?_
    refine Aid.ite (fun hh => absurd hh (by decide)) (fun _ => ?_)
    refine Aid.ite (fun _ => ?_) (fun hh => absurd rfl hh)
    refine Aid.ite (fun _ => ?_) (fun hh => absurd rfl hh)
    exact now rfl

end Go.Proofs.Ytcncilipmekfhaa.Pure
