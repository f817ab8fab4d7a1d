/- SymmMaps: for every input the law answers true. Code and reference move squares alike (a finite fact); an orbit has the squares to which some symmetry moves, each once. -/
import Derived.Test.YtikijopbgjncbaaPSymmMapsx3
import Derived.Test.YtikijopbgjncbaaAid
namespace Go.Proofs.Ytikijopbgjncbaa.Pure
open Go.RowKit Go.Proofs.Ytikijopbgjncbaa.PSymmMaps Go.Proofs.YtikijopbgjncbaaW.PrintWords Go.Proofs.YtikijopbgjncbaaW.PrintLast

set_option linter.unusedSimpArgs false
set_option linter.unusedVariables false
set_option linter.unusedSectionVars false
namespace Sm
open Aid
theorem in_f (a b c : Int) : gamehallref1_In.f a b c = some (decide (b ≤ a ∧ a ≤ c)) := by
  unfold gamehallref1_In.f
  by_cases h : a ≥ b
  · rw [if_pos h]; simp; omega
  · rw [if_neg h]; simp; omega
def nS (w h : Nat) : Nat := if w = h then 8 else 4
def mvn (w h s q : Nat) : Nat := ((symm_image.f 10 (w : Int) (h : Int) (s : Int) (q : Int)).getD 0).toNat
/-- the symmetry that moves back -/
def inv (s : Nat) : Nat := [0, 1, 2, 3, 4, 6, 5, 7].getD s 0
theorem all_mv : (List.range 9).all (fun w => (List.range 9).all (fun h => w == 0 || h == 0 || (List.range (nS w h)).all (fun s => (List.range (w * h)).all (fun q =>
    symm_image.f 10 (w : Int) (h : Int) (s : Int) (q : Int) == some ((mvn w h s q : Nat) : Int) && gamehallref1_Moved.f 10 (w : Int) (h : Int) (s : Int) (q : Int) == some ((mvn w h s q : Nat) : Int) && decide (mvn w h s q < w * h) && (mvn w h (inv s) (mvn w h s q) == q))))) = true := by decide +kernel
theorem mv (w h : Nat) (hw : 1 ≤ w ∧ w ≤ 8) (hh : 1 ≤ h ∧ h ≤ 8) (s : Nat) (hs : s < nS w h) (q : Nat) (hq : q < w * h) :
    symm_image.f 10 (w : Int) (h : Int) (s : Int) (q : Int) = some ((mvn w h s q : Nat) : Int) ∧ gamehallref1_Moved.f 10 (w : Int) (h : Int) (s : Int) (q : Int) = some ((mvn w h s q : Nat) : Int) ∧ mvn w h s q < w * h ∧ mvn w h (inv s) (mvn w h s q) = q := by
  have h1 := List.all_eq_true.mp (List.all_eq_true.mp all_mv w (List.mem_range.mpr (by omega))) h (List.mem_range.mpr (by omega))
  rw [show (w == 0) = false from beq_eq_false_iff_ne.mpr (by omega), show (h == 0) = false from beq_eq_false_iff_ne.mpr (by omega), Bool.false_or, Bool.false_or] at h1
  have h2 := List.all_eq_true.mp (List.all_eq_true.mp h1 s (List.mem_range.mpr hs)) q (List.mem_range.mpr hq)
  rw [Bool.and_eq_true, Bool.and_eq_true, Bool.and_eq_true] at h2
  exact ⟨eq_of_beq h2.1.1.1, eq_of_beq h2.1.1.2, of_decide_eq_true h2.1.2, eq_of_beq h2.2⟩
theorem nS_or (w h : Nat) : nS w h = 8 ∨ nS w h = 4 := by unfold nS; split <;> simp
theorem many (w h : Nat) : symm_many.f (w : Int) (h : Int) = some ((nS w h : Nat) : Int) := by
  unfold symm_many.f nS
  by_cases e : w = h
  · rw [if_pos (by omega), if_pos e]; rfl
  · rw [if_neg (by omega), if_neg e]; rfl
theorem rd_set (xs : List Int) (a b : Nat) (v : Int) (h : a < xs.length) : rd (xs.set a v) (b : Int) = if a = b then v else rd xs (b : Int) := by
  unfold rd
  rw [Int.toNat_natCast, List.getD_eq_getElem?_getD, List.getD_eq_getElem?_getD, List.getElem?_set]
  by_cases e : a = b
  · subst e; simp [h]
  · simp [e]
theorem check_f (a b : Int) : symm_Check.f a b = some (if (1 ≤ a ∧ a ≤ 8) ∧ (1 ≤ b ∧ b ≤ 8) then 0 else 4) := by
  unfold symm_Check.f
  repeat' split
  all_goals first | rfl | (exfalso; omega)
/-- the cells, moved -/
def ap (w h s : Nat) (X : List Int) : Nat → Nat → List Int → List Int
  | 0, _, M => M
  | d + 1, j, M => ap w h s X d (j + 1) (M.set (mvn w h s j) (rd X (j : Int)))
theorem ap_len (w h s : Nat) (X : List Int) : ∀ d j M, (ap w h s X d j M).length = M.length := by
  intro d
  induction d with
  | zero => intro j M; rfl
  | succ d ih => intro j M; rw [ap, ih, List.length_set]
theorem same_ev (B : List Int) (hl : B.length ≤ 64) : ∀ (d j : Nat), j + d = B.length → Ev (fun k => gamehallref1_SameInts.l0 k B B (B.length : Int) (j : Int)) true := by
  intro d
  induction d with
  | zero =>
    intro j hj
    refine Ev.step (fun k => by rw [gamehallref1_SameInts.l0]) ?_
    exact Aid.ite (fun hh => absurd hh (by omega)) (fun _ => Ev.now _)
  | succ d ih =>
    intro j hj
    have hw := Aside0.mk (show wrap64 ((j : Int) + 1) = ((j + 1 : Nat) : Int) from by rw [w64s (by omega) (by omega)]; omega)
    refine Ev.step (fun k => by rw [gamehallref1_SameInts.l0]) ?_
    rw [hw.out]
    refine Aid.ite (fun _ => ?_) (fun hh => absurd (show (j : Int) < (B.length : Int) by omega) hh)
    refine Aid.ite (fun _ => ?_) (fun hh => absurd (show (0 : Int) ≤ (j : Int) by omega) hh)
    refine Aid.ite (fun _ => ?_) (fun hh => absurd (show (j : Int) < (B.length : Int) by omega) hh)
    refine Aid.ite (fun _ => ?_) (fun hh => absurd (show (j : Int) < (B.length : Int) by omega) hh)
    exact Aid.ite (fun _ => ih (j + 1) (by omega)) (fun hh => absurd rfl hh)
theorem same_f (B : List Int) (hl : B.length ≤ 64) : Ev (fun k => gamehallref1_SameInts.f k B B) true := by
  unfold gamehallref1_SameInts.f
  exact Aid.ite (fun _ => same_ev B hl B.length 0 (by omega)) (fun hh => absurd rfl hh)
/-- is a square met from another -/
def met (w h q p : Nat) : Bool := (List.range (nS w h)).any fun s => mvn w h s q == p
def below (w h q m : Nat) : List Nat := (List.range m).filter (met w h q)
def orb (w h q : Nat) : List Int := (below w h q (w * h)).map fun p : Nat => (p : Int)
def imgs (w h q m : Nat) : List Int := (List.range m).map fun s => ((mvn w h s q : Nat) : Int)
theorem once_imgs (w h q : Nat) (hw : 1 ≤ w ∧ w ≤ 8) (hh : 1 ≤ h ∧ h ≤ 8) (hq : q < w * h) : once (imgs w h q (nS w h)) = orb w h q := by
  obtain ⟨h1, h2⟩ := once_spec (imgs w h q (nS w h))
  refine uniq _ _ h1 ?_ (fun x => ?_)
  · unfold orb below
    rw [List.pairwise_map]
    refine List.Pairwise.imp (fun {a b} hab => ?_) ((List.pairwise_lt_range (n := w * h)).filter _)
    omega
  · rw [h2 x]
    simp only [imgs, orb, below, List.mem_map, List.mem_range, List.mem_filter, met, List.any_eq_true, beq_iff_eq]
    constructor
    · rintro ⟨s, hs, e⟩
      exact ⟨mvn w h s q, ⟨(mv w h hw hh s hs q hq).2.2.1, s, hs, rfl⟩, e⟩
    · rintro ⟨p, ⟨hp, s, hs, e⟩, e2⟩
      exact ⟨s, hs, by rw [e]; exact e2⟩
/-- what lies below a place, and what comes behind -/
theorem split_at (P : Nat → Bool) (q : Nat) : ∀ n, q < n → ∃ rest, (List.range n).filter P = (List.range q).filter P ++ (if P q = true then q :: rest else rest)
  | 0, h => absurd h (by omega)
  | n + 1, h => by
    rw [List.range_succ, List.filter_append]
    by_cases e : q = n
    · subst e
      refine ⟨[], ?_⟩
      by_cases hp : P q = true <;> simp [hp]
    · obtain ⟨rest, hr⟩ := split_at P q n (by omega)
      refine ⟨rest ++ [n].filter P, ?_⟩
      rw [hr]
      by_cases hp : P q = true <;> simp [hp]
theorem orb_at (w h q p : Nat) (hp : p < w * h) (hm : met w h q p = true) : (below w h q p).length < (orb w h q).length ∧ rd (orb w h q) ((below w h q p).length : Int) = (p : Int) := by
  obtain ⟨rest, hr⟩ := split_at (met w h q) p (w * h) hp
  rw [if_pos hm] at hr
  have e : orb w h q = (below w h q p).map (fun p : Nat => (p : Int)) ++ ((p : Int) :: rest.map fun p : Nat => (p : Int)) := by
    unfold orb
    rw [show below w h q (w * h) = below w h q p ++ (p :: rest) from hr]
    simp
  constructor
  · rw [e]; simp
  · rw [e]
    simp [rd, List.getD_eq_getElem?_getD]
theorem below_succ (w h q p : Nat) : (below w h q (p + 1)).length = (below w h q p).length + if met w h q p = true then 1 else 0 := by
  unfold below
  rw [List.range_succ, List.filter_append, List.length_append]
  by_cases hm : met w h q p = true <;> simp [hm]
theorem below_le (w h q m : Nat) : (below w h q m).length ≤ m := by
  have := List.length_filter_le (met w h q) (List.range m)
  simpa [below] using this
section
variable (w h n : Nat) (hwh : n = w * h) (vw : 1 ≤ w ∧ w ≤ 8) (vh : 1 ≤ h ∧ h ≤ 8) (hn : n ≤ 64)
include hwh vw vh hn
theorem wrap_n : wrap64 ((w : Int) * (h : Int)) = (n : Int) := by rw [← Int.natCast_mul, ← hwh, w64 (by omega) (by omega)]
theorem check_in (s : Int) : symm_check.f (w : Int) (h : Int) s = some (if 0 ≤ s ∧ s < (nS w h : Int) then 0 else 8) := by
  unfold symm_check.f
  rw [check_f, if_pos (by omega)]
  simp only [Option.bind_some, if_true]
  by_cases h0 : s < 0
  · rw [if_pos h0, if_neg (by omega)]
  · rw [if_neg h0, many]
    simp only [Option.bind_some]
    by_cases h1 : s ≥ ((nS w h : Nat) : Int)
    · rw [if_pos h1, if_neg (by omega)]
    · rw [if_neg h1, if_pos (by omega)]
theorem map_bad (s : Int) (sq : Int) (hs : ¬ (0 ≤ s ∧ s < (nS w h : Int))) : Ev (fun k => symm_Map.f k (w : Int) (h : Int) s sq) (0, 8) := by
  unfold symm_Map.f
  refine bind_now (check_in w h n hwh vw vh hn s) ?_
  rw [if_neg hs]
  exact Aid.ite (fun hh => absurd hh (by decide)) (fun _ => Ev.now _)
theorem map_off (s : Nat) (hs : s < nS w h) (sq : Int) (hq : ¬ (0 ≤ sq ∧ sq < (n : Int))) : Ev (fun k => symm_Map.f k (w : Int) (h : Int) (s : Int) sq) (0, 4) := by
  unfold symm_Map.f
  refine bind_now (check_in w h n hwh vw vh hn s) ?_
  rw [if_pos (by omega), wrap_n w h n hwh vw vh hn]
  refine Aid.ite (fun _ => ?_) (fun hh => absurd rfl hh)
  refine Aid.ite (fun _ => Ev.now _) (fun _ => ?_)
  exact Aid.ite (fun _ => Ev.now _) (fun hh => absurd (show sq ≥ (n : Int) by omega) hh)
theorem map_on (s : Nat) (hs : s < nS w h) (q : Nat) (hq : q < n) : Ev (fun k => symm_Map.f k (w : Int) (h : Int) (s : Int) (q : Int)) (((mvn w h s q : Nat) : Int), 0) := by
  unfold symm_Map.f
  refine bind_now (check_in w h n hwh vw vh hn s) ?_
  rw [if_pos (by omega), wrap_n w h n hwh vw vh hn]
  refine Aid.ite (fun _ => ?_) (fun hh => absurd rfl hh)
  refine Aid.ite (fun hh => absurd hh (by omega)) (fun _ => ?_)
  refine Aid.ite (fun hh => absurd hh (by omega)) (fun _ => ?_)
  refine Ev.bind (Ev.of (symm_image.mono _ _ _ _) (mv w h vw vh s hs q (by omega)).1) ?_
  exact Ev.now _
theorem orbit_l0 (q : Nat) (hq : q < n) : ∀ (d j : Nat), j + d = nS w h → Ev (fun k => symm_Orbit.l0 k (w : Int) (h : Int) (q : Int) (imgs w h q j) ((nS w h : Nat) : Int) (j : Int)) (orb w h q, 0) := by
  intro d
  have h8 := nS_or w h
  induction d with
  | zero =>
    intro j hj
    obtain rfl : j = nS w h := by omega
    have hl : (imgs w h q (nS w h)).length = nS w h := by simp [imgs]
    refine Ev.step (fun k => by rw [symm_Orbit.l0]) ?_
    refine Aid.ite (fun hh => absurd hh (by omega)) (fun _ => ?_)
    refine Aid.ite (fun _ => ?_) (fun hh => absurd (show 0 < (imgs w h q (nS w h)).length by omega) hh)
    refine Aid.ite (fun _ => ?_) (fun hh => absurd (show (imgs w h q (nS w h)).length < 4611686018427387904 by omega) hh)
    exact Aid.now (by rw [once_imgs w h q vw vh (by omega)])
  | succ d ih =>
    intro j hj
    have hw := Aside0.mk (show wrap64 ((j : Int) + 1) = ((j + 1 : Nat) : Int) from by rw [w64s (by omega) (by omega)]; omega)
    have hl : (imgs w h q j).length = j := by simp [imgs]
    refine Ev.step (fun k => by rw [symm_Orbit.l0]) ?_
    rw [hw.out]
    refine Aid.ite (fun _ => ?_) (fun hh => absurd (show (j : Int) < ((nS w h : Nat) : Int) by omega) hh)
    refine Ev.bind (Ev.of (symm_image.mono _ _ _ _) (mv w h vw vh j (by omega) q (by omega)).1) ?_
    refine Aid.ite (fun _ => ?_) (fun hh => absurd (show (imgs w h q j).length < 17592186044416 by omega) hh)
    have e : imgs w h q j ++ [((mvn w h j q : Nat) : Int)] = imgs w h q (j + 1) := by simp [imgs, List.range_succ]
    rw [e]
    exact ih (j + 1) (by omega)
theorem orbit_on (q : Nat) (hq : q < n) : Ev (fun k => symm_Orbit.f k (w : Int) (h : Int) (q : Int)) (orb w h q, 0) := by
  unfold symm_Orbit.f
  have h8 := nS_or w h
  refine Ev.bind (map_on w h n hwh vw vh hn 0 (by omega) q hq) ?_
  refine Aid.ite (fun _ => ?_) (fun hh => absurd rfl hh)
  refine bind_now (many w h) ?_
  exact orbit_l0 w h n hwh vw vh hn q hq (nS w h) 0 (by omega)
theorem orbit_off (sq : Int) (hq : ¬ (0 ≤ sq ∧ sq < (n : Int))) : Ev (fun k => symm_Orbit.f k (w : Int) (h : Int) sq) ([], 4) := by
  unfold symm_Orbit.f
  have h8 := nS_or w h
  refine Ev.bind (map_off w h n hwh vw vh hn 0 (by omega) sq hq) ?_
  exact Aid.ite (fun hh => absurd hh (by decide)) (fun _ => Ev.now _)
theorem apply_bad (s : Int) (X : List Int) (hs : ¬ (0 ≤ s ∧ s < (nS w h : Int))) : Ev (fun k => symm_Apply.f k (w : Int) (h : Int) s X) ([], 8) := by
  unfold symm_Apply.f
  refine bind_now (check_in w h n hwh vw vh hn s) ?_
  rw [if_neg hs]
  exact Aid.ite (fun hh => absurd hh (by decide)) (fun _ => Ev.now _)
theorem apply_form (s : Nat) (hs : s < nS w h) (X : List Int) (hX : X.length ≠ n) : Ev (fun k => symm_Apply.f k (w : Int) (h : Int) (s : Int) X) ([], 3) := by
  unfold symm_Apply.f
  refine bind_now (check_in w h n hwh vw vh hn s) ?_
  rw [if_pos (by omega), wrap_n w h n hwh vw vh hn]
  refine Aid.ite (fun _ => ?_) (fun hh => absurd rfl hh)
  exact Aid.ite (fun hh => absurd hh (by omega)) (fun _ => Ev.now _)
theorem apply_l0 (X : List Int) (hX : X.length = n) (s : Nat) (hs : s < nS w h) : ∀ (d j : Nat) (M : List Int), j + d = n → M.length = n → Ev (fun k => symm_Apply.l0 k (w : Int) (h : Int) (s : Int) M X (n : Int) (j : Int)) (ap w h s X d j M, 0) := by
  intro d
  induction d with
  | zero =>
    intro j M hj hM
    refine Ev.step (fun k => by rw [symm_Apply.l0]) ?_
    exact Aid.ite (fun hh => absurd hh (by omega)) (fun _ => Ev.now _)
  | succ d ih =>
    intro j M hj hM
    have hw := Aside0.mk (show wrap64 ((j : Int) + 1) = ((j + 1 : Nat) : Int) from by rw [w64s (by omega) (by omega)]; omega)
    obtain ⟨m1, _, m3, _⟩ := mv w h vw vh s hs j (by omega)
    refine Ev.step (fun k => by rw [symm_Apply.l0]) ?_
    rw [hw.out, ap]
    refine Aid.ite (fun _ => ?_) (fun hh => absurd (show (j : Int) < (n : Int) by omega) hh)
    refine Aid.ite (fun _ => ?_) (fun hh => absurd (show (0 : Int) ≤ (j : Int) by omega) hh)
    refine Aid.ite (fun _ => ?_) (fun hh => absurd (show (j : Int) < (X.length : Int) by omega) hh)
    refine Ev.bind (Ev.of (symm_image.mono _ _ _ _) m1) ?_
    refine Aid.ite (fun _ => ?_) (fun hh => absurd (show (0 : Int) ≤ ((mvn w h s j : Nat) : Int) by omega) hh)
    refine Aid.ite (fun _ => ?_) (fun hh => absurd (show ((mvn w h s j : Nat) : Int) < (M.length : Int) by omega) hh)
    rw [Int.toNat_natCast]
    exact ih (j + 1) _ (by omega) (by rw [List.length_set]; exact hM)
theorem apply_ok (X : List Int) (hX : X.length = n) (s : Nat) (hs : s < nS w h) : Ev (fun k => symm_Apply.f k (w : Int) (h : Int) (s : Int) X) (ap w h s X n 0 (List.replicate n 0), 0) := by
  unfold symm_Apply.f
  refine bind_now (check_in w h n hwh vw vh hn s) ?_
  rw [if_pos (by omega), wrap_n w h n hwh vw vh hn]
  refine Aid.ite (fun _ => ?_) (fun hh => absurd rfl hh)
  rw [hX, Int.toNat_natCast]
  refine Aid.ite (fun _ => ?_) (fun hh => absurd rfl hh)
  refine Aid.ite (fun _ => ?_) (fun hh => absurd (show (0 : Int) ≤ (n : Int) by omega) hh)
  refine Aid.ite (fun _ => ?_) (fun hh => absurd (show n ≤ 35184372088832 by omega) hh)
  exact apply_l0 w h n hwh vw vh hn X hX s hs n 0 _ (by omega) (by simp)
theorem ap_rd (X : List Int) (s : Nat) (hs : s < nS w h) : ∀ (d j : Nat) (M : List Int), j + d = n → M.length = n → ∀ i, i < n → rd (ap w h s X d j M) ((mvn w h s i : Nat) : Int) = if j ≤ i then rd X (i : Int) else rd M ((mvn w h s i : Nat) : Int) := by
  intro d
  induction d with
  | zero => intro j M hj hM i hi; rw [ap, if_neg (by omega)]
  | succ d ih =>
    intro j M hj hM i hi
    have m3 := (mv w h vw vh s hs j (by omega)).2.2.1
    rw [ap, ih (j + 1) _ (by omega) (by rw [List.length_set]; exact hM) i hi, rd_set _ _ _ _ (by omega)]
    by_cases e : j = i
    · subst e; rw [if_neg (by omega), if_pos rfl, if_pos (by omega)]
    · by_cases h1 : j + 1 ≤ i
      · rw [if_pos h1, if_pos (by omega)]
      · have hne : ¬ mvn w h s j = mvn w h s i := by
          intro e2
          have a1 := (mv w h vw vh s hs j (by omega)).2.2.2
          have a2 := (mv w h vw vh s hs i (by omega)).2.2.2
          rw [e2, a2] at a1
          exact e a1.symm
        rw [if_neg h1, if_neg hne, if_neg (by omega)]
theorem all_l0 : ∀ (d j : Nat) (M : List Int), j + d = M.length → M.length ≤ 8 → ∃ R : List Int, R.length = M.length ∧ Ev (fun k => symm_All.l0 k M (M.length : Int) (j : Int)) (R, 0) := by
  intro d
  induction d with
  | zero =>
    intro j M hj h8
    refine ⟨M, rfl, Ev.step (fun k => by rw [symm_All.l0]) ?_⟩
    exact Aid.ite (fun hh => absurd hh (by omega)) (fun _ => Ev.now _)
  | succ d ih =>
    intro j M hj h8
    have hw := Aside0.mk (show wrap64 ((j : Int) + 1) = ((j + 1 : Nat) : Int) from by rw [w64s (by omega) (by omega)]; omega)
    obtain ⟨R, hR, hE⟩ := ih (j + 1) (M.set j (j : Int)) (by rw [List.length_set]; omega) (by rw [List.length_set]; exact h8)
    rw [List.length_set] at hR hE
    refine ⟨R, hR, Ev.step (fun k => by rw [symm_All.l0]) ?_⟩
    rw [hw.out, Int.toNat_natCast]
    refine Aid.ite (fun _ => ?_) (fun hh => absurd (show (j : Int) < (M.length : Int) by omega) hh)
    refine Aid.ite (fun _ => ?_) (fun hh => absurd (show (0 : Int) ≤ (j : Int) by omega) hh)
    exact Aid.ite (fun _ => hE) (fun hh => absurd (show (j : Int) < (M.length : Int) by omega) hh)
theorem all_ev : ∃ R : List Int, R.length = nS w h ∧ Ev (fun k => symm_All.f k (w : Int) (h : Int)) (R, 0) := by
  have h8 := nS_or w h
  obtain ⟨R, hR, hE⟩ := all_l0 w h n hwh vw vh hn (nS w h) 0 (List.replicate (nS w h) 0) (by simp) (by simp; omega)
  refine ⟨R, by simpa using hR, ?_⟩
  unfold symm_All.f
  rw [check_f, if_pos (by omega)]
  refine bind_now rfl ?_
  refine Aid.ite (fun _ => ?_) (fun hh => absurd rfl hh)
  refine bind_now (many w h) ?_
  rw [Int.toNat_natCast]
  refine Aid.ite (fun _ => ?_) (fun hh => absurd (show (0 : Int) ≤ ((nS w h : Nat) : Int) by omega) hh)
  refine Aid.ite (fun _ => ?_) (fun hh => absurd (show nS w h ≤ 35184372088832 by omega) hh)
  exact bind_now rfl hE
theorem l2_ev (X : List Int) (hX : X.length = n) (s : Nat) (hs : s < nS w h) : ∀ (d j : Nat), j + d = n → Ev (fun k => gamehalllaw1_SymmMaps.l2 k (w : Int) (h : Int) (s : Int) (ap w h s X n 0 (List.replicate n 0)) X (n : Int) (j : Int)) true := by
  intro d
  induction d with
  | zero =>
    intro j hj
    refine Ev.step (fun k => by rw [gamehalllaw1_SymmMaps.l2]) ?_
    exact Aid.ite (fun hh => absurd hh (by omega)) (fun _ => Ev.now _)
  | succ d ih =>
    intro j hj
    have hw := Aside0.mk (show wrap64 ((j : Int) + 1) = ((j + 1 : Nat) : Int) from by rw [w64s (by omega) (by omega)]; omega)
    obtain ⟨_, m2, m3, _⟩ := mv w h vw vh s hs j (by omega)
    have hal := ap_len w h s X n 0 (List.replicate n 0)
    rw [List.length_replicate] at hal
    have har := ap_rd w h n hwh vw vh hn X s hs n 0 (List.replicate n 0) (by omega) (by simp) j (by omega)
    rw [if_pos (Nat.zero_le _)] at har
    generalize ap w h s X n 0 (List.replicate n 0) = Y at *
    refine Ev.step (fun k => by rw [gamehalllaw1_SymmMaps.l2]) ?_
    rw [hw.out]
    refine Aid.ite (fun _ => ?_) (fun hh => absurd (show (j : Int) < (n : Int) by omega) hh)
    refine Aid.ite (fun _ => ?_) (fun hh => absurd (show (0 : Int) ≤ (j : Int) by omega) hh)
    refine Aid.ite (fun _ => ?_) (fun hh => absurd (show (j : Int) < (X.length : Int) by omega) hh)
    refine Ev.bind (Ev.of (gamehallref1_Moved.mono _ _ _ _) m2) ?_
    refine Aid.ite (fun _ => ?_) (fun hh => absurd (show (0 : Int) ≤ ((mvn w h s j : Nat) : Int) by omega) hh)
    refine Aid.ite (fun _ => ?_) (fun hh => absurd (show ((mvn w h s j : Nat) : Int) < (Y.length : Int) by omega) hh)
    exact Aid.ite (fun _ => ih (j + 1) (by omega)) (fun hh => absurd har hh)
/-- the loop that asks whether some symmetry moves to p -/
theorem l1_ev (s sq : Int) (q : Nat) (hq : q < n) (esq : sq = (q : Int)) (X : List Int) (x17 x18 : Int) (x19 : List Int) (x20 : Int) (o : List Int) (k0 p : Int) (pn : Nat) (ep : p = (pn : Int))
    (hK : ∀ b : Bool, b = met w h q pn → Ev (fun k => gamehalllaw1_SymmMaps.j7 k (w : Int) (h : Int) s sq X x17 x18 x19 x20 o ((nS w h : Nat) : Int) true k0 p b (n : Int) p) true) :
    ∀ (d j : Nat) (b : Bool), j + d = nS w h → b = (List.range j).any (fun s => mvn w h s q == pn) → Ev (fun k => gamehalllaw1_SymmMaps.l1 k (w : Int) (h : Int) s sq X x17 x18 x19 x20 o ((nS w h : Nat) : Int) true k0 p b (j : Int) (n : Int) p) true := by
  intro d
  have h8 := nS_or w h
  induction d with
  | zero =>
    intro j b hj hb
    obtain rfl : j = nS w h := by omega
    refine Ev.step (fun k => by rw [gamehalllaw1_SymmMaps.l1]) ?_
    refine Aid.ite (fun _ => ?_) (fun hh => absurd rfl hh)
    refine Aid.ite (fun hh => absurd hh (by omega)) (fun _ => ?_)
    exact hK b hb
  | succ d ih =>
    intro j b hj hb
    have hw := Aside0.mk (show wrap64 ((j : Int) + 1) = ((j + 1 : Nat) : Int) from by rw [w64s (by omega) (by omega)]; omega)
    obtain ⟨_, m2, m3, _⟩ := mv w h vw vh j (by omega) q (by omega)
    have hany : (List.range (j + 1)).any (fun s => mvn w h s q == pn) = (b || (mvn w h j q == pn)) := by
      rw [List.range_succ, List.any_append, ← hb]; simp
    refine Ev.step (fun k => by rw [gamehalllaw1_SymmMaps.l1]) ?_
    rw [hw.out]
    refine Aid.ite (fun _ => ?_) (fun hh => absurd rfl hh)
    refine Aid.ite (fun _ => ?_) (fun hh => absurd (show (j : Int) < ((nS w h : Nat) : Int) by omega) hh)
    refine Aid.ite (fun ht => ?_) (fun ht => ?_)
    · exact ih (j + 1) true (by omega) (by rw [hany, ht]; rfl)
    · subst esq
      refine Ev.bind (Ev.of (gamehallref1_Moved.mono _ _ _ _) m2) ?_
      refine ih (j + 1) _ (by omega) ?_
      have hbf : b = false := by simpa using ht
      rw [hany, hbf, Bool.false_or]
      subst ep
      rw [Bool.eq_iff_iff]
      simp only [beq_iff_eq]
      omega
theorem l0_on (s sq : Int) (q : Nat) (hq : q < n) (esq : sq = (q : Int)) (X : List Int) (x17 x18 : Int) (x19 : List Int) (x20 : Int)
    (hK : Ev (fun k => gamehalllaw1_SymmMaps.l0 k (w : Int) (h : Int) s sq X x17 x18 x19 x20 (orb w h q) ((nS w h : Nat) : Int) true ((orb w h q).length : Int) (n : Int) (n : Int)) true) :
    ∀ (d p : Nat), p + d = n → Ev (fun k => gamehalllaw1_SymmMaps.l0 k (w : Int) (h : Int) s sq X x17 x18 x19 x20 (orb w h q) ((nS w h : Nat) : Int) true ((below w h q p).length : Int) (n : Int) (p : Int)) true := by
  intro d
  induction d with
  | zero =>
    intro p hp
    obtain rfl : p = n := by omega
    have e : (below w h q p).length = (orb w h q).length := by rw [hwh]; simp [orb]
    rw [e]; exact hK
  | succ d ih =>
    intro p hp
    have hw := Aside0.mk (show wrap64 ((p : Int) + 1) = ((p + 1 : Nat) : Int) from by rw [w64s (by omega) (by omega)]; omega)
    have hbl := below_le w h q p
    have hw2 := Aside0.mk (show wrap64 (((below w h q p).length : Int) + 1) = (((below w h q p).length + 1 : Nat) : Int) from by rw [w64s (by omega) (by omega)]; omega)
    have hI := ih (p + 1) (by omega)
    rw [below_succ] at hI
    refine Ev.step (fun k => by rw [gamehalllaw1_SymmMaps.l0]) ?_
    refine Aid.ite (fun _ => ?_) (fun hh => absurd (show (p : Int) < (n : Int) by omega) hh)
    refine l1_ev w h n hwh vw vh hn s sq q hq esq X x17 x18 x19 x20 (orb w h q) _ (p : Int) p rfl (fun b hb => ?_) (nS w h) 0 false (by omega) rfl
    have fin : Ev (fun k => gamehalllaw1_SymmMaps.j8 k (w : Int) (h : Int) s sq X x17 x18 x19 x20 (orb w h q) ((nS w h : Nat) : Int) true ((below w h q p).length : Int) b (n : Int) (p : Int) false) true := by
      refine Ev.step (fun k => by rw [gamehalllaw1_SymmMaps.j8]) ?_
      rw [hw.out, hw2.out]
      refine Aid.ite (fun hh => absurd hh (by decide)) (fun _ => ?_)
      refine Aid.ite (fun hm => ?_) (fun hm => ?_)
      · rw [hm] at hb; rw [if_pos hb.symm] at hI; exact hI
      · rw [if_neg (by rw [← hb]; exact hm)] at hI; exact hI
    refine Ev.step (fun k => by rw [gamehalllaw1_SymmMaps.j7]) ?_
    refine Aid.ite (fun hm => ?_) (fun hm => fin)
    obtain ⟨o1, o2⟩ := orb_at w h q p (by omega) (by rw [← hb]; exact hm)
    refine Aid.ite (fun hh => absurd hh (by omega)) (fun _ => ?_)
    refine Aid.ite (fun _ => ?_) (fun hh => absurd (show (0 : Int) ≤ ((below w h q p).length : Int) by omega) hh)
    refine Aid.ite (fun _ => ?_) (fun hh => absurd (show ((below w h q p).length : Int) < ((orb w h q).length : Int) by omega) hh)
    rw [o2, show ((p : Int) != (p : Int)) = false by simp]
    exact fin
theorem l0_off (s sq : Int) (X : List Int) (x17 x18 : Int) (x19 : List Int) (x20 : Int)
    (hK : Ev (fun k => gamehalllaw1_SymmMaps.l0 k (w : Int) (h : Int) s sq X x17 x18 x19 x20 [] ((nS w h : Nat) : Int) false 0 (n : Int) (n : Int)) true) :
    ∀ (d p : Nat), p + d = n → Ev (fun k => gamehalllaw1_SymmMaps.l0 k (w : Int) (h : Int) s sq X x17 x18 x19 x20 [] ((nS w h : Nat) : Int) false 0 (n : Int) (p : Int)) true := by
  intro d
  induction d with
  | zero =>
    intro p hp
    obtain rfl : p = n := by omega
    exact hK
  | succ d ih =>
    intro p hp
    have hw := Aside0.mk (show wrap64 ((p : Int) + 1) = ((p + 1 : Nat) : Int) from by rw [w64s (by omega) (by omega)]; omega)
    refine Ev.step (fun k => by rw [gamehalllaw1_SymmMaps.l0]) ?_
    refine Aid.ite (fun _ => ?_) (fun hh => absurd (show (p : Int) < (n : Int) by omega) hh)
    refine Ev.step (fun k => by rw [gamehalllaw1_SymmMaps.l1]) ?_
    refine Aid.ite (fun hh => absurd hh (by decide)) (fun _ => ?_)
    refine Ev.step (fun k => by rw [gamehalllaw1_SymmMaps.j7]) ?_
    refine Aid.ite (fun hh => absurd hh (by decide)) (fun _ => ?_)
    refine Ev.step (fun k => by rw [gamehalllaw1_SymmMaps.j8]) ?_
    rw [hw.out]
    refine Aid.ite (fun hh => absurd hh (by decide)) (fun _ => ?_)
    exact Aid.ite (fun hh => absurd hh (by decide)) (fun _ => ih (p + 1) (by omega))
/-- what the law asks of the cells -/
theorem j9_ev (X : List Int) (s : Nat) (hs : s < nS w h) (Y : List Int) (e : Int) (hY : (X.length = n ∧ Y = ap w h s X n 0 (List.replicate n 0) ∧ e = 0) ∨ (X.length ≠ n ∧ Y = [] ∧ e = 3)) :
    Ev (fun k => gamehalllaw1_SymmMaps.j9 k (w : Int) (h : Int) (s : Int) X Y e false) true := by
  refine Ev.step (fun k => by rw [gamehalllaw1_SymmMaps.j9]) ?_
  refine Aid.ite (fun hh => absurd hh (by decide)) (fun _ => ?_)
  rw [wrap_n w h n hwh vw vh hn]
  rcases hY with ⟨hX, rfl, rfl⟩ | ⟨hX, rfl, rfl⟩
  · refine Aid.ite (fun _ => ?_) (fun hh => absurd (show (X.length : Int) = (n : Int) by omega) hh)
    refine Aid.ite (fun _ => ?_) (fun hh => absurd rfl hh)
    have hal := ap_len w h s X n 0 (List.replicate n 0)
    rw [List.length_replicate] at hal
    rw [hal, hX, show ((n : Int) != (n : Int)) = false by simp]
    refine Ev.step (fun k => by rw [gamehalllaw1_SymmMaps.j10]) ?_
    refine Aid.ite (fun hh => absurd hh (by decide)) (fun _ => ?_)
    rw [hX]
    exact l2_ev w h n hwh vw vh hn X hX s hs n 0 (by omega)
  · refine Aid.ite (fun hh => absurd hh (by omega)) (fun _ => ?_)
    exact Aid.ite (fun _ => Ev.now _) (fun hh => absurd rfl hh)
end
theorem sym_ev (w h : Nat) (hw : 1 ≤ w ∧ w ≤ 8) (hh : 1 ≤ h ∧ h ≤ 8) : Ev (fun r => gamehallref1_Symmetries.f r (w : Int) (h : Int)) ((nS w h : Nat) : Int) := by
  unfold gamehallref1_Symmetries.f
  refine bind_now (in_f _ _ _) ?_
  rw [decide_eq_true (show 1 ≤ (w : Int) ∧ (w : Int) ≤ 8 by omega)]
  refine Aid.ite (fun _ => ?_) (fun hh => absurd rfl hh)
  refine bind_now (in_f _ _ _) ?_
  rw [decide_eq_true (show 1 ≤ (h : Int) ∧ (h : Int) ≤ 8 by omega)]
  refine Ev.step (fun r => by rw [gamehallref1_Symmetries.j0]) ?_
  refine Aid.ite (fun hh => absurd hh (by decide)) (fun _ => ?_)
  unfold nS
  refine Aid.ite (fun e => now ?_) (fun e => now ?_)
  · rw [if_pos (show w = h by omega)]; rfl
  · rw [if_neg (show ¬ w = h by omega)]; rfl
theorem sym_bad (a b : Int) (hb : ¬ ((1 ≤ a ∧ a ≤ 8) ∧ (1 ≤ b ∧ b ≤ 8))) : Ev (fun r => gamehallref1_Symmetries.f r a b) 0 := by
  have hj : Ev (fun r => gamehallref1_Symmetries.j0 r a b true) 0 := by
    refine Ev.step (fun r => by rw [gamehallref1_Symmetries.j0]) ?_
    exact Aid.ite (fun _ => Ev.now _) (fun hh => absurd rfl hh)
  unfold gamehallref1_Symmetries.f
  refine bind_now (in_f _ _ _) ?_
  refine Aid.ite (fun h1 => ?_) (fun _ => hj)
  refine bind_now (in_f _ _ _) ?_
  have h1' := of_decide_eq_true h1
  rw [decide_eq_false (show ¬ (1 ≤ b ∧ b ≤ 8) by omega)]
  exact hj
end Sm
open Sm Aid
/-- sizes that the code refuses -/
theorem sm_bad (a0 a1 a2 a3 : Int) (X : List Int) (hb : ¬ ((1 ≤ a0 ∧ a0 ≤ 8) ∧ (1 ≤ a1 ∧ a1 ≤ 8))) : Ev (fun k => gamehalllaw1_SymmMaps.j2 k a0 a1 a2 a3 X false) true := by
  have hck : ∀ s, symm_check.f a0 a1 s = some 4 := fun s => by
    unfold symm_check.f
    rw [check_f, if_neg hb]
    rfl
  have hmap : ∀ s q, Ev (fun k => symm_Map.f k a0 a1 s q) (0, 4) := fun s q => by
    unfold symm_Map.f
    refine bind_now (hck s) ?_
    exact Aid.ite (fun hh => absurd hh (by decide)) (fun _ => Ev.now _)
  refine Ev.step (fun k => by rw [gamehalllaw1_SymmMaps.j2]) ?_
  refine Aid.ite (fun hh => absurd hh (by decide)) (fun _ => ?_)
  refine Ev.bind (hmap a2 a3) ?_
  refine Ev.bind (a := (([] : List Int), (4 : Int))) ?_ ?_
  · unfold symm_Apply.f
    refine bind_now (hck a2) ?_
    exact Aid.ite (fun hh => absurd hh (by decide)) (fun _ => Ev.now _)
  refine Ev.bind (a := (([] : List Int), (4 : Int))) ?_ ?_
  · unfold symm_Orbit.f
    refine Ev.bind (hmap 0 a3) ?_
    exact Aid.ite (fun hh => absurd hh (by decide)) (fun _ => Ev.now _)
  refine Ev.bind (a := (([] : List Int), (4 : Int))) ?_ ?_
  · unfold symm_All.f
    rw [check_f, if_neg hb]
    refine bind_now rfl ?_
    exact Aid.ite (fun hh => absurd hh (by decide)) (fun _ => Ev.now _)
  refine Ev.bind (sym_bad a0 a1 hb) ?_
  refine Aid.ite (fun _ => ?_) (fun hh => absurd rfl hh)
  refine Aid.ite (fun _ => ?_) (fun hh => absurd rfl hh)
  refine Aid.ite (fun _ => ?_) (fun hh => absurd rfl hh)
  refine Aid.ite (fun _ => ?_) (fun hh => absurd rfl hh)
  refine Aid.ite (fun _ => ?_) (fun hh => absurd rfl hh)
  refine Aid.ite (fun _ => ?_) (fun hh => absurd rfl hh)
  exact Aid.now (by first | decide | simp [wrap64])
theorem sm_good (w h : Nat) (vw : 1 ≤ w ∧ w ≤ 8) (vh : 1 ≤ h ∧ h ≤ 8) (a2 a3 : Int) (X : List Int) : Ev (fun k => gamehalllaw1_SymmMaps.j2 k (w : Int) (h : Int) a2 a3 X false) true := by
  obtain ⟨n, hwh⟩ : ∃ n, n = w * h := ⟨_, rfl⟩
  have hn : n ≤ 64 := by rw [hwh]; exact Nat.mul_le_mul vw.2 vh.2
  have h8 := nS_or w h
  obtain ⟨R, hR, hall⟩ := all_ev w h n hwh vw vh hn
  have hwn := wrap_n w h n hwh vw vh hn
  refine Ev.step (fun k => by rw [gamehalllaw1_SymmMaps.j2]) ?_
  refine Aid.ite (fun hh => absurd hh (by decide)) (fun _ => ?_)
  -- the square
  by_cases hon : 0 ≤ a3 ∧ a3 < (n : Int)
  · obtain ⟨q, rfl⟩ : ∃ q : Nat, a3 = (q : Int) := ⟨a3.toNat, by omega⟩
    have hq : q < n := by omega
    have rest : ∀ (x17 x18 : Int) (x19 : List Int) (x20 : Int),
        (Ev (fun k => gamehalllaw1_SymmMaps.l0 k (w : Int) (h : Int) a2 (q : Int) X x17 x18 x19 x20 (orb w h q) ((nS w h : Nat) : Int) true ((orb w h q).length : Int) (n : Int) (n : Int)) true) →
        Ev (fun k => gamehalllaw1_SymmMaps.j3 k (w : Int) (h : Int) a2 (q : Int) X x17 x18 x19 x20 (orb w h q) 0 ((nS w h : Nat) : Int) false) true := fun x17 x18 x19 x20 hK => by
      refine Ev.step (fun k => by rw [gamehalllaw1_SymmMaps.j3]) ?_
      refine Aid.ite (fun hh => absurd hh (by decide)) (fun _ => ?_)
      refine bind_now (in_f _ _ _) ?_
      rw [hwn, w64 (n := (n : Int) - 1) (by omega) (by omega), decide_eq_true (show (0 : Int) ≤ (q : Int) ∧ (q : Int) ≤ (n : Int) - 1 by omega)]
      refine Aid.ite (fun hh => absurd hh (by decide)) (fun _ => ?_)
      refine Aid.ite (fun _ => ?_) (fun hh => absurd rfl hh)
      refine Ev.step (fun k => by rw [gamehalllaw1_SymmMaps.j4]) ?_
      refine Aid.ite (fun hh => absurd hh (by decide)) (fun _ => ?_)
      rw [hwn]
      exact l0_on w h n hwh vw vh hn a2 (q : Int) q hq rfl X x17 x18 x19 x20 hK n 0 (by omega)
    by_cases hs : 0 ≤ a2 ∧ a2 < (nS w h : Int)
    · obtain ⟨s, rfl⟩ : ∃ s : Nat, a2 = (s : Int) := ⟨a2.toNat, by omega⟩
      have hs' : s < nS w h := by omega
      obtain ⟨m1, m2, m3, m4⟩ := mv w h vw vh s hs' q (by omega)
      obtain ⟨Y, e, hap, hY⟩ : ∃ (Y : List Int) (e : Int), Ev (fun k => symm_Apply.f k (w : Int) (h : Int) (s : Int) X) (Y, e) ∧ ((X.length = n ∧ Y = ap w h s X n 0 (List.replicate n 0) ∧ e = 0) ∨ (X.length ≠ n ∧ Y = [] ∧ e = 3)) := by
        by_cases hX : X.length = n
        · exact ⟨_, _, apply_ok w h n hwh vw vh hn X hX s hs', .inl ⟨hX, rfl, rfl⟩⟩
        · exact ⟨_, _, apply_form w h n hwh vw vh hn s hs' X hX, .inr ⟨hX, rfl, rfl⟩⟩
      refine Ev.bind (map_on w h n hwh vw vh hn s hs' q hq) ?_
      refine Ev.bind hap ?_
      refine Ev.bind (orbit_on w h n hwh vw vh hn q hq) ?_
      refine Ev.bind hall ?_
      refine Ev.bind (sym_ev w h vw vh) ?_
      refine Aid.ite (fun hh => absurd hh (by omega)) (fun _ => ?_)
      refine Aid.ite (fun _ => ?_) (fun hh => absurd rfl hh)
      simp only [hR, show (((nS w h : Nat) : Int) != ((nS w h : Nat) : Int)) = false by simp]
      refine rest _ _ _ _ ?_
      refine Ev.step (fun k => by rw [gamehalllaw1_SymmMaps.l0]) ?_
      refine Aid.ite (fun hh => absurd hh (by omega)) (fun _ => ?_)
      refine Aid.ite (fun _ => ?_) (fun hh => absurd rfl hh)
      refine bind_now (in_f _ _ _) ?_
      rw [w64 (n := ((nS w h : Nat) : Int) - 1) (by omega) (by omega), decide_eq_true (show (0 : Int) ≤ (s : Int) ∧ (s : Int) ≤ ((nS w h : Nat) : Int) - 1 by omega)]
      refine Aid.ite (fun _ => ?_) (fun hh => absurd rfl hh)
      refine Aid.ite (fun _ => ?_) (fun hh => absurd rfl hh)
      refine Aid.ite (fun _ => ?_) (fun hh => absurd rfl hh)
      refine Ev.bind (Ev.of (gamehallref1_Moved.mono _ _ _ _) m2) ?_
      simp only [show (((mvn w h s q : Nat) : Int) != ((mvn w h s q : Nat) : Int)) = false by simp]
      exact j9_ev w h n hwh vw vh hn X s hs' Y e hY
    · refine Ev.bind (map_bad w h n hwh vw vh hn a2 (q : Int) hs) ?_
      refine Ev.bind (apply_bad w h n hwh vw vh hn a2 X hs) ?_
      refine Ev.bind (orbit_on w h n hwh vw vh hn q hq) ?_
      refine Ev.bind hall ?_
      refine Ev.bind (sym_ev w h vw vh) ?_
      refine Aid.ite (fun hh => absurd hh (by omega)) (fun _ => ?_)
      refine Aid.ite (fun _ => ?_) (fun hh => absurd rfl hh)
      simp only [hR, show (((nS w h : Nat) : Int) != ((nS w h : Nat) : Int)) = false by simp]
      refine rest _ _ _ _ ?_
      refine Ev.step (fun k => by rw [gamehalllaw1_SymmMaps.l0]) ?_
      refine Aid.ite (fun hh => absurd hh (by omega)) (fun _ => ?_)
      refine Aid.ite (fun _ => ?_) (fun hh => absurd rfl hh)
      refine bind_now (in_f _ _ _) ?_
      rw [w64 (n := ((nS w h : Nat) : Int) - 1) (by omega) (by omega), decide_eq_false (show ¬ ((0 : Int) ≤ a2 ∧ a2 ≤ ((nS w h : Nat) : Int) - 1) by omega)]
      refine Aid.ite (fun hh => absurd hh (by decide)) (fun _ => ?_)
      refine Aid.ite (fun _ => ?_) (fun hh => absurd rfl hh)
      refine Aid.ite (fun _ => ?_) (fun hh => absurd rfl hh)
      refine Aid.ite (fun _ => ?_) (fun hh => absurd rfl hh)
      exact Ev.now _
  · have rest : ∀ (x17 x18 : Int) (x19 : List Int) (x20 : Int),
        (Ev (fun k => gamehalllaw1_SymmMaps.l0 k (w : Int) (h : Int) a2 a3 X x17 x18 x19 x20 [] ((nS w h : Nat) : Int) false 0 (n : Int) (n : Int)) true) →
        Ev (fun k => gamehalllaw1_SymmMaps.j3 k (w : Int) (h : Int) a2 a3 X x17 x18 x19 x20 [] 4 ((nS w h : Nat) : Int) false) true := fun x17 x18 x19 x20 hK => by
      refine Ev.step (fun k => by rw [gamehalllaw1_SymmMaps.j3]) ?_
      refine Aid.ite (fun hh => absurd hh (by decide)) (fun _ => ?_)
      refine bind_now (in_f _ _ _) ?_
      rw [hwn, w64 (n := (n : Int) - 1) (by omega) (by omega), decide_eq_false (show ¬ ((0 : Int) ≤ a3 ∧ a3 ≤ (n : Int) - 1) by omega)]
      refine Aid.ite (fun hh => absurd hh (by decide)) (fun _ => ?_)
      refine Aid.ite (fun hh => absurd hh (by decide)) (fun _ => ?_)
      rw [show ((4 : Int) != 4) = false from rfl]
      refine Ev.step (fun k => by rw [gamehalllaw1_SymmMaps.j4]) ?_
      refine Aid.ite (fun hh => absurd hh (by decide)) (fun _ => ?_)
      rw [hwn]
      exact l0_off w h n hwh vw vh hn a2 a3 X x17 x18 x19 x20 hK n 0 (by omega)
    by_cases hs : 0 ≤ a2 ∧ a2 < (nS w h : Int)
    · obtain ⟨s, rfl⟩ : ∃ s : Nat, a2 = (s : Int) := ⟨a2.toNat, by omega⟩
      have hs' : s < nS w h := by omega
      obtain ⟨Y, e, hap, hY⟩ : ∃ (Y : List Int) (e : Int), Ev (fun k => symm_Apply.f k (w : Int) (h : Int) (s : Int) X) (Y, e) ∧ ((X.length = n ∧ Y = ap w h s X n 0 (List.replicate n 0) ∧ e = 0) ∨ (X.length ≠ n ∧ Y = [] ∧ e = 3)) := by
        by_cases hX : X.length = n
        · exact ⟨_, _, apply_ok w h n hwh vw vh hn X hX s hs', .inl ⟨hX, rfl, rfl⟩⟩
        · exact ⟨_, _, apply_form w h n hwh vw vh hn s hs' X hX, .inr ⟨hX, rfl, rfl⟩⟩
      refine Ev.bind (map_off w h n hwh vw vh hn s hs' a3 hon) ?_
      refine Ev.bind hap ?_
      refine Ev.bind (orbit_off w h n hwh vw vh hn a3 hon) ?_
      refine Ev.bind hall ?_
      refine Ev.bind (sym_ev w h vw vh) ?_
      refine Aid.ite (fun hh => absurd hh (by omega)) (fun _ => ?_)
      refine Aid.ite (fun _ => ?_) (fun hh => absurd rfl hh)
      simp only [hR, show (((nS w h : Nat) : Int) != ((nS w h : Nat) : Int)) = false by simp]
      refine rest _ _ _ _ ?_
      refine Ev.step (fun k => by rw [gamehalllaw1_SymmMaps.l0]) ?_
      refine Aid.ite (fun hh => absurd hh (by omega)) (fun _ => ?_)
      refine Aid.ite (fun _ => ?_) (fun hh => absurd rfl hh)
      refine bind_now (in_f _ _ _) ?_
      rw [w64 (n := ((nS w h : Nat) : Int) - 1) (by omega) (by omega), decide_eq_true (show (0 : Int) ≤ (s : Int) ∧ (s : Int) ≤ ((nS w h : Nat) : Int) - 1 by omega)]
      refine Aid.ite (fun _ => ?_) (fun hh => absurd rfl hh)
      refine Aid.ite (fun hh => absurd hh (by decide)) (fun _ => ?_)
      refine Aid.ite (fun _ => ?_) (fun hh => absurd rfl hh)
      refine Aid.ite (fun _ => ?_) (fun hh => absurd rfl hh)
      exact j9_ev w h n hwh vw vh hn X s hs' Y e hY
    · refine Ev.bind (map_bad w h n hwh vw vh hn a2 a3 hs) ?_
      refine Ev.bind (apply_bad w h n hwh vw vh hn a2 X hs) ?_
      refine Ev.bind (orbit_off w h n hwh vw vh hn a3 hon) ?_
      refine Ev.bind hall ?_
      refine Ev.bind (sym_ev w h vw vh) ?_
      refine Aid.ite (fun hh => absurd hh (by omega)) (fun _ => ?_)
      refine Aid.ite (fun _ => ?_) (fun hh => absurd rfl hh)
      simp only [hR, show (((nS w h : Nat) : Int) != ((nS w h : Nat) : Int)) = false by simp]
      refine rest _ _ _ _ ?_
      refine Ev.step (fun k => by rw [gamehalllaw1_SymmMaps.l0]) ?_
      refine Aid.ite (fun hh => absurd hh (by omega)) (fun _ => ?_)
      refine Aid.ite (fun _ => ?_) (fun hh => absurd rfl hh)
      refine bind_now (in_f _ _ _) ?_
      rw [w64 (n := ((nS w h : Nat) : Int) - 1) (by omega) (by omega), decide_eq_false (show ¬ ((0 : Int) ≤ a2 ∧ a2 ≤ ((nS w h : Nat) : Int) - 1) by omega)]
      refine Aid.ite (fun hh => absurd hh (by decide)) (fun _ => ?_)
      refine Aid.ite (fun _ => ?_) (fun hh => absurd rfl hh)
      refine Aid.ite (fun _ => ?_) (fun hh => absurd rfl hh)
      refine Aid.ite (fun _ => ?_) (fun hh => absurd rfl hh)
      exact Ev.now _
theorem orb_32 : orb 3 2 0 = [0, 2, 3, 5] := by decide +kernel
theorem SymmMaps : gamehalllaw1_SymmMaps.Pure := by
  intro a0 a1 a2 a3 X h0 h1 h2 h3 hl
  refine Ev.rounds (g := fun k => gamehalllaw1_SymmMaps.f k a0 a1 a2 a3 X) ?_
  unfold gamehalllaw1_SymmMaps.f
  refine Ev.bind (a := ((2 : Int), (0 : Int))) (Ev.of (symm_Map.mono _ _ _ _) (k := 20) (by decide +kernel)) ?_
  refine Aid.ite (fun _ => ?_) (fun hh => absurd rfl hh)
  rw [show ((2 : Int) != 2) = false from rfl]
  refine Ev.step (fun k => by rw [gamehalllaw1_SymmMaps.j0]) ?_
  refine Aid.ite (fun hh => absurd hh (by decide)) (fun _ => ?_)
  refine Ev.bind (a := (([0, 2, 3, 5] : List Int), (0 : Int))) (by have := orbit_on 3 2 6 rfl (by decide) (by decide) (by decide) 0 (by decide); rw [orb_32] at this; exact this) ?_
  refine Aid.ite (fun _ => ?_) (fun hh => absurd rfl hh)
  refine Ev.bind (same_f [0, 2, 3, 5] (by decide)) ?_
  refine Ev.step (fun k => by rw [gamehalllaw1_SymmMaps.j1]) ?_
  refine Aid.ite (fun hh => absurd hh (by decide)) (fun _ => ?_)
  refine Ev.bind (a := (([6, 5] : List Int), (0 : Int))) (Ev.of (symm_Apply.mono _ _ _ _) (k := 20) (by decide +kernel)) ?_
  refine Aid.ite (fun _ => ?_) (fun hh => absurd rfl hh)
  refine Ev.bind (same_f [6, 5] (by decide)) ?_
  rw [show (!true) = false from rfl]
  by_cases hb : (1 ≤ a0 ∧ a0 ≤ 8) ∧ (1 ≤ a1 ∧ a1 ≤ 8)
  · obtain ⟨w, rfl⟩ : ∃ w : Nat, a0 = (w : Int) := ⟨a0.toNat, by omega⟩
    obtain ⟨h, rfl⟩ : ∃ h : Nat, a1 = (h : Int) := ⟨a1.toNat, by omega⟩
    exact sm_good w h (by omega) (by omega) a2 a3 X
  · exact sm_bad a0 a1 a2 a3 X hb
end Go.Proofs.Ytikijopbgjncbaa.Pure
