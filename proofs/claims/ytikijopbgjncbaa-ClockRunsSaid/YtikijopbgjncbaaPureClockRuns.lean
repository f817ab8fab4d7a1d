/- ClockRuns: for every input the law answers true. -/
import Derived.Test.YtikijopbgjncbaaPClockRunsx7
import Derived.Test.YtikijopbgjncbaaAid
namespace Go.Proofs.Ytikijopbgjncbaa.Pure
open Go.RowKit Go.Proofs.Ytikijopbgjncbaa.PClockRuns Go.Proofs.YtikijopbgjncbaaW.PrintWords Go.Proofs.YtikijopbgjncbaaW.PrintLast

set_option linter.unusedSimpArgs false
set_option linter.unusedVariables false
namespace Cs
open Aid
theorem rd91 (xs : List S54) (i : Nat) (h : i < xs.length) : rd_T54 xs (i : Int) = xs[i] := by simp [rd_T54, List.getD_eq_getElem?_getD, h]
/-- the periods, from one on -/
def perE (l : List S54) : Nat → Nat → Int
  | 0, _ => 0
  | d + 1, i => if (rd_T54 l (i : Int)).f0 < 0 ∨ (rd_T54 l (i : Int)).f0 > 400 ∨ (rd_T54 l (i : Int)).f1 < 1 ∨ (rd_T54 l (i : Int)).f1 > 100000000 then 4
      else if ((rd_T54 l (i : Int)).f0 = 0 ↔ d = 0) then perE l d (i + 1) else 3
theorem per_code (l : List S54) (hl : l.length ≤ 5) (a b : Int) : ∀ (d i : Nat), i + d = l.length → Ev (fun k => clock_Check.l0 k l (l.length : Int) (i : Int) l a b) (perE l d i) := by
  intro d
  induction d with
  | zero =>
    intro i hi
    refine Ev.step (fun k => by rw [clock_Check.l0]) ?_
    exact Aid.ite (fun h => absurd h (by omega)) (fun _ => Ev.now _)
  | succ d ih =>
    intro i hi
    have hw := Aside0.mk (show wrap64 ((i : Int) + 1) = ((i + 1 : Nat) : Int) from by rw [w64s (by omega) (by omega)]; omega)
    have hw2 := Aside0.mk (show wrap64 ((l.length : Int) - 1) = (l.length : Int) - 1 from w64 (by omega) (by omega))
    have e := ih (i + 1) (by omega)
    refine Ev.step (fun k => by rw [clock_Check.l0]) ?_
    rw [perE]
    generalize rd_T54 l (i : Int) = p
    refine Aid.ite (fun _ => ?_) (fun h => absurd (show (i : Int) < (l.length : Int) by omega) h)
    refine Aid.ite (fun _ => ?_) (fun h => absurd (show (0 : Int) ≤ (i : Int) by omega) h)
    refine Aid.ite (fun _ => ?_) (fun h => absurd (show (i : Int) < (l.length : Int) by omega) h)
    have main : ∀ c, c = decide (p.f0 < 0 ∨ p.f0 > 400 ∨ p.f1 < 1 ∨ p.f1 > 100000000) → Ev (fun k => clock_Check.j3 k (i : Int) l (l.length : Int) (i : Int) c l a b p.f0 p.f1) (if p.f0 < 0 ∨ p.f0 > 400 ∨ p.f1 < 1 ∨ p.f1 > 100000000 then 4 else if (p.f0 = 0 ↔ d = 0) then perE l d (i + 1) else 3) := by
      intro c hc
      refine Ev.step (fun k => by rw [clock_Check.j3]) ?_
      refine Aid.ite (fun h => ?_) (fun h => ?_)
      · rw [hc] at h; exact now (by rw [if_pos (of_decide_eq_true h)])
      · have h' : ¬ (p.f0 < 0 ∨ p.f0 > 400 ∨ p.f1 < 1 ∨ p.f1 > 100000000) := fun hh => h (by rw [hc]; exact decide_eq_true hh)
        rw [if_neg h', hw2.out, hw.out]
        by_cases hd : (p.f0 = 0 ↔ d = 0)
        · rw [if_pos hd]
          refine Aid.ite (fun hx => ?_) (fun _ => e)
          exfalso
          have : ((p.f0 == 0) = ((i : Int) == (l.length : Int) - 1)) := by
            rw [Bool.eq_iff_iff, beq_iff_eq, beq_iff_eq]; omega
          rw [this] at hx; simp at hx
        · rw [if_neg hd]
          refine Aid.ite (fun _ => Ev.now _) (fun hx => ?_)
          exfalso
          apply hx
          rw [bne_iff_ne]
          intro he
          rw [Bool.eq_iff_iff, beq_iff_eq, beq_iff_eq] at he
          exact hd (by omega)
    refine Aid.ite (fun h => main _ (decide_eq_true (by omega)).symm) (fun _ => Aid.ite (fun h => main _ (decide_eq_true (by omega)).symm) (fun _ => Aid.ite (fun h => main _ (decide_eq_true (by omega)).symm) (fun _ => main _ ?_)))
    congr 1; apply propext; constructor <;> intro <;> omega
theorem per_ref (l : List S54) (hl : l.length ≤ 5) : ∀ (d i : Nat), i + d = l.length → Ev (fun k => gamehallref3_Ruled.l0 k (l.length : Int) l (l.length : Int) (i : Int)) (perE l d i) := by
  intro d
  induction d with
  | zero =>
    intro i hi
    refine Ev.step (fun k => by rw [gamehallref3_Ruled.l0]) ?_
    exact Aid.ite (fun h => absurd h (by omega)) (fun _ => Ev.now _)
  | succ d ih =>
    intro i hi
    have hw := Aside0.mk (show wrap64 ((i : Int) + 1) = ((i + 1 : Nat) : Int) from by rw [w64s (by omega) (by omega)]; omega)
    have hw2 := Aside0.mk (show wrap64 ((l.length : Int) - 1) = (l.length : Int) - 1 from w64 (by omega) (by omega))
    have e := ih (i + 1) (by omega)
    refine Ev.step (fun k => by rw [gamehallref3_Ruled.l0]) ?_
    rw [perE]
    generalize rd_T54 l (i : Int) = p
    refine Aid.ite (fun _ => ?_) (fun h => absurd (show (i : Int) < (l.length : Int) by omega) h)
    refine Aid.ite (fun _ => ?_) (fun h => absurd (show (0 : Int) ≤ (i : Int) by omega) h)
    refine Aid.ite (fun _ => ?_) (fun h => absurd (show (i : Int) < (l.length : Int) by omega) h)
    have main : ∀ c, c = decide (p.f0 < 0 ∨ p.f0 > 400 ∨ p.f1 < 1 ∨ p.f1 > 100000000) → Ev (fun k => gamehallref3_Ruled.j3 k (l.length : Int) (i : Int) l (l.length : Int) (i : Int) c p.f0 p.f1) (if p.f0 < 0 ∨ p.f0 > 400 ∨ p.f1 < 1 ∨ p.f1 > 100000000 then 4 else if (p.f0 = 0 ↔ d = 0) then perE l d (i + 1) else 3) := by
      intro c hc
      refine Ev.step (fun k => by rw [gamehallref3_Ruled.j3]) ?_
      refine Aid.ite (fun h => ?_) (fun h => ?_)
      · rw [hc] at h; exact now (by rw [if_pos (of_decide_eq_true h)])
      · have h' : ¬ (p.f0 < 0 ∨ p.f0 > 400 ∨ p.f1 < 1 ∨ p.f1 > 100000000) := fun hh => h (by rw [hc]; exact decide_eq_true hh)
        rw [if_neg h', hw2.out, hw.out]
        refine Aid.ite (fun h1 => ?_) (fun h1 => ?_)
        · refine Aid.ite (fun h2 => now (by rw [if_neg (by omega)])) (fun h2 => ?_)
          refine Aid.ite (fun h3 => absurd h3 (by omega)) (fun h3 => ?_)
          rw [if_pos (by omega)]; exact e
        · refine Aid.ite (fun h2 => ?_) (fun h2 => absurd (show (i : Int) = (l.length : Int) - 1 by omega) h2)
          refine Aid.ite (fun h3 => ?_) (fun h3 => now (by rw [if_neg (by omega)]))
          rw [if_pos (by omega)]; exact e
    refine Aid.ite (fun h => main _ (decide_eq_true (by omega)).symm) (fun _ => Aid.ite (fun h => main _ (decide_eq_true (by omega)).symm) (fun _ => Aid.ite (fun h => main _ (decide_eq_true (by omega)).symm) (fun _ => main _ ?_)))
    congr 1; apply propext; constructor <;> intro <;> omega
/-- a rule -/
def checkE (l : List S54) (a b : Int) : Int :=
  if ¬ (1 ≤ (l.length : Int) ∧ (l.length : Int) ≤ 5) then 2
  else if ¬ (0 ≤ a ∧ a ≤ 100000000 ∧ 0 ≤ b ∧ b ≤ 100000000) then 4 else perE l l.length 0
theorem check_code (l : List S54) (a b : Int) : Ev (fun k => clock_Check.f k l a b) (checkE l a b) := by
  unfold clock_Check.f
  have main : ∀ c, c = decide (¬ (1 ≤ (l.length : Int) ∧ (l.length : Int) ≤ 5)) → Ev (fun k => clock_Check.j0 k c l a b) (checkE l a b) := by
    intro c hc
    unfold checkE
    refine Ev.step (fun k => by rw [clock_Check.j0]) ?_
    refine Aid.ite (fun h => ?_) (fun h => ?_)
    · rw [hc] at h; exact now (by rw [if_pos (of_decide_eq_true h)])
    · have h' : ¬ ¬ (1 ≤ (l.length : Int) ∧ (l.length : Int) ≤ 5) := fun hh => h (by rw [hc]; exact decide_eq_true hh)
      rw [if_neg h']
      have main2 : ∀ c, c = decide (¬ (0 ≤ a ∧ a ≤ 100000000 ∧ 0 ≤ b ∧ b ≤ 100000000)) → Ev (fun k => clock_Check.j1 k c l a b) (if ¬ (0 ≤ a ∧ a ≤ 100000000 ∧ 0 ≤ b ∧ b ≤ 100000000) then 4 else perE l l.length 0) := by
        intro c hc
        refine Ev.step (fun k => by rw [clock_Check.j1]) ?_
        refine Aid.ite (fun h => ?_) (fun h => ?_)
        · rw [hc] at h; exact now (by rw [if_pos (of_decide_eq_true h)])
        · have h2 : ¬ ¬ (0 ≤ a ∧ a ≤ 100000000 ∧ 0 ≤ b ∧ b ≤ 100000000) := fun hh => h (by rw [hc]; exact decide_eq_true hh)
          rw [if_neg h2]
          exact per_code l (by omega) a b l.length 0 (by omega)
      unfold mn mx
      by_cases hab : a < b
      · rw [if_neg (show ¬ b < a by omega), if_pos hab]
        refine Aid.ite (fun h => main2 _ (decide_eq_true (by omega)).symm) (fun h => main2 _ ?_)
        congr 1; apply propext; constructor <;> intro <;> omega
      · rw [if_neg hab]
        by_cases hba : b < a
        · rw [if_pos hba]
          refine Aid.ite (fun h => main2 _ (decide_eq_true (by omega)).symm) (fun h => main2 _ ?_)
          congr 1; apply propext; constructor <;> intro <;> omega
        · rw [if_neg hba]
          refine Aid.ite (fun h => main2 _ (decide_eq_true (by omega)).symm) (fun h => main2 _ ?_)
          congr 1; apply propext; constructor <;> intro <;> omega
  refine Aid.ite (fun h => main _ (decide_eq_true (by omega)).symm) (fun h => main _ ?_)
  congr 1; apply propext; constructor <;> intro <;> omega
theorem check_ref (l : List S54) (a b : Int) : Ev (fun k => gamehallref3_Ruled.f k l a b) (checkE l a b) := by
  unfold gamehallref3_Ruled.f
  have main : ∀ c, c = decide (¬ (1 ≤ (l.length : Int) ∧ (l.length : Int) ≤ 5)) → Ev (fun k => gamehallref3_Ruled.j0 k (l.length : Int) c l a b) (checkE l a b) := by
    intro c hc
    unfold checkE
    refine Ev.step (fun k => by rw [gamehallref3_Ruled.j0]) ?_
    refine Aid.ite (fun h => ?_) (fun h => ?_)
    · rw [hc] at h; exact now (by rw [if_pos (of_decide_eq_true h)])
    · have h' : ¬ ¬ (1 ≤ (l.length : Int) ∧ (l.length : Int) ≤ 5) := fun hh => h (by rw [hc]; exact decide_eq_true hh)
      rw [if_neg h']
      have main2 : ∀ c, c = decide (¬ (0 ≤ a ∧ a ≤ 100000000 ∧ 0 ≤ b ∧ b ≤ 100000000)) → Ev (fun k => gamehallref3_Ruled.j1 k (l.length : Int) c l a b) (if ¬ (0 ≤ a ∧ a ≤ 100000000 ∧ 0 ≤ b ∧ b ≤ 100000000) then 4 else perE l l.length 0) := by
        intro c hc
        refine Ev.step (fun k => by rw [gamehallref3_Ruled.j1]) ?_
        refine Aid.ite (fun h => ?_) (fun h => ?_)
        · rw [hc] at h; exact now (by rw [if_pos (of_decide_eq_true h)])
        · have h2 : ¬ ¬ (0 ≤ a ∧ a ≤ 100000000 ∧ 0 ≤ b ∧ b ≤ 100000000) := fun hh => h (by rw [hc]; exact decide_eq_true hh)
          rw [if_neg h2]
          exact per_ref l (by omega) l.length 0 (by omega)
      refine Aid.ite (fun h => main2 _ (decide_eq_true (by omega)).symm) (fun _ => Aid.ite (fun h => main2 _ (decide_eq_true (by omega)).symm) (fun _ => Aid.ite (fun h => main2 _ (decide_eq_true (by omega)).symm) (fun _ => main2 _ ?_)))
      congr 1; apply propext; constructor <;> intro <;> omega
  refine Aid.ite (fun h => main _ (decide_eq_true (by omega)).symm) (fun h => main _ ?_)
  congr 1; apply propext; constructor <;> intro <;> omega
/-- the numbers of a clock -/
def okc (n : Int) (L0 L1 M0 M1 P0 P1 T S F : Int) : Prop :=
  (0 ≤ T ∧ T ≤ 1) ∧ (-1 ≤ F ∧ F ≤ 1) ∧ (0 ≤ S ∧ S ≤ 100000000) ∧ ((0 ≤ P0 ∧ P0 < n) ∧ (0 ≤ M0 ∧ M0 ≤ 400) ∧ (0 ≤ L0 ∧ L0 ≤ 100000000000)) ∧ ((0 ≤ P1 ∧ P1 < n) ∧ (0 ≤ M1 ∧ M1 ≤ 400) ∧ (0 ≤ L1 ∧ L1 ≤ 100000000000))
instance (n L0 L1 M0 M1 P0 P1 T S F : Int) : Decidable (okc n L0 L1 M0 M1 P0 P1 T S F) := by unfold okc; infer_instance
section
variable (l : List S54) (a b L0 L1 M0 M1 P0 P1 T S : Int) (Z : Bool) (F : Int)
def validE : Int := if checkE l a b = 0 then (if okc (l.length : Int) L0 L1 M0 M1 P0 P1 T S F then 0 else 4) else checkE l a b
theorem valid_code : Ev (fun k => clock_Valid.f k l a b L0 L1 M0 M1 P0 P1 T S Z F) (validE l a b L0 L1 M0 M1 P0 P1 T S F) := by
  unfold clock_Valid.f validE
  refine Ev.bind (check_code l a b) ?_
  refine Aid.ite (fun h => ?_) (fun h => now (by rw [if_neg h]))
  rw [if_pos h]
  have main : ∀ c, c = decide (¬ ((0 ≤ T ∧ T ≤ 1) ∧ (-1 ≤ F ∧ F ≤ 1) ∧ (0 ≤ S ∧ S ≤ 100000000))) → Ev (fun k => clock_Valid.j0 k c l a b L0 L1 M0 M1 P0 P1 T S Z F) (if okc (l.length : Int) L0 L1 M0 M1 P0 P1 T S F then 0 else 4) := by
    intro c hc
    refine Ev.step (fun k => by rw [clock_Valid.j0]) ?_
    refine Aid.ite (fun h => ?_) (fun h => ?_)
    · rw [hc] at h
      have h := of_decide_eq_true h
      exact now (by rw [if_neg (fun q => by unfold okc at q; omega)])
    · have h' : ¬ ¬ ((0 ≤ T ∧ T ≤ 1) ∧ (-1 ≤ F ∧ F ≤ 1) ∧ (0 ≤ S ∧ S ≤ 100000000)) := fun hh => h (by rw [hc]; exact decide_eq_true hh)
      clear h hc
      refine Ev.step (fun k => by rw [clock_Valid.l0]) ?_
      refine Aid.ite (fun _ => ?_) (fun h => absurd (show (0 : Int) < 2 by decide) h)
      refine Aid.ite (fun _ => ?_) (fun h => absurd (show (0 : Int) ≤ 0 by decide) h)
      refine Aid.ite (fun _ => ?_) (fun h => absurd rfl h)
      refine Aid.ite (fun _ => now (by rw [if_neg (fun q => by unfold okc at q; omega)])) (fun h1 => ?_)
      refine Aid.ite (fun _ => now (by rw [if_neg (fun q => by unfold okc at q; omega)])) (fun h2 => ?_)
      refine Aid.ite (fun _ => now (by rw [if_neg (fun q => by unfold okc at q; omega)])) (fun h3 => ?_)
      refine Aid.ite (fun _ => now (by rw [if_neg (fun q => by unfold okc at q; omega)])) (fun h4 => ?_)
      refine Aid.ite (fun _ => now (by rw [if_neg (fun q => by unfold okc at q; omega)])) (fun h5 => ?_)
      refine Aid.ite (fun _ => now (by rw [if_neg (fun q => by unfold okc at q; omega)])) (fun h6 => ?_)
      rw [show wrap64 (0 + 1) = 1 from w64 (by decide) (by decide)]
      refine Ev.step (fun k => by rw [clock_Valid.l0]) ?_
      refine Aid.ite (fun _ => ?_) (fun h => absurd (show (1 : Int) < 2 by decide) h)
      refine Aid.ite (fun _ => ?_) (fun h => absurd (show (0 : Int) ≤ 1 by decide) h)
      refine Aid.ite (fun h => absurd h (by decide)) (fun _ => ?_)
      refine Aid.ite (fun _ => now (by rw [if_neg (fun q => by unfold okc at q; omega)])) (fun g1 => ?_)
      refine Aid.ite (fun _ => now (by rw [if_neg (fun q => by unfold okc at q; omega)])) (fun g2 => ?_)
      refine Aid.ite (fun _ => now (by rw [if_neg (fun q => by unfold okc at q; omega)])) (fun g3 => ?_)
      refine Aid.ite (fun _ => now (by rw [if_neg (fun q => by unfold okc at q; omega)])) (fun g4 => ?_)
      refine Aid.ite (fun _ => now (by rw [if_neg (fun q => by unfold okc at q; omega)])) (fun g5 => ?_)
      refine Aid.ite (fun _ => now (by rw [if_neg (fun q => by unfold okc at q; omega)])) (fun g6 => ?_)
      rw [show wrap64 (1 + 1) = 2 from w64 (by decide) (by decide)]
      refine Ev.step (fun k => by rw [clock_Valid.l0]) ?_
      exact Aid.ite (fun h => absurd h (by decide)) (fun _ => now (by rw [if_pos (by unfold okc; omega)]))
  refine Aid.ite (fun h => main _ (decide_eq_true (by omega)).symm) (fun _ => Aid.ite (fun h => main _ (decide_eq_true (by omega)).symm) (fun _ => Aid.ite (fun h => main _ (decide_eq_true (by omega)).symm) (fun _ => Aid.ite (fun h => main _ (decide_eq_true (by omega)).symm) (fun _ => Aid.ite (fun h => main _ (decide_eq_true (by omega)).symm) (fun _ => main _ ?_)))))
  congr 1; apply propext; constructor <;> intro <;> omega
/-- what a player has used -/
def usedE (now : Int) : Int := if Z = true then 0 else if now - S ≤ b then 0 else now - S - b
theorem used_f (now : Int) (hb : 0 ≤ b ∧ b ≤ 100000000) (hS : 0 ≤ S ∧ S ≤ 100000000) (hn : S ≤ now ∧ now ≤ 100000000) (L0 L1 M0 M1 P0 P1 T F : Int) : clock_used.f l a b L0 L1 M0 M1 P0 P1 T S Z F now = some (usedE b S Z now) := by
  unfold clock_used.f usedE
  split
  · rfl
  · rw [w64 (n := now - S) (by omega) (by omega), w64 (n := now - S - b) (by omega) (by omega)]
    unfold mx
    congr 1
    repeat' split
    all_goals omega
theorem look_bad (now : Int) (v : Int) (hv : validE l a b L0 L1 M0 M1 P0 P1 T S F = v) (h : v ≠ 0) : Ev (fun k => clock_Look.f k l a b L0 L1 M0 M1 P0 P1 T S Z F now) (0, 0, 0, 0, 0, 0, 0, 0, false, 0, v) := by
  unfold clock_Look.f
  refine Ev.bind (ev_eq (valid_code l a b L0 L1 M0 M1 P0 P1 T S Z F) hv) ?_
  exact Aid.ite (fun hh => absurd hh h) (fun _ => Ev.now _)
theorem look_time (now : Int) (hv : validE l a b L0 L1 M0 M1 P0 P1 T S F = 0) (h : now < S ∨ now > 100000000) : Ev (fun k => clock_Look.f k l a b L0 L1 M0 M1 P0 P1 T S Z F now) (0, 0, 0, 0, 0, 0, 0, 0, false, 0, 11) := by
  have jt : Ev (fun k => clock_Look.j0 k now true l a b L0 L1 M0 M1 P0 P1 T S Z F) (0, 0, 0, 0, 0, 0, 0, 0, false, 0, 11) := Ev.step (fun k => by rw [clock_Look.j0]) (Aid.ite (fun _ => Ev.now _) (fun hh => absurd rfl hh))
  unfold clock_Look.f
  refine Ev.bind (ev_eq (valid_code l a b L0 L1 M0 M1 P0 P1 T S Z F) hv) ?_
  refine Aid.ite (fun _ => ?_) (fun hh => absurd rfl hh)
  refine Aid.ite (fun _ => jt) (fun hh => ?_)
  rw [decide_eq_true (show now > 100000000 by omega)]
  exact jt
theorem valid0 (hv : validE l a b L0 L1 M0 M1 P0 P1 T S F = 0) : checkE l a b = 0 ∧ (0 ≤ b ∧ b ≤ 100000000) ∧ okc (l.length : Int) L0 L1 M0 M1 P0 P1 T S F := by
  unfold validE at hv
  by_cases hc : checkE l a b = 0
  · rw [if_pos hc] at hv
    refine ⟨hc, ?_, ?_⟩
    · unfold checkE at hc
      split at hc
      · exact absurd hc (by decide)
      split at hc
      · exact absurd hc (by decide)
      · omega
    · by_cases ho : okc (l.length : Int) L0 L1 M0 M1 P0 P1 T S F
      · exact ho
      · rw [if_neg ho] at hv; exact absurd hv (by decide)
  · rw [if_neg hc] at hv; exact absurd hv hc
theorem validE_of (hc : checkE l a b = 0) (ho : okc (l.length : Int) L0 L1 M0 M1 P0 P1 T S F) : validE l a b L0 L1 M0 M1 P0 P1 T S F = 0 := by
  unfold validE; rw [if_pos hc, if_pos ho]
/-- a clock that is looked at in time, and whose flag does not fall -/
theorem look_stays (now : Int) (hv : validE l a b L0 L1 M0 M1 P0 P1 T S F = 0) (h : S ≤ now ∧ now ≤ 100000000) (hf : 0 ≤ F ∨ (T = 0 ∧ usedE b S Z now ≤ L0) ∨ (T = 1 ∧ usedE b S Z now ≤ L1)) :
    Ev (fun k => clock_Look.f k l a b L0 L1 M0 M1 P0 P1 T S Z F now) (L0, L1, M0, M1, P0, P1, T, S, Z, F, 0) := by
  obtain ⟨h1, h2, h3⟩ := valid0 l a b L0 L1 M0 M1 P0 P1 T S F hv
  unfold okc at h3
  have hu := used_f l a b S Z now h2 h3.2.2.1 h L0 L1 M0 M1 P0 P1 T F
  generalize usedE b S Z now = u at hf hu
  unfold clock_Look.f
  refine Ev.bind (ev_eq (valid_code l a b L0 L1 M0 M1 P0 P1 T S Z F) hv) ?_
  refine Aid.ite (fun _ => ?_) (fun hh => absurd rfl hh)
  refine Aid.ite (fun hh => absurd hh (by omega)) (fun _ => ?_)
  rw [decide_eq_false (show ¬ now > 100000000 by omega)]
  refine Ev.step (fun k => by rw [clock_Look.j0]) ?_
  refine Aid.ite (fun hh => absurd hh (by decide)) (fun _ => ?_)
  refine Aid.ite (fun hF => ?_) (fun _ => Ev.now _)
  refine bind_now hu ?_
  refine Aid.ite (fun _ => ?_) (fun hh => absurd (show 0 ≤ T by omega) hh)
  refine Aid.ite (fun _ => ?_) (fun hh => absurd (show T < 2 by omega) hh)
  refine Aid.ite (fun hT => ?_) (fun hT => ?_)
  · exact Aid.ite (fun hh => absurd hh (by omega)) (fun _ => Ev.now _)
  · exact Aid.ite (fun hh => absurd hh (by omega)) (fun _ => Ev.now _)
theorem look_falls0 (now : Int) (hv : validE l a b L0 L1 M0 M1 P0 P1 T S F = 0) (h : S ≤ now ∧ now ≤ 100000000) (hF : F < 0) (hT : T = 0) (hlt : L0 < usedE b S Z now) :
    Ev (fun k => clock_Look.f k l a b L0 L1 M0 M1 P0 P1 T S Z F now) (0, L1, M0, M1, P0, P1, T, S, Z, T, 0) := by
  obtain ⟨h1, h2, h3⟩ := valid0 l a b L0 L1 M0 M1 P0 P1 T S F hv
  unfold okc at h3
  have hu := used_f l a b S Z now h2 h3.2.2.1 h L0 L1 M0 M1 P0 P1 T F
  generalize usedE b S Z now = u at hlt hu
  unfold clock_Look.f
  refine Ev.bind (ev_eq (valid_code l a b L0 L1 M0 M1 P0 P1 T S Z F) hv) ?_
  refine Aid.ite (fun _ => ?_) (fun hh => absurd rfl hh)
  refine Aid.ite (fun hh => absurd hh (by omega)) (fun _ => ?_)
  rw [decide_eq_false (show ¬ now > 100000000 by omega)]
  refine Ev.step (fun k => by rw [clock_Look.j0]) ?_
  refine Aid.ite (fun hh => absurd hh (by first | decide | (dsimp only; first | omega | decide))) (fun _ => ?_)
  refine Aid.ite (fun _ => ?_) (fun hh => absurd hF hh)
  refine bind_now hu ?_
  refine Aid.ite (fun _ => ?_) (fun hh => absurd (show 0 ≤ T by omega) hh)
  refine Aid.ite (fun _ => ?_) (fun hh => absurd (show T < 2 by omega) hh)
  refine Aid.ite (fun _ => ?_) (fun hh => absurd hT hh)
  exact Aid.ite (fun _ => Ev.now _) (fun hh => absurd hlt hh)
theorem look_falls1 (now : Int) (hv : validE l a b L0 L1 M0 M1 P0 P1 T S F = 0) (h : S ≤ now ∧ now ≤ 100000000) (hF : F < 0) (hT : T = 1) (hlt : L1 < usedE b S Z now) :
    Ev (fun k => clock_Look.f k l a b L0 L1 M0 M1 P0 P1 T S Z F now) (L0, 0, M0, M1, P0, P1, T, S, Z, T, 0) := by
  obtain ⟨h1, h2, h3⟩ := valid0 l a b L0 L1 M0 M1 P0 P1 T S F hv
  unfold okc at h3
  have hu := used_f l a b S Z now h2 h3.2.2.1 h L0 L1 M0 M1 P0 P1 T F
  generalize usedE b S Z now = u at hlt hu
  unfold clock_Look.f
  refine Ev.bind (ev_eq (valid_code l a b L0 L1 M0 M1 P0 P1 T S Z F) hv) ?_
  refine Aid.ite (fun _ => ?_) (fun hh => absurd rfl hh)
  refine Aid.ite (fun hh => absurd hh (by omega)) (fun _ => ?_)
  rw [decide_eq_false (show ¬ now > 100000000 by omega)]
  refine Ev.step (fun k => by rw [clock_Look.j0]) ?_
  refine Aid.ite (fun hh => absurd hh (by first | decide | (dsimp only; first | omega | decide))) (fun _ => ?_)
  refine Aid.ite (fun _ => ?_) (fun hh => absurd hF hh)
  refine bind_now hu ?_
  refine Aid.ite (fun _ => ?_) (fun hh => absurd (show 0 ≤ T by omega) hh)
  refine Aid.ite (fun _ => ?_) (fun hh => absurd (show T < 2 by omega) hh)
  refine Aid.ite (fun hh => absurd hh (by omega)) (fun _ => ?_)
  exact Aid.ite (fun _ => Ev.now _) (fun hh => absurd hlt hh)
end
set_option linter.unusedSectionVars false
/-- what a good rule says -/
def Ok (l : List S54) (a b : Int) : Prop := (0 ≤ a ∧ a ≤ 100000000) ∧ (0 ≤ b ∧ b ≤ 100000000) ∧ (1 ≤ (l.length : Int) ∧ (l.length : Int) ≤ 5) ∧
  ∀ p : Int, 0 ≤ p → p < (l.length : Int) → (0 ≤ (rd_T54 l p).f0 ∧ (rd_T54 l p).f0 ≤ 400) ∧ (1 ≤ (rd_T54 l p).f1 ∧ (rd_T54 l p).f1 ≤ 100000000) ∧ ((rd_T54 l p).f0 = 0 ↔ p + 1 = (l.length : Int))
theorem per_ok (l : List S54) : ∀ (d i : Nat), i + d = l.length → perE l d i = 0 → ∀ j : Nat, i ≤ j → j < l.length → (0 ≤ (rd_T54 l (j : Int)).f0 ∧ (rd_T54 l (j : Int)).f0 ≤ 400) ∧ (1 ≤ (rd_T54 l (j : Int)).f1 ∧ (rd_T54 l (j : Int)).f1 ≤ 100000000) ∧ ((rd_T54 l (j : Int)).f0 = 0 ↔ j + 1 = l.length) := by
  intro d
  induction d with
  | zero => intro i hi h j h1 h2; omega
  | succ d ih =>
    intro i hi h j h1 h2
    rw [perE] at h
    split at h
    · exact absurd h (by first | decide | (dsimp only; first | omega | decide))
    · rename_i hc
      split at h
      · rename_i hz
        by_cases e : j = i
        · subst e
          refine ⟨by omega, by omega, ?_⟩
          rw [hz]; omega
        · exact ih (i + 1) (by omega) h j (by omega) h2
      · exact absurd h (by first | decide | (dsimp only; first | omega | decide))
theorem ok_of (l : List S54) (a b : Int) (h : checkE l a b = 0) : Ok l a b := by
  unfold checkE at h
  split at h
  · exact absurd h (by first | decide | (dsimp only; first | omega | decide))
  · rename_i h1
    split at h
    · exact absurd h (by first | decide | (dsimp only; first | omega | decide))
    · rename_i h2
      refine ⟨by omega, by omega, by omega, fun p hp0 hp1 => ?_⟩
      obtain ⟨j, rfl⟩ : ∃ j : Nat, p = (j : Int) := ⟨p.toNat, by omega⟩
      obtain ⟨g1, g2, g3⟩ := per_ok l l.length 0 (by omega) h j (by omega) (by omega)
      refine ⟨g1, g2, ?_⟩
      rw [g3]; omega
/-- what a player has got by so many moves; the period; the moves in it -/
def bud (l : List S54) (a : Int) : Nat → Int × Int × Int
  | 0 => ((rd_T54 l 0).f1, 0, 0)
  | n + 1 => if (rd_T54 l (bud l a n).2.1).f0 ≠ 0 ∧ (bud l a n).2.2 + 1 = (rd_T54 l (bud l a n).2.1).f0 then ((bud l a n).1 + a + (rd_T54 l ((bud l a n).2.1 + 1)).f1, (bud l a n).2.1 + 1, 0) else ((bud l a n).1 + a, (bud l a n).2.1, (bud l a n).2.2 + 1)
theorem bud_ok (l : List S54) (a b : Int) (hO : Ok l a b) : ∀ n : Nat, (0 ≤ (bud l a n).2.1 ∧ (bud l a n).2.1 < (l.length : Int)) ∧ (0 ≤ (bud l a n).2.2 ∧ (bud l a n).2.2 ≤ (n : Int)) ∧ ((rd_T54 l (bud l a n).2.1).f0 ≠ 0 → (bud l a n).2.2 < (rd_T54 l (bud l a n).2.1).f0) ∧ (1 ≤ (bud l a n).1 ∧ (bud l a n).1 ≤ 100000000 + 200000000 * (n : Int)) := by
  obtain ⟨ha, hb, hl, hp⟩ := hO
  intro n
  induction n with
  | zero =>
    obtain ⟨g1, g2, g3⟩ := hp 0 (by omega) (by omega)
    simp only [bud]
    exact ⟨by omega, by omega, fun h => by omega, by omega⟩
  | succ n ih =>
    obtain ⟨i1, i2, i3, i4⟩ := ih
    obtain ⟨g1, g2, g3⟩ := hp (bud l a n).2.1 i1.1 i1.2
    rw [bud]
    generalize bud l a n = q at *
    obtain ⟨s, p, m⟩ := q
    simp only at *
    split
    · rename_i hc
      obtain ⟨k1, k2, k3⟩ := hp (p + 1) (by omega) (by omega)
      simp only
      exact ⟨by omega, by omega, fun h => by omega, by omega⟩
    · rename_i hc
      simp only
      exact ⟨by omega, by omega, fun h => by omega, by omega⟩
theorem budget_l0 (l : List S54) (a b : Int) (hO : Ok l a b) (n : Nat) (hn : n ≤ 100) : ∀ (d m : Nat), m + d = n → Ev (fun k => gamehallref3_Budget.l0 k (bud l a m).1 (bud l a m).2.1 (bud l a m).2.2 (n : Int) (m : Int) l a b) (bud l a n) := by
  have hO' := hO
  obtain ⟨ha, hb, hl, hp⟩ := hO
  intro d
  induction d with
  | zero =>
    intro m hm
    obtain rfl : m = n := by omega
    refine Ev.step (fun k => by rw [gamehallref3_Budget.l0]) ?_
    exact Aid.ite (fun hh => absurd hh (by omega)) (fun _ => Ev.now _)
  | succ d ih =>
    intro m hm
    have hw := Aside0.mk (show wrap64 ((m : Int) + 1) = ((m + 1 : Nat) : Int) from by rw [w64s (by omega) (by omega)]; omega)
    have hI := ih (m + 1) (by omega)
    have hk := bud_ok l a b hO' m
    rw [show bud l a (m + 1) = if (rd_T54 l (bud l a m).2.1).f0 ≠ 0 ∧ (bud l a m).2.2 + 1 = (rd_T54 l (bud l a m).2.1).f0 then ((bud l a m).1 + a + (rd_T54 l ((bud l a m).2.1 + 1)).f1, (bud l a m).2.1 + 1, 0) else ((bud l a m).1 + a, (bud l a m).2.1, (bud l a m).2.2 + 1) from rfl] at hI
    refine Ev.step (fun k => by rw [gamehallref3_Budget.l0]) ?_
    rw [hw.out]
    generalize bud l a n = R at *
    generalize bud l a m = q at *
    obtain ⟨s, p, i⟩ := q
    simp only at *
    obtain ⟨i1, i2, i3, i4⟩ := hk
    obtain ⟨g1, g2, g3⟩ := hp p i1.1 i1.2
    rw [w64 (n := s + a) (by omega) (by omega), w64 (n := i + 1) (by omega) (by omega), w64 (n := p + 1) (by omega) (by omega)]
    refine Aid.ite (fun _ => ?_) (fun hh => absurd (show (m : Int) < (n : Int) by omega) hh)
    refine Aid.ite (fun _ => ?_) (fun hh => absurd i1.1 hh)
    refine Aid.ite (fun _ => ?_) (fun hh => absurd i1.2 hh)
    refine Aid.ite (fun hz => ?_) (fun hz => ?_)
    · rw [if_neg (by omega)] at hI; exact hI
    · refine Aid.ite (fun he => ?_) (fun he => ?_)
      · rw [if_pos ⟨hz, he⟩] at hI
        obtain ⟨k1, k2, k3⟩ := hp (p + 1) (by omega) (by omega)
        rw [w64 (n := s + a + (rd_T54 l (p + 1)).f1) (by omega) (by omega)]
        refine Aid.ite (fun _ => ?_) (fun hh => absurd (show 0 ≤ p + 1 by omega) hh)
        exact Aid.ite (fun _ => hI) (fun hh => absurd (show p + 1 < (l.length : Int) by omega) hh)
      · rw [if_neg (fun h => he h.2)] at hI; exact hI
theorem budget_f (l : List S54) (a b : Int) (hO : Ok l a b) (n : Nat) (hn : n ≤ 100) : Ev (fun k => gamehallref3_Budget.f k l a b (n : Int)) (bud l a n) := by
  unfold gamehallref3_Budget.f
  refine Aid.ite (fun _ => ?_) (fun hh => absurd (show 0 < (l.length : Int) by have := hO.2.2.1; omega) hh)
  exact budget_l0 l a b hO n hn n 0 (by omega)
theorem spent_f (l : List S54) (a b t : Int) (hb : 0 ≤ b ∧ b ≤ 100000000) (ht : 0 ≤ t ∧ t ≤ 100000000) (S : Int) (hS : 0 ≤ S ∧ S ≤ 100000000) : gamehallref3_Spent.f l a b t = some (usedE b S false (S + t)) := by
  unfold gamehallref3_Spent.f usedE
  simp only [Bool.false_eq_true, if_false]
  by_cases h : t ≤ b
  · rw [if_pos h, if_pos (by omega)]
  · rw [if_neg h, if_neg (by omega), w64 (by omega) (by omega)]; congr 1; omega
theorem used_bounds (b S t : Int) (hb : 0 ≤ b ∧ b ≤ 100000000) (ht : 0 ≤ t ∧ t ≤ 100000000) : 0 ≤ usedE b S false (S + t) ∧ usedE b S false (S + t) ≤ 100000000 := by
  unfold usedE
  simp only [Bool.false_eq_true, if_false]
  split <;> omega
theorem start_f (l : List S54) (a b x : Int) (hc : checkE l a b = 0) (hx : 0 ≤ x ∧ x ≤ 100000000) : Ev (fun k => clock_Start.f k l a b x) ((rd_T54 l 0).f1, (rd_T54 l 0).f1, 0, 0, 0, 0, 0, x, false, -1, 0) := by
  have hO := ok_of l a b hc
  unfold clock_Start.f
  refine Ev.bind (ev_eq (check_code l a b) hc) ?_
  refine Aid.ite (fun _ => ?_) (fun hh => absurd rfl hh)
  refine Aid.ite (fun hh => absurd hh (by omega)) (fun _ => ?_)
  refine Aid.ite (fun hh => absurd hh (by omega)) (fun _ => ?_)
  exact Aid.ite (fun _ => Ev.now _) (fun hh => absurd (show 0 < (l.length : Int) by have := hO.2.2.1; omega) hh)
theorem start_time (l : List S54) (a b x : Int) (hc : checkE l a b = 0) (hx : ¬ (0 ≤ x ∧ x ≤ 100000000)) : Ev (fun k => clock_Start.f k l a b x) (0, 0, 0, 0, 0, 0, 0, 0, false, 0, 11) := by
  unfold clock_Start.f
  refine Ev.bind (ev_eq (check_code l a b) hc) ?_
  refine Aid.ite (fun _ => ?_) (fun hh => absurd rfl hh)
  refine Aid.ite (fun _ => Ev.now _) (fun h0 => ?_)
  exact Aid.ite (fun _ => Ev.now _) (fun hh => absurd (show x > 100000000 by omega) hh)
theorem start_bad (l : List S54) (a b x v : Int) (hc : checkE l a b = v) (hv : v ≠ 0) : Ev (fun k => clock_Start.f k l a b x) (0, 0, 0, 0, 0, 0, 0, 0, false, 0, v) := by
  unfold clock_Start.f
  refine Ev.bind (ev_eq (check_code l a b) hc) ?_
  exact Aid.ite (fun hh => absurd hh hv) (fun _ => Ev.now _)
section
variable (l : List S54) (a b : Int) (hO : Ok l a b) (hc : checkE l a b = 0)
include hO hc
/-- press and left, where the time is over -/
theorem press_time (L0 L1 M0 M1 P0 P1 T S F now : Int) (Z : Bool) (hv : validE l a b L0 L1 M0 M1 P0 P1 T S F = 0) (h : now > 100000000) : Ev (fun k => clock_Press.f k l a b L0 L1 M0 M1 P0 P1 T S Z F now) (0, 0, 0, 0, 0, 0, 0, 0, false, 0, 11) := by
  unfold clock_Press.f
  refine Ev.bind (look_time l a b L0 L1 M0 M1 P0 P1 T S Z F now hv (.inr h)) ?_
  exact Aid.ite (fun hh => absurd hh (by first | decide | (dsimp only; first | omega | decide))) (fun _ => Ev.now _)
theorem left_time (L0 L1 M0 M1 P0 P1 T S F now : Int) (Z : Bool) (p : Int) (hp : 0 ≤ p ∧ p ≤ 1) (hv : validE l a b L0 L1 M0 M1 P0 P1 T S F = 0) (h : now > 100000000) : Ev (fun k => clock_Left.f k l a b L0 L1 M0 M1 P0 P1 T S Z F p now) (0, 11) := by
  unfold clock_Left.f
  refine Aid.ite (fun hh => absurd hh (by omega)) (fun _ => ?_)
  rw [decide_eq_false (show ¬ p > 1 by omega)]
  refine Ev.step (fun k => by rw [clock_Left.j0]) ?_
  refine Aid.ite (fun hh => absurd hh (by first | decide | (dsimp only; first | omega | decide))) (fun _ => ?_)
  refine Ev.bind (look_time l a b L0 L1 M0 M1 P0 P1 T S Z F now hv (.inr h)) ?_
  exact Aid.ite (fun hh => absurd hh (by first | decide | (dsimp only; first | omega | decide))) (fun _ => Ev.now _)
theorem press_falls0 (L0 L1 M0 M1 P0 P1 S now : Int) (hv : validE l a b L0 L1 M0 M1 P0 P1 0 S (-1) = 0) (h : S ≤ now ∧ now ≤ 100000000) (hlt : L0 < usedE b S false now) : Ev (fun k => clock_Press.f k l a b L0 L1 M0 M1 P0 P1 0 S false (-1) now) (0, 0, 0, 0, 0, 0, 0, 0, false, 0, 14) := by
  unfold clock_Press.f
  refine Ev.bind (look_falls0 l a b L0 L1 M0 M1 P0 P1 0 S false (-1) now hv h (by first | decide | (dsimp only; first | omega | decide)) rfl hlt) ?_
  refine Aid.ite (fun _ => ?_) (fun hh => absurd rfl hh)
  exact Aid.ite (fun _ => Ev.now _) (fun hh => absurd (by first | decide | (dsimp only; first | omega | decide)) hh)
theorem left_falls0 (L0 L1 M0 M1 P0 P1 S now : Int) (hv : validE l a b L0 L1 M0 M1 P0 P1 0 S (-1) = 0) (h : S ≤ now ∧ now ≤ 100000000) (hlt : L0 < usedE b S false now) : Ev (fun k => clock_Left.f k l a b L0 L1 M0 M1 P0 P1 0 S false (-1) 0 now) (0, 0) := by
  unfold clock_Left.f
  refine Aid.ite (fun hh => absurd hh (by first | decide | (dsimp only; first | omega | decide))) (fun _ => ?_)
  rw [decide_eq_false (show ¬ ((0 : Int) > 1) by decide)]
  refine Ev.step (fun k => by rw [clock_Left.j0]) ?_
  refine Aid.ite (fun hh => absurd hh (by first | decide | (dsimp only; first | omega | decide))) (fun _ => ?_)
  refine Ev.bind (look_falls0 l a b L0 L1 M0 M1 P0 P1 0 S false (-1) now hv h (by first | decide | (dsimp only; first | omega | decide)) rfl hlt) ?_
  refine Aid.ite (fun _ => ?_) (fun hh => absurd rfl hh)
  refine Aid.ite (fun _ => ?_) (fun hh => absurd (by first | decide | (dsimp only; first | omega | decide)) hh)
  refine Aid.ite (fun _ => ?_) (fun hh => absurd (by first | decide | (dsimp only; first | omega | decide)) hh)
  refine Aid.ite (fun _ => ?_) (fun hh => absurd (by first | decide | (dsimp only; first | omega | decide)) hh)
  refine Aid.ite (fun _ => ?_) (fun hh => absurd rfl hh)
  exact Ev.now _
theorem left_on0 (L0 L1 M0 M1 P0 P1 S now : Int) (hv : validE l a b L0 L1 M0 M1 P0 P1 0 S (-1) = 0) (h : S ≤ now ∧ now ≤ 100000000) (hle : usedE b S false now ≤ L0) : Ev (fun k => clock_Left.f k l a b L0 L1 M0 M1 P0 P1 0 S false (-1) 0 now) (wrap64 (L0 - usedE b S false now), 0) := by
  obtain ⟨h1, h2, h3⟩ := valid0 l a b L0 L1 M0 M1 P0 P1 0 S (-1) hv
  unfold okc at h3
  have hu := used_f l a b S false now h2 h3.2.2.1 h L0 L1 M0 M1 P0 P1 0 (-1)
  unfold clock_Left.f
  refine Aid.ite (fun hh => absurd hh (by first | decide | (dsimp only; first | omega | decide))) (fun _ => ?_)
  rw [decide_eq_false (show ¬ ((0 : Int) > 1) by decide)]
  refine Ev.step (fun k => by rw [clock_Left.j0]) ?_
  refine Aid.ite (fun hh => absurd hh (by first | decide | (dsimp only; first | omega | decide))) (fun _ => ?_)
  refine Ev.bind (look_stays l a b L0 L1 M0 M1 P0 P1 0 S false (-1) now hv h (.inr (.inl ⟨rfl, hle⟩))) ?_
  refine Aid.ite (fun _ => ?_) (fun hh => absurd rfl hh)
  refine Aid.ite (fun hh => absurd hh (by first | decide | (dsimp only; first | omega | decide))) (fun _ => ?_)
  refine Aid.ite (fun _ => ?_) (fun hh => absurd rfl hh)
  refine Aid.ite (fun _ => ?_) (fun hh => absurd (by first | decide | (dsimp only; first | omega | decide)) hh)
  refine Aid.ite (fun _ => ?_) (fun hh => absurd (by first | decide | (dsimp only; first | omega | decide)) hh)
  refine Aid.ite (fun _ => ?_) (fun hh => absurd rfl hh)
  refine bind_now hu ?_
  exact Ev.now _
/-- the clock behind a move of player 0 who has made n moves -/
theorem press_on0 (L0 L1 M0 M1 P0 P1 S now : Int) (n : Nat) (hn : n ≤ 60) (s : Int) (hs : 0 ≤ s) (hv : validE l a b L0 L1 M0 M1 P0 P1 0 S (-1) = 0) (h : S ≤ now ∧ now ≤ 100000000) (hle : usedE b S false now ≤ L0) (hu0 : 0 ≤ usedE b S false now)
    (hL : L0 = (bud l a n).1 - s) (hP : P0 = (bud l a n).2.1) (hM : M0 = (bud l a n).2.2) :
    Ev (fun k => clock_Press.f k l a b L0 L1 M0 M1 P0 P1 0 S false (-1) now) ((bud l a (n + 1)).1 - (s + usedE b S false now), L1, (bud l a (n + 1)).2.2, M1, (bud l a (n + 1)).2.1, P1, (1 : Int), now, false, (-1 : Int), (0 : Int)) := by
  obtain ⟨h1, h2, h3⟩ := valid0 l a b L0 L1 M0 M1 P0 P1 0 S (-1) hv
  unfold okc at h3
  have hu := used_f l a b S false now h2 h3.2.2.1 h L0 L1 M0 M1 P0 P1 0 (-1)
  obtain ⟨i1, i2, i3, i4⟩ := bud_ok l a b hO n
  obtain ⟨ha, hb, hl, hp⟩ := hO
  rw [show bud l a (n + 1) = if (rd_T54 l (bud l a n).2.1).f0 ≠ 0 ∧ (bud l a n).2.2 + 1 = (rd_T54 l (bud l a n).2.1).f0 then ((bud l a n).1 + a + (rd_T54 l ((bud l a n).2.1 + 1)).f1, (bud l a n).2.1 + 1, 0) else ((bud l a n).1 + a, (bud l a n).2.1, (bud l a n).2.2 + 1) from rfl]
  rw [← hP, ← hM] at *
  generalize (bud l a n).1 = B at *
  obtain ⟨g1, g2, g3⟩ := hp P0 i1.1 i1.2
  unfold clock_Press.f
  refine Ev.bind (look_stays l a b L0 L1 M0 M1 P0 P1 0 S false (-1) now hv h (.inr (.inl ⟨rfl, hle⟩))) ?_
  generalize usedE b S false now = u at *
  refine Aid.ite (fun _ => ?_) (fun hh => absurd rfl hh)
  refine Aid.ite (fun hh => absurd hh (by first | decide | (dsimp only; first | omega | decide))) (fun _ => ?_)
  refine Aid.ite (fun hh => absurd hh (by first | decide | (dsimp only; first | omega | decide))) (fun _ => ?_)
  refine Aid.ite (fun _ => ?_) (fun hh => absurd (by first | decide | (dsimp only; first | omega | decide)) hh)
  refine Aid.ite (fun _ => ?_) (fun hh => absurd (by first | decide | (dsimp only; first | omega | decide)) hh)
  refine Aid.ite (fun _ => ?_) (fun hh => absurd rfl hh)
  refine bind_now hu ?_
  have em : mn (wrap64 (M0 + 1)) 400 = M0 + 1 := by rw [w64 (by omega) (by omega)]; unfold mn; split <;> omega
  have e1 : wrap64 (L0 + wrap64 (a - u)) = L0 + a - u := by rw [w64 (n := a - u) (by omega) (by omega), w64 (by omega) (by omega)]; omega
  have e2 : mn (L0 + a - u) 100000000000 = L0 + a - u := by unfold mn; split <;> omega
  have e3 : wrap64 (1 - 0) = 1 := (w64 (n := (1 : Int) - 0) (by omega) (by omega)).trans rfl
  have e4 : wrap64 (P0 + 1) = P0 + 1 := w64 (by omega) (by omega)
  refine Aid.ite (fun _ => ?_) (fun hh => absurd i1.1 hh)
  refine Aid.ite (fun _ => ?_) (fun hh => absurd i1.2 hh)
  simp only [em, e1, e3, e4]
  have same : ¬ ((rd_T54 l P0).f0 ≠ 0 ∧ M0 + 1 = (rd_T54 l P0).f0) → Ev (fun _ => some (mn (L0 + a - u) 100000000000, L1, M0 + 1, M1, P0, P1, (1 : Int), now, false, (-1 : Int), (0 : Int))) ((if (rd_T54 l P0).f0 ≠ 0 ∧ M0 + 1 = (rd_T54 l P0).f0 then (B + a + (rd_T54 l (P0 + 1)).f1, P0 + 1, 0) else (B + a, P0, M0 + 1)).1 - (s + u), L1, (if (rd_T54 l P0).f0 ≠ 0 ∧ M0 + 1 = (rd_T54 l P0).f0 then (B + a + (rd_T54 l (P0 + 1)).f1, P0 + 1, 0) else (B + a, P0, M0 + 1)).2.2, M1, (if (rd_T54 l P0).f0 ≠ 0 ∧ M0 + 1 = (rd_T54 l P0).f0 then (B + a + (rd_T54 l (P0 + 1)).f1, P0 + 1, 0) else (B + a, P0, M0 + 1)).2.1, P1, 1, now, false, -1, 0) := fun hn' => by
    rw [if_neg hn', e2]
    exact Aid.now (by congr 1 <;> first | rfl | omega | (congr 1 <;> first | rfl | omega))
  refine Aid.ite (fun hz => ?_) (fun hz => ?_)
  · refine Aid.ite (fun he => ?_) (fun he => ?_)
    · obtain ⟨k1, k2, k3⟩ := hp (P0 + 1) (by omega) (by omega)
      have hne : (rd_T54 l P0).f0 ≠ 0 := by omega
      have i3' := i3 hne
      rw [if_pos (show (rd_T54 l P0).f0 ≠ 0 ∧ M0 + 1 = (rd_T54 l P0).f0 from ⟨hne, by omega⟩)]
      refine Aid.ite (fun _ => ?_) (fun hh => absurd (show 0 ≤ P0 + 1 by omega) hh)
      refine Aid.ite (fun _ => ?_) (fun hh => absurd (show P0 + 1 < (l.length : Int) by omega) hh)
      have e5 : wrap64 (L0 + a - u + (rd_T54 l (P0 + 1)).f1) = L0 + a - u + (rd_T54 l (P0 + 1)).f1 := w64 (by omega) (by omega)
      have e6 : mn (L0 + a - u + (rd_T54 l (P0 + 1)).f1) 100000000000 = L0 + a - u + (rd_T54 l (P0 + 1)).f1 := by unfold mn; split <;> omega
      rw [e5, e6]
      exact Aid.now (by congr 1 <;> first | rfl | omega | (congr 1 <;> first | rfl | omega))
    · exact same (fun h => he (by omega))
  · exact same (fun h => hz (by omega))
/-- when the flag of player 0 falls -/
theorem fell0 (L0 L1 M0 M1 P0 P1 S late : Int) (hv : validE l a b L0 L1 M0 M1 P0 P1 0 S (-1) = 0) (hlate : -9223372036854775808 ≤ late ∧ late ≤ 9223372036854775807) : Ev (fun k => gamehalllaw3_fell.f k l a b L0 L1 M0 M1 P0 P1 0 S false (-1) late) true := by
  obtain ⟨h1, h2, h3⟩ := valid0 l a b L0 L1 M0 M1 P0 P1 0 S (-1) hv
  unfold okc at h3
  have ew : wrap64 ((wrap64 ((wrap64 (S + b)) + L0)) + 1) = S + b + L0 + 1 := by
    rw [w64 (n := S + b) (by omega) (by omega), w64 (n := S + b + L0) (by omega) (by omega), w64 (by omega) (by omega)]
  have hj : ∀ (x7 x8 : Int), (S + b + L0 + 1 > 100000000 → x8 = 8 ∧ x7 = 0) → (¬ S + b + L0 + 1 > 100000000 → x8 = 0 ∧ x7 = S + b + L0 + 1) →
      Ev (fun k => gamehalllaw3_fell.j0 k late x7 x8 (S + b + L0 + 1) l a b L0 L1 M0 M1 P0 P1 0 S false (-1)) true := fun x7 x8 hA hB => by
    refine Ev.step (fun k => by rw [gamehalllaw3_fell.j0]) ?_
    refine Aid.ite (fun hg => ?_) (fun hg => ?_)
    · obtain ⟨rfl, rfl⟩ := hA hg
      exact Aid.ite (fun _ => Ev.now _) (fun hh => absurd rfl hh)
    · obtain ⟨rfl, rfl⟩ := hB hg
      have uF : L0 < usedE b S false (S + b + L0 + 1) := by unfold usedE; simp only [Bool.false_eq_true, if_false]; split <;> omega
      have ev : wrap64 (S + b + L0 + 1 - 1) = S + b + L0 := by rw [w64 (by omega) (by omega)]; omega
      obtain ⟨v, hvv, hv1, hv2⟩ : ∃ v, mx S (mn late (S + b + L0)) = v ∧ S ≤ v ∧ v ≤ S + b + L0 := ⟨_, rfl, by unfold mx; split <;> omega, by unfold mx mn; (repeat' split) <;> omega⟩
      rw [ev, hvv]
      refine Ev.bind (look_falls0 l a b L0 L1 M0 M1 P0 P1 0 S false (-1) _ hv (by omega) (by first | decide | (dsimp only; first | omega | decide)) rfl uF) ?_
      have uS : usedE b S false v ≤ L0 := by unfold usedE; simp only [Bool.false_eq_true, if_false]; split <;> omega
      refine Ev.bind (look_stays l a b L0 L1 M0 M1 P0 P1 0 S false (-1) v hv (by omega) (.inr (.inl ⟨rfl, uS⟩))) ?_
      refine Aid.ite (fun _ => ?_) (fun hh => absurd rfl hh)
      refine Aid.ite (fun _ => ?_) (fun hh => absurd rfl hh)
      refine Aid.ite (fun _ => ?_) (fun hh => absurd rfl hh)
      refine Aid.ite (fun _ => ?_) (fun hh => absurd rfl hh)
      refine Aid.ite (fun _ => ?_) (fun hh => absurd rfl hh)
      exact Aid.now (by simp)
  have hF : ∃ x7 x8 : Int, Ev (fun k => clock_Fall.f k l a b L0 L1 M0 M1 P0 P1 0 S false (-1)) (x7, x8) ∧ (S + b + L0 + 1 > 100000000 → x8 = 8 ∧ x7 = 0) ∧ (¬ S + b + L0 + 1 > 100000000 → x8 = 0 ∧ x7 = S + b + L0 + 1) := by
    have go : ∀ r, Ev (fun _ => if S + b + L0 + 1 > 100000000 then some ((0 : Int), (8 : Int)) else some (S + b + L0 + 1, 0)) r → Ev (fun k => clock_Fall.f k l a b L0 L1 M0 M1 P0 P1 0 S false (-1)) r := fun r e => by
      unfold clock_Fall.f
      refine Ev.bind (ev_eq (valid_code l a b L0 L1 M0 M1 P0 P1 0 S false (-1)) hv) ?_
      refine Aid.ite (fun _ => ?_) (fun hh => absurd rfl hh)
      refine Aid.ite (fun hh => absurd hh (by first | decide | (dsimp only; first | omega | decide))) (fun _ => ?_)
      refine Aid.ite (fun hh => absurd hh (by first | decide | (dsimp only; first | omega | decide))) (fun _ => ?_)
      refine Aid.ite (fun _ => ?_) (fun hh => absurd (by first | decide | (dsimp only; first | omega | decide)) hh)
      refine Aid.ite (fun _ => ?_) (fun hh => absurd (by first | decide | (dsimp only; first | omega | decide)) hh)
      refine Aid.ite (fun _ => ?_) (fun hh => absurd rfl hh)
      rw [ew]; exact e
    by_cases hg : S + b + L0 + 1 > 100000000
    · exact ⟨0, 8, go _ (Aid.ite (fun _ => Ev.now _) (fun hh => absurd hg hh)), fun _ => ⟨rfl, rfl⟩, fun h => absurd hg h⟩
    · exact ⟨_, 0, go _ (Aid.ite (fun hh => absurd hh hg) (fun _ => Ev.now _)), fun h => absurd h hg, fun _ => ⟨rfl, rfl⟩⟩
  obtain ⟨x7, x8, hE, hA, hB⟩ := hF
  unfold gamehalllaw3_fell.f
  refine Ev.bind hE ?_
  refine Aid.ite (fun _ => ?_) (fun hh => absurd (by first | decide | (dsimp only; first | omega | decide)) hh)
  refine Aid.ite (fun _ => ?_) (fun hh => absurd (by first | decide | (dsimp only; first | omega | decide)) hh)
  refine Aid.ite (fun _ => ?_) (fun hh => absurd rfl hh)
  rw [ew]; exact hj x7 x8 hA hB
theorem press_falls1 (L0 L1 M0 M1 P0 P1 S now : Int) (hv : validE l a b L0 L1 M0 M1 P0 P1 1 S (-1) = 0) (h : S ≤ now ∧ now ≤ 100000000) (hlt : L1 < usedE b S false now) : Ev (fun k => clock_Press.f k l a b L0 L1 M0 M1 P0 P1 1 S false (-1) now) (0, 0, 0, 0, 0, 0, 0, 0, false, 0, 14) := by
  unfold clock_Press.f
  refine Ev.bind (look_falls1 l a b L0 L1 M0 M1 P0 P1 1 S false (-1) now hv h (by first | decide | (dsimp only; first | omega | decide)) rfl hlt) ?_
  refine Aid.ite (fun _ => ?_) (fun hh => absurd rfl hh)
  exact Aid.ite (fun _ => Ev.now _) (fun hh => absurd (by first | decide | (dsimp only; first | omega | decide)) hh)
theorem left_falls1 (L0 L1 M0 M1 P0 P1 S now : Int) (hv : validE l a b L0 L1 M0 M1 P0 P1 1 S (-1) = 0) (h : S ≤ now ∧ now ≤ 100000000) (hlt : L1 < usedE b S false now) : Ev (fun k => clock_Left.f k l a b L0 L1 M0 M1 P0 P1 1 S false (-1) 1 now) (0, 0) := by
  unfold clock_Left.f
  refine Aid.ite (fun hh => absurd hh (by first | decide | (dsimp only; first | omega | decide))) (fun _ => ?_)
  rw [decide_eq_false (show ¬ ((1 : Int) > 1) by decide)]
  refine Ev.step (fun k => by rw [clock_Left.j0]) ?_
  refine Aid.ite (fun hh => absurd hh (by first | decide | (dsimp only; first | omega | decide))) (fun _ => ?_)
  refine Ev.bind (look_falls1 l a b L0 L1 M0 M1 P0 P1 1 S false (-1) now hv h (by first | decide | (dsimp only; first | omega | decide)) rfl hlt) ?_
  refine Aid.ite (fun _ => ?_) (fun hh => absurd rfl hh)
  refine Aid.ite (fun _ => ?_) (fun hh => absurd (by first | decide | (dsimp only; first | omega | decide)) hh)
  refine Aid.ite (fun _ => ?_) (fun hh => absurd (by first | decide | (dsimp only; first | omega | decide)) hh)
  refine Aid.ite (fun _ => ?_) (fun hh => absurd (by first | decide | (dsimp only; first | omega | decide)) hh)
  refine Aid.ite (fun hh => absurd hh (by first | decide | (dsimp only; first | omega | decide))) (fun _ => ?_)
  exact Ev.now _
theorem left_on1 (L0 L1 M0 M1 P0 P1 S now : Int) (hv : validE l a b L0 L1 M0 M1 P0 P1 1 S (-1) = 0) (h : S ≤ now ∧ now ≤ 100000000) (hle : usedE b S false now ≤ L1) : Ev (fun k => clock_Left.f k l a b L0 L1 M0 M1 P0 P1 1 S false (-1) 1 now) (wrap64 (L1 - usedE b S false now), 0) := by
  obtain ⟨h1, h2, h3⟩ := valid0 l a b L0 L1 M0 M1 P0 P1 1 S (-1) hv
  unfold okc at h3
  have hu := used_f l a b S false now h2 h3.2.2.1 h L0 L1 M0 M1 P0 P1 1 (-1)
  unfold clock_Left.f
  refine Aid.ite (fun hh => absurd hh (by first | decide | (dsimp only; first | omega | decide))) (fun _ => ?_)
  rw [decide_eq_false (show ¬ ((1 : Int) > 1) by decide)]
  refine Ev.step (fun k => by rw [clock_Left.j0]) ?_
  refine Aid.ite (fun hh => absurd hh (by first | decide | (dsimp only; first | omega | decide))) (fun _ => ?_)
  refine Ev.bind (look_stays l a b L0 L1 M0 M1 P0 P1 1 S false (-1) now hv h (.inr (.inr ⟨rfl, hle⟩))) ?_
  refine Aid.ite (fun _ => ?_) (fun hh => absurd rfl hh)
  refine Aid.ite (fun hh => absurd hh (by first | decide | (dsimp only; first | omega | decide))) (fun _ => ?_)
  refine Aid.ite (fun _ => ?_) (fun hh => absurd rfl hh)
  refine Aid.ite (fun _ => ?_) (fun hh => absurd (by first | decide | (dsimp only; first | omega | decide)) hh)
  refine Aid.ite (fun _ => ?_) (fun hh => absurd (by first | decide | (dsimp only; first | omega | decide)) hh)
  refine Aid.ite (fun hh => absurd hh (by first | decide | (dsimp only; first | omega | decide))) (fun _ => ?_)
  refine bind_now hu ?_
  exact Ev.now _
/-- the clock behind a move of player 1 who has made n moves -/
theorem press_on1 (L0 L1 M0 M1 P0 P1 S now : Int) (n : Nat) (hn : n ≤ 60) (s : Int) (hs : 0 ≤ s) (hv : validE l a b L0 L1 M0 M1 P0 P1 1 S (-1) = 0) (h : S ≤ now ∧ now ≤ 100000000) (hle : usedE b S false now ≤ L1) (hu0 : 0 ≤ usedE b S false now)
    (hL : L1 = (bud l a n).1 - s) (hP : P1 = (bud l a n).2.1) (hM : M1 = (bud l a n).2.2) :
    Ev (fun k => clock_Press.f k l a b L0 L1 M0 M1 P0 P1 1 S false (-1) now) (L0, (bud l a (n + 1)).1 - (s + usedE b S false now), M0, (bud l a (n + 1)).2.2, P0, (bud l a (n + 1)).2.1, (0 : Int), now, false, (-1 : Int), (0 : Int)) := by
  obtain ⟨h1, h2, h3⟩ := valid0 l a b L0 L1 M0 M1 P0 P1 1 S (-1) hv
  unfold okc at h3
  have hu := used_f l a b S false now h2 h3.2.2.1 h L0 L1 M0 M1 P0 P1 1 (-1)
  obtain ⟨i1, i2, i3, i4⟩ := bud_ok l a b hO n
  obtain ⟨ha, hb, hl, hp⟩ := hO
  rw [show bud l a (n + 1) = if (rd_T54 l (bud l a n).2.1).f0 ≠ 0 ∧ (bud l a n).2.2 + 1 = (rd_T54 l (bud l a n).2.1).f0 then ((bud l a n).1 + a + (rd_T54 l ((bud l a n).2.1 + 1)).f1, (bud l a n).2.1 + 1, 0) else ((bud l a n).1 + a, (bud l a n).2.1, (bud l a n).2.2 + 1) from rfl]
  rw [← hP, ← hM] at *
  generalize (bud l a n).1 = B at *
  obtain ⟨g1, g2, g3⟩ := hp P1 i1.1 i1.2
  unfold clock_Press.f
  refine Ev.bind (look_stays l a b L0 L1 M0 M1 P0 P1 1 S false (-1) now hv h (.inr (.inr ⟨rfl, hle⟩))) ?_
  generalize usedE b S false now = u at *
  refine Aid.ite (fun _ => ?_) (fun hh => absurd rfl hh)
  refine Aid.ite (fun hh => absurd hh (by first | decide | (dsimp only; first | omega | decide))) (fun _ => ?_)
  refine Aid.ite (fun hh => absurd hh (by first | decide | (dsimp only; first | omega | decide))) (fun _ => ?_)
  refine Aid.ite (fun _ => ?_) (fun hh => absurd (by first | decide | (dsimp only; first | omega | decide)) hh)
  refine Aid.ite (fun _ => ?_) (fun hh => absurd (by first | decide | (dsimp only; first | omega | decide)) hh)
  refine Aid.ite (fun hh => absurd hh (by first | decide | (dsimp only; first | omega | decide))) (fun _ => ?_)
  refine bind_now hu ?_
  have em : mn (wrap64 (M1 + 1)) 400 = M1 + 1 := by rw [w64 (by omega) (by omega)]; unfold mn; split <;> omega
  have e1 : wrap64 (L1 + wrap64 (a - u)) = L1 + a - u := by rw [w64 (n := a - u) (by omega) (by omega), w64 (by omega) (by omega)]; omega
  have e2 : mn (L1 + a - u) 100000000000 = L1 + a - u := by unfold mn; split <;> omega
  have e3 : wrap64 (1 - 1) = 0 := (w64 (n := (1 : Int) - 1) (by omega) (by omega)).trans rfl
  have e4 : wrap64 (P1 + 1) = P1 + 1 := w64 (by omega) (by omega)
  refine Aid.ite (fun _ => ?_) (fun hh => absurd i1.1 hh)
  refine Aid.ite (fun _ => ?_) (fun hh => absurd i1.2 hh)
  simp only [em, e1, e3, e4]
  have same : ¬ ((rd_T54 l P1).f0 ≠ 0 ∧ M1 + 1 = (rd_T54 l P1).f0) → Ev (fun _ => some (L0, mn (L1 + a - u) 100000000000, M0, M1 + 1, P0, P1, (0 : Int), now, false, (-1 : Int), (0 : Int))) (L0, (if (rd_T54 l P1).f0 ≠ 0 ∧ M1 + 1 = (rd_T54 l P1).f0 then (B + a + (rd_T54 l (P1 + 1)).f1, P1 + 1, 0) else (B + a, P1, M1 + 1)).1 - (s + u), M0, (if (rd_T54 l P1).f0 ≠ 0 ∧ M1 + 1 = (rd_T54 l P1).f0 then (B + a + (rd_T54 l (P1 + 1)).f1, P1 + 1, 0) else (B + a, P1, M1 + 1)).2.2, P0, (if (rd_T54 l P1).f0 ≠ 0 ∧ M1 + 1 = (rd_T54 l P1).f0 then (B + a + (rd_T54 l (P1 + 1)).f1, P1 + 1, 0) else (B + a, P1, M1 + 1)).2.1, 0, now, false, -1, 0) := fun hn' => by
    rw [if_neg hn', e2]
    exact Aid.now (by congr 1 <;> first | rfl | omega | (congr 1 <;> first | rfl | omega))
  refine Aid.ite (fun hz => ?_) (fun hz => ?_)
  · refine Aid.ite (fun he => ?_) (fun he => ?_)
    · obtain ⟨k1, k2, k3⟩ := hp (P1 + 1) (by omega) (by omega)
      have hne : (rd_T54 l P1).f0 ≠ 0 := by omega
      have i3' := i3 hne
      rw [if_pos (show (rd_T54 l P1).f0 ≠ 0 ∧ M1 + 1 = (rd_T54 l P1).f0 from ⟨hne, by omega⟩)]
      refine Aid.ite (fun _ => ?_) (fun hh => absurd (show 0 ≤ P1 + 1 by omega) hh)
      refine Aid.ite (fun _ => ?_) (fun hh => absurd (show P1 + 1 < (l.length : Int) by omega) hh)
      have e5 : wrap64 (L1 + a - u + (rd_T54 l (P1 + 1)).f1) = L1 + a - u + (rd_T54 l (P1 + 1)).f1 := w64 (by omega) (by omega)
      have e6 : mn (L1 + a - u + (rd_T54 l (P1 + 1)).f1) 100000000000 = L1 + a - u + (rd_T54 l (P1 + 1)).f1 := by unfold mn; split <;> omega
      rw [e5, e6]
      exact Aid.now (by congr 1 <;> first | rfl | omega | (congr 1 <;> first | rfl | omega))
    · exact same (fun h => he (by omega))
  · exact same (fun h => hz (by omega))
/-- when the flag of player 1 falls -/
theorem fell1 (L0 L1 M0 M1 P0 P1 S late : Int) (hv : validE l a b L0 L1 M0 M1 P0 P1 1 S (-1) = 0) (hlate : -9223372036854775808 ≤ late ∧ late ≤ 9223372036854775807) : Ev (fun k => gamehalllaw3_fell.f k l a b L0 L1 M0 M1 P0 P1 1 S false (-1) late) true := by
  obtain ⟨h1, h2, h3⟩ := valid0 l a b L0 L1 M0 M1 P0 P1 1 S (-1) hv
  unfold okc at h3
  have ew : wrap64 ((wrap64 ((wrap64 (S + b)) + L1)) + 1) = S + b + L1 + 1 := by
    rw [w64 (n := S + b) (by omega) (by omega), w64 (n := S + b + L1) (by omega) (by omega), w64 (by omega) (by omega)]
  have hj : ∀ (x7 x8 : Int), (S + b + L1 + 1 > 100000000 → x8 = 8 ∧ x7 = 0) → (¬ S + b + L1 + 1 > 100000000 → x8 = 0 ∧ x7 = S + b + L1 + 1) →
      Ev (fun k => gamehalllaw3_fell.j0 k late x7 x8 (S + b + L1 + 1) l a b L0 L1 M0 M1 P0 P1 1 S false (-1)) true := fun x7 x8 hA hB => by
    refine Ev.step (fun k => by rw [gamehalllaw3_fell.j0]) ?_
    refine Aid.ite (fun hg => ?_) (fun hg => ?_)
    · obtain ⟨rfl, rfl⟩ := hA hg
      exact Aid.ite (fun _ => Ev.now _) (fun hh => absurd rfl hh)
    · obtain ⟨rfl, rfl⟩ := hB hg
      have uF : L1 < usedE b S false (S + b + L1 + 1) := by unfold usedE; simp only [Bool.false_eq_true, if_false]; split <;> omega
      have ev : wrap64 (S + b + L1 + 1 - 1) = S + b + L1 := by rw [w64 (by omega) (by omega)]; omega
      obtain ⟨v, hvv, hv1, hv2⟩ : ∃ v, mx S (mn late (S + b + L1)) = v ∧ S ≤ v ∧ v ≤ S + b + L1 := ⟨_, rfl, by unfold mx; split <;> omega, by unfold mx mn; (repeat' split) <;> omega⟩
      rw [ev, hvv]
      refine Ev.bind (look_falls1 l a b L0 L1 M0 M1 P0 P1 1 S false (-1) _ hv (by omega) (by first | decide | (dsimp only; first | omega | decide)) rfl uF) ?_
      have uS : usedE b S false v ≤ L1 := by unfold usedE; simp only [Bool.false_eq_true, if_false]; split <;> omega
      refine Ev.bind (look_stays l a b L0 L1 M0 M1 P0 P1 1 S false (-1) v hv (by omega) (.inr (.inr ⟨rfl, uS⟩))) ?_
      refine Aid.ite (fun _ => ?_) (fun hh => absurd rfl hh)
      refine Aid.ite (fun _ => ?_) (fun hh => absurd rfl hh)
      refine Aid.ite (fun _ => ?_) (fun hh => absurd rfl hh)
      refine Aid.ite (fun _ => ?_) (fun hh => absurd rfl hh)
      refine Aid.ite (fun _ => ?_) (fun hh => absurd rfl hh)
      exact Aid.now (by simp)
  have hF : ∃ x7 x8 : Int, Ev (fun k => clock_Fall.f k l a b L0 L1 M0 M1 P0 P1 1 S false (-1)) (x7, x8) ∧ (S + b + L1 + 1 > 100000000 → x8 = 8 ∧ x7 = 0) ∧ (¬ S + b + L1 + 1 > 100000000 → x8 = 0 ∧ x7 = S + b + L1 + 1) := by
    have go : ∀ r, Ev (fun _ => if S + b + L1 + 1 > 100000000 then some ((0 : Int), (8 : Int)) else some (S + b + L1 + 1, 0)) r → Ev (fun k => clock_Fall.f k l a b L0 L1 M0 M1 P0 P1 1 S false (-1)) r := fun r e => by
      unfold clock_Fall.f
      refine Ev.bind (ev_eq (valid_code l a b L0 L1 M0 M1 P0 P1 1 S false (-1)) hv) ?_
      refine Aid.ite (fun _ => ?_) (fun hh => absurd rfl hh)
      refine Aid.ite (fun hh => absurd hh (by first | decide | (dsimp only; first | omega | decide))) (fun _ => ?_)
      refine Aid.ite (fun hh => absurd hh (by first | decide | (dsimp only; first | omega | decide))) (fun _ => ?_)
      refine Aid.ite (fun _ => ?_) (fun hh => absurd (by first | decide | (dsimp only; first | omega | decide)) hh)
      refine Aid.ite (fun _ => ?_) (fun hh => absurd (by first | decide | (dsimp only; first | omega | decide)) hh)
      refine Aid.ite (fun hh => absurd hh (by first | decide | (dsimp only; first | omega | decide))) (fun _ => ?_)
      rw [ew]; exact e
    by_cases hg : S + b + L1 + 1 > 100000000
    · exact ⟨0, 8, go _ (Aid.ite (fun _ => Ev.now _) (fun hh => absurd hg hh)), fun _ => ⟨rfl, rfl⟩, fun h => absurd hg h⟩
    · exact ⟨_, 0, go _ (Aid.ite (fun hh => absurd hh hg) (fun _ => Ev.now _)), fun h => absurd h hg, fun _ => ⟨rfl, rfl⟩⟩
  obtain ⟨x7, x8, hE, hA, hB⟩ := hF
  unfold gamehalllaw3_fell.f
  refine Ev.bind hE ?_
  refine Aid.ite (fun _ => ?_) (fun hh => absurd (by first | decide | (dsimp only; first | omega | decide)) hh)
  refine Aid.ite (fun _ => ?_) (fun hh => absurd (by first | decide | (dsimp only; first | omega | decide)) hh)
  refine Aid.ite (fun hh => absurd hh (by first | decide | (dsimp only; first | omega | decide))) (fun _ => ?_)
  rw [ew]; exact hj x7 x8 hA hB
/-- what holds ahead of each move -/
structure Inv (k : Nat) (L0 L1 M0 M1 P0 P1 T S : Int) (n0 n1 : Nat) (s0 s1 : Int) : Prop where
  turn : T = (k : Int) % 2
  time : 0 ≤ S ∧ S ≤ 100000000
  moves : n0 ≤ k ∧ n1 ≤ k
  spent : 0 ≤ s0 ∧ 0 ≤ s1
  l0 : L0 = (bud l a n0).1 - s0
  l1 : L1 = (bud l a n1).1 - s1
  g0 : 0 ≤ L0
  g1 : 0 ≤ L1
  p0 : P0 = (bud l a n0).2.1
  p1 : P1 = (bud l a n1).2.1
  m0 : M0 = (bud l a n0).2.2
  m1 : M1 = (bud l a n1).2.2
omit hO hc in
theorem dummy : True := trivial
theorem inv_valid {k : Nat} {L0 L1 M0 M1 P0 P1 T S : Int} {n0 n1 : Nat} {s0 s1 : Int} (hk : k ≤ 60) (I : Inv l a k L0 L1 M0 M1 P0 P1 T S n0 n1 s0 s1) : validE l a b L0 L1 M0 M1 P0 P1 T S (-1) = 0 := by
  obtain ⟨i1, i2, i3, i4⟩ := bud_ok l a b hO n0
  obtain ⟨j1, j2, j3, j4⟩ := bud_ok l a b hO n1
  obtain ⟨h1, h2, h3, h4, h5, h6, h7, h8, h9, h10, h11, h12⟩ := I
  refine validE_of l a b L0 L1 M0 M1 P0 P1 T S (-1) hc ?_
  unfold okc
  omega
theorem step0 (late : Int) (X : List Int) (k : Nat) (hk : k < 60) (t : Int) (ht : 0 ≤ t ∧ t ≤ 100000000) (L0 L1 M0 M1 P0 P1 S : Int) (n0 n1 : Nat) (s0 s1 : Int) (hT : (k : Int) % 2 = 0) (I : Inv l a k L0 L1 M0 M1 P0 P1 0 S n0 n1 s0 s1)
    (hK : Inv l a (k + 1) ((bud l a (n0 + 1)).1 - (s0 + usedE b S false (S + t))) L1 (bud l a (n0 + 1)).2.2 M1 (bud l a (n0 + 1)).2.1 P1 1 (S + t) (n0 + 1) n1 (s0 + usedE b S false (S + t)) s1 → Ev (fun r => gamehalllaw3_ClockRuns.l0 r late (S + t) X (X.length : Int) ((k + 1 : Nat) : Int) l a b ((bud l a (n0 + 1)).1 - (s0 + usedE b S false (S + t))) L1 (bud l a (n0 + 1)).2.2 M1 (bud l a (n0 + 1)).2.1 P1 1 (S + t) false (-1) ((n0 + 1 : Nat) : Int) (n1 : Int) (s0 + usedE b S false (S + t)) s1) true) :
    Ev (fun r => gamehalllaw3_ClockRuns.j3 r late S (k : Int) t X (X.length : Int) (k : Int) false l a b L0 L1 M0 M1 P0 P1 0 S false (-1) (n0 : Int) (n1 : Int) s0 s1) true := by
  have hv := inv_valid l a b hO hc (by omega) I
  have hb := hO.2.1
  obtain ⟨i1, i2, i3, i4⟩ := bud_ok l a b hO n0
  obtain ⟨j1, j2, j3, j4⟩ := bud_ok l a b hO n1
  obtain ⟨u0, u1⟩ := used_bounds b S t hb ht
  obtain ⟨_, c2, c3, c4, c5, c6, c7, c8, c9, c10, c11, c12⟩ := I
  have hmod : Int.tmod (k : Int) 2 = 0 := by rw [Int.tmod_eq_emod_of_nonneg (by omega)]; exact hT
  have hnow : wrap64 (S + t) = S + t := w64 (by omega) (by omega)
  have hw := Aside0.mk (show wrap64 ((k : Int) + 1) = ((k + 1 : Nat) : Int) from by rw [w64s (by omega) (by omega)]; omega)
  have hwn := Aside0.mk (show wrap64 ((n0 : Int) + 1) = ((n0 + 1 : Nat) : Int) from by rw [w64s (by omega) (by omega)]; omega)
  refine Ev.step (fun r => by rw [gamehalllaw3_ClockRuns.j3]) ?_
  refine Aid.ite (fun hh => absurd hh (by first | decide | (dsimp only; first | omega | decide))) (fun _ => ?_)
  rw [hmod]
  refine Aid.ite (fun _ => ?_) (fun hh => absurd (by first | decide | (dsimp only; first | omega | decide)) hh)
  refine Aid.ite (fun _ => ?_) (fun hh => absurd (by first | decide | (dsimp only; first | omega | decide)) hh)
  refine Aid.ite (fun _ => ?_) (fun hh => absurd rfl hh)
  refine Ev.bind (budget_f l a b hO n0 (by omega)) ?_
  refine Ev.step (fun r => by rw [gamehalllaw3_ClockRuns.j4]) ?_
  rw [hnow]
  by_cases hgt : S + t > 100000000
  · refine Ev.bind (press_time l a b hO hc L0 L1 M0 M1 P0 P1 0 S (-1) (S + t) false hv hgt) ?_
    refine Ev.bind (left_time l a b hO hc L0 L1 M0 M1 P0 P1 0 S (-1) (S + t) false 0 (by first | decide | (dsimp only; first | omega | decide)) hv hgt) ?_
    refine Aid.ite (fun _ => ?_) (fun hh => absurd hgt hh)
    refine Aid.ite (fun _ => ?_) (fun hh => absurd rfl hh)
    refine Aid.ite (fun _ => ?_) (fun hh => absurd rfl hh)
    exact Ev.now _
  have hin : S ≤ S + t ∧ S + t ≤ 100000000 := by omega
  have hsp := spent_f l a b t hb ht S c2
  have hws : wrap64 (s0 + usedE b S false (S + t)) = s0 + usedE b S false (S + t) := w64 (by omega) (by omega)
  by_cases hover : L0 < usedE b S false (S + t)
  · refine Ev.bind (press_falls0 l a b hO hc L0 L1 M0 M1 P0 P1 S (S + t) hv hin hover) ?_
    refine Ev.bind (left_falls0 l a b hO hc L0 L1 M0 M1 P0 P1 S (S + t) hv hin hover) ?_
    refine Aid.ite (fun hh => absurd hh hgt) (fun _ => ?_)
    refine bind_now hsp ?_
    refine Aid.ite (fun _ => ?_) (fun hh => absurd (by first | decide | (dsimp only; first | omega | decide)) hh)
    refine Aid.ite (fun _ => ?_) (fun hh => absurd (by first | decide | (dsimp only; first | omega | decide)) hh)
    refine Aid.ite (fun _ => ?_) (fun hh => absurd rfl hh)
    rw [hws, decide_eq_true (show s0 + usedE b S false (S + t) > (bud l a n0).1 by omega)]
    refine Ev.step (fun r => by rw [gamehalllaw3_ClockRuns.j5]) ?_
    rw [hnow]
    refine Aid.ite (fun _ => ?_) (fun hh => absurd rfl hh)
    refine Ev.bind (look_falls0 l a b L0 L1 M0 M1 P0 P1 0 S false (-1) (S + t) hv hin (by first | decide | (dsimp only; first | omega | decide)) rfl hover) ?_
    refine Aid.ite (fun _ => ?_) (fun hh => absurd rfl hh)
    refine Aid.ite (fun _ => ?_) (fun hh => absurd rfl hh)
    refine Aid.ite (fun _ => ?_) (fun hh => absurd rfl hh)
    refine Aid.ite (fun _ => ?_) (fun hh => absurd rfl hh)
    refine Aid.ite (fun _ => ?_) (fun hh => absurd rfl hh)
    refine Aid.ite (fun _ => ?_) (fun hh => absurd rfl hh)
    refine Aid.ite (fun _ => ?_) (fun hh => absurd (by first | decide | (dsimp only; first | omega | decide)) hh)
    refine Aid.ite (fun _ => ?_) (fun hh => absurd (by first | decide | (dsimp only; first | omega | decide)) hh)
    refine Aid.ite (fun _ => ?_) (fun hh => absurd rfl hh)
    exact Ev.now _
  · have hle : usedE b S false (S + t) ≤ L0 := by omega
    refine Ev.bind (press_on0 l a b hO hc L0 L1 M0 M1 P0 P1 S (S + t) n0 (by omega) s0 (by omega) hv hin hle u0 c5 c9 c11) ?_
    refine Ev.bind (left_on0 l a b hO hc L0 L1 M0 M1 P0 P1 S (S + t) hv hin hle) ?_
    refine Aid.ite (fun hh => absurd hh hgt) (fun _ => ?_)
    refine bind_now hsp ?_
    refine Aid.ite (fun _ => ?_) (fun hh => absurd (by first | decide | (dsimp only; first | omega | decide)) hh)
    refine Aid.ite (fun _ => ?_) (fun hh => absurd (by first | decide | (dsimp only; first | omega | decide)) hh)
    refine Aid.ite (fun _ => ?_) (fun hh => absurd rfl hh)
    rw [hws, decide_eq_false (show ¬ s0 + usedE b S false (S + t) > (bud l a n0).1 by omega)]
    refine Ev.step (fun r => by rw [gamehalllaw3_ClockRuns.j5]) ?_
    refine Aid.ite (fun hh => absurd hh (by first | decide | (dsimp only; first | omega | decide))) (fun _ => ?_)
    refine Aid.ite (fun _ => ?_) (fun hh => absurd rfl hh)
    refine Aid.ite (fun _ => ?_) (fun hh => absurd rfl hh)
    refine Aid.ite (fun _ => ?_) (fun hh => absurd (by first | decide | (dsimp only; first | omega | decide)) hh)
    refine Aid.ite (fun _ => ?_) (fun hh => absurd (by first | decide | (dsimp only; first | omega | decide)) hh)
    refine Aid.ite (fun _ => ?_) (fun hh => absurd rfl hh)
    refine Aid.ite (fun _ => ?_) (fun hh => absurd (show wrap64 (L0 - usedE b S false (S + t)) = wrap64 (wrap64 ((bud l a n0).1 - s0) - usedE b S false (S + t)) by rw [w64 (n := (bud l a n0).1 - s0) (by omega) (by omega), c5]) hh)
    refine Aid.ite (fun _ => ?_) (fun hh => absurd c9 hh)
    rw [show (M0 != (bud l a n0).2.2) = false by rw [c11]; simp]
    refine Ev.step (fun r => by rw [gamehalllaw3_ClockRuns.j6]) ?_
    rw [hnow, hw.out, hwn.out, hws]
    refine Aid.ite (fun hh => absurd hh (by first | decide | (dsimp only; first | omega | decide))) (fun _ => ?_)
    refine Aid.ite (fun _ => ?_) (fun hh => absurd (by first | decide | (dsimp only; first | omega | decide)) hh)
    refine Aid.ite (fun _ => ?_) (fun hh => absurd (by first | decide | (dsimp only; first | omega | decide)) hh)
    refine Aid.ite (fun _ => ?_) (fun hh => absurd rfl hh)
    refine Ev.bind (budget_f l a b hO (n0 + 1) (by omega)) ?_
    obtain ⟨k1, k2, k3, k4⟩ := bud_ok l a b hO (n0 + 1)
    have hnew : 0 ≤ (bud l a (n0 + 1)).1 - (s0 + usedE b S false (S + t)) := by
      have : (bud l a n0).1 ≤ (bud l a (n0 + 1)).1 := by
        have ha := hO.1
        obtain ⟨g1, g2, g3⟩ := hO.2.2.2 (bud l a n0).2.1 (by omega) (by omega)
        rw [show bud l a (n0 + 1) = if (rd_T54 l (bud l a n0).2.1).f0 ≠ 0 ∧ (bud l a n0).2.2 + 1 = (rd_T54 l (bud l a n0).2.1).f0 then ((bud l a n0).1 + a + (rd_T54 l ((bud l a n0).2.1 + 1)).f1, (bud l a n0).2.1 + 1, 0) else ((bud l a n0).1 + a, (bud l a n0).2.1, (bud l a n0).2.2 + 1) from rfl]
        split
        · rename_i hcc
          obtain ⟨q1, q2, q3⟩ := hO.2.2.2 ((bud l a n0).2.1 + 1) (by omega) (by omega)
          simp only; omega
        · simp only; omega
      omega
    refine Aid.ite (fun _ => ?_) (fun hh => absurd (show (bud l a (n0 + 1)).1 - (s0 + usedE b S false (S + t)) = wrap64 ((bud l a (n0 + 1)).1 - (s0 + usedE b S false (S + t))) from (w64 (by omega) (by omega)).symm) hh)
    refine Aid.ite (fun _ => ?_) (fun hh => absurd (show (1 : Int) = wrap64 (1 - 0) by rw [w64 (by omega) (by omega)]; rfl) hh)
    refine Aid.ite (fun _ => ?_) (fun hh => absurd rfl hh)
    refine Aid.ite (fun _ => ?_) (fun hh => absurd rfl hh)
    refine hK ⟨by omega, by omega, by omega, by omega, rfl, c6, hnew, c8, rfl, c10, rfl, c12⟩
theorem step1 (late : Int) (X : List Int) (k : Nat) (hk : k < 60) (t : Int) (ht : 0 ≤ t ∧ t ≤ 100000000) (L0 L1 M0 M1 P0 P1 S : Int) (n0 n1 : Nat) (s0 s1 : Int) (hT : (k : Int) % 2 = 1) (I : Inv l a k L0 L1 M0 M1 P0 P1 1 S n0 n1 s0 s1)
    (hK : Inv l a (k + 1) L0 ((bud l a (n1 + 1)).1 - (s1 + usedE b S false (S + t))) M0 (bud l a (n1 + 1)).2.2 P0 (bud l a (n1 + 1)).2.1 0 (S + t) n0 (n1 + 1) s0 (s1 + usedE b S false (S + t)) → Ev (fun r => gamehalllaw3_ClockRuns.l0 r late (S + t) X (X.length : Int) ((k + 1 : Nat) : Int) l a b L0 ((bud l a (n1 + 1)).1 - (s1 + usedE b S false (S + t))) M0 (bud l a (n1 + 1)).2.2 P0 (bud l a (n1 + 1)).2.1 0 (S + t) false (-1) (n0 : Int) ((n1 + 1 : Nat) : Int) s0 (s1 + usedE b S false (S + t))) true) :
    Ev (fun r => gamehalllaw3_ClockRuns.j3 r late S (k : Int) t X (X.length : Int) (k : Int) false l a b L0 L1 M0 M1 P0 P1 1 S false (-1) (n0 : Int) (n1 : Int) s0 s1) true := by
  have hv := inv_valid l a b hO hc (by omega) I
  have hb := hO.2.1
  obtain ⟨i1, i2, i3, i4⟩ := bud_ok l a b hO n0
  obtain ⟨j1, j2, j3, j4⟩ := bud_ok l a b hO n1
  obtain ⟨u0, u1⟩ := used_bounds b S t hb ht
  obtain ⟨_, c2, c3, c4, c5, c6, c7, c8, c9, c10, c11, c12⟩ := I
  have hmod : Int.tmod (k : Int) 2 = 1 := by rw [Int.tmod_eq_emod_of_nonneg (by omega)]; exact hT
  have hnow : wrap64 (S + t) = S + t := w64 (by omega) (by omega)
  have hw := Aside0.mk (show wrap64 ((k : Int) + 1) = ((k + 1 : Nat) : Int) from by rw [w64s (by omega) (by omega)]; omega)
  have hwn := Aside0.mk (show wrap64 ((n1 : Int) + 1) = ((n1 + 1 : Nat) : Int) from by rw [w64s (by omega) (by omega)]; omega)
  refine Ev.step (fun r => by rw [gamehalllaw3_ClockRuns.j3]) ?_
  refine Aid.ite (fun hh => absurd hh (by first | decide | (dsimp only; first | omega | decide))) (fun _ => ?_)
  rw [hmod]
  refine Aid.ite (fun _ => ?_) (fun hh => absurd (by first | decide | (dsimp only; first | omega | decide)) hh)
  refine Aid.ite (fun _ => ?_) (fun hh => absurd (by first | decide | (dsimp only; first | omega | decide)) hh)
  refine Aid.ite (fun hh => absurd hh (by first | decide | (dsimp only; first | omega | decide))) (fun _ => ?_)
  refine Ev.bind (budget_f l a b hO n1 (by omega)) ?_
  refine Ev.step (fun r => by rw [gamehalllaw3_ClockRuns.j4]) ?_
  rw [hnow]
  by_cases hgt : S + t > 100000000
  · refine Ev.bind (press_time l a b hO hc L0 L1 M0 M1 P0 P1 1 S (-1) (S + t) false hv hgt) ?_
    refine Ev.bind (left_time l a b hO hc L0 L1 M0 M1 P0 P1 1 S (-1) (S + t) false 1 (by first | decide | (dsimp only; first | omega | decide)) hv hgt) ?_
    refine Aid.ite (fun _ => ?_) (fun hh => absurd hgt hh)
    refine Aid.ite (fun _ => ?_) (fun hh => absurd rfl hh)
    refine Aid.ite (fun _ => ?_) (fun hh => absurd rfl hh)
    exact Ev.now _
  have hin : S ≤ S + t ∧ S + t ≤ 100000000 := by omega
  have hsp := spent_f l a b t hb ht S c2
  have hws : wrap64 (s1 + usedE b S false (S + t)) = s1 + usedE b S false (S + t) := w64 (by omega) (by omega)
  by_cases hover : L1 < usedE b S false (S + t)
  · refine Ev.bind (press_falls1 l a b hO hc L0 L1 M0 M1 P0 P1 S (S + t) hv hin hover) ?_
    refine Ev.bind (left_falls1 l a b hO hc L0 L1 M0 M1 P0 P1 S (S + t) hv hin hover) ?_
    refine Aid.ite (fun hh => absurd hh hgt) (fun _ => ?_)
    refine bind_now hsp ?_
    refine Aid.ite (fun _ => ?_) (fun hh => absurd (by first | decide | (dsimp only; first | omega | decide)) hh)
    refine Aid.ite (fun _ => ?_) (fun hh => absurd (by first | decide | (dsimp only; first | omega | decide)) hh)
    refine Aid.ite (fun hh => absurd hh (by first | decide | (dsimp only; first | omega | decide))) (fun _ => ?_)
    rw [hws, decide_eq_true (show s1 + usedE b S false (S + t) > (bud l a n1).1 by omega)]
    refine Ev.step (fun r => by rw [gamehalllaw3_ClockRuns.j5]) ?_
    rw [hnow]
    refine Aid.ite (fun _ => ?_) (fun hh => absurd rfl hh)
    refine Ev.bind (look_falls1 l a b L0 L1 M0 M1 P0 P1 1 S false (-1) (S + t) hv hin (by first | decide | (dsimp only; first | omega | decide)) rfl hover) ?_
    refine Aid.ite (fun _ => ?_) (fun hh => absurd rfl hh)
    refine Aid.ite (fun _ => ?_) (fun hh => absurd rfl hh)
    refine Aid.ite (fun _ => ?_) (fun hh => absurd rfl hh)
    refine Aid.ite (fun _ => ?_) (fun hh => absurd rfl hh)
    refine Aid.ite (fun _ => ?_) (fun hh => absurd rfl hh)
    refine Aid.ite (fun _ => ?_) (fun hh => absurd rfl hh)
    refine Aid.ite (fun _ => ?_) (fun hh => absurd (by first | decide | (dsimp only; first | omega | decide)) hh)
    refine Aid.ite (fun _ => ?_) (fun hh => absurd (by first | decide | (dsimp only; first | omega | decide)) hh)
    refine Aid.ite (fun hh => absurd hh (by first | decide | (dsimp only; first | omega | decide))) (fun _ => ?_)
    exact Ev.now _
  · have hle : usedE b S false (S + t) ≤ L1 := by omega
    refine Ev.bind (press_on1 l a b hO hc L0 L1 M0 M1 P0 P1 S (S + t) n1 (by omega) s1 (by omega) hv hin hle u0 c6 c10 c12) ?_
    refine Ev.bind (left_on1 l a b hO hc L0 L1 M0 M1 P0 P1 S (S + t) hv hin hle) ?_
    refine Aid.ite (fun hh => absurd hh hgt) (fun _ => ?_)
    refine bind_now hsp ?_
    refine Aid.ite (fun _ => ?_) (fun hh => absurd (by first | decide | (dsimp only; first | omega | decide)) hh)
    refine Aid.ite (fun _ => ?_) (fun hh => absurd (by first | decide | (dsimp only; first | omega | decide)) hh)
    refine Aid.ite (fun hh => absurd hh (by first | decide | (dsimp only; first | omega | decide))) (fun _ => ?_)
    rw [hws, decide_eq_false (show ¬ s1 + usedE b S false (S + t) > (bud l a n1).1 by omega)]
    refine Ev.step (fun r => by rw [gamehalllaw3_ClockRuns.j5]) ?_
    refine Aid.ite (fun hh => absurd hh (by first | decide | (dsimp only; first | omega | decide))) (fun _ => ?_)
    refine Aid.ite (fun _ => ?_) (fun hh => absurd rfl hh)
    refine Aid.ite (fun _ => ?_) (fun hh => absurd rfl hh)
    refine Aid.ite (fun _ => ?_) (fun hh => absurd (by first | decide | (dsimp only; first | omega | decide)) hh)
    refine Aid.ite (fun _ => ?_) (fun hh => absurd (by first | decide | (dsimp only; first | omega | decide)) hh)
    refine Aid.ite (fun hh => absurd hh (by first | decide | (dsimp only; first | omega | decide))) (fun _ => ?_)
    refine Aid.ite (fun _ => ?_) (fun hh => absurd (show wrap64 (L1 - usedE b S false (S + t)) = wrap64 (wrap64 ((bud l a n1).1 - s1) - usedE b S false (S + t)) by rw [w64 (n := (bud l a n1).1 - s1) (by omega) (by omega), c6]) hh)
    refine Aid.ite (fun _ => ?_) (fun hh => absurd c10 hh)
    rw [show (M1 != (bud l a n1).2.2) = false by rw [c12]; simp]
    refine Ev.step (fun r => by rw [gamehalllaw3_ClockRuns.j6]) ?_
    rw [hnow, hw.out, hwn.out, hws]
    refine Aid.ite (fun hh => absurd hh (by first | decide | (dsimp only; first | omega | decide))) (fun _ => ?_)
    refine Aid.ite (fun _ => ?_) (fun hh => absurd (by first | decide | (dsimp only; first | omega | decide)) hh)
    refine Aid.ite (fun _ => ?_) (fun hh => absurd (by first | decide | (dsimp only; first | omega | decide)) hh)
    refine Aid.ite (fun hh => absurd hh (by first | decide | (dsimp only; first | omega | decide))) (fun _ => ?_)
    refine Ev.bind (budget_f l a b hO (n1 + 1) (by omega)) ?_
    obtain ⟨k1, k2, k3, k4⟩ := bud_ok l a b hO (n1 + 1)
    have hnew : 0 ≤ (bud l a (n1 + 1)).1 - (s1 + usedE b S false (S + t)) := by
      have : (bud l a n1).1 ≤ (bud l a (n1 + 1)).1 := by
        have ha := hO.1
        obtain ⟨g1, g2, g3⟩ := hO.2.2.2 (bud l a n1).2.1 (by omega) (by omega)
        rw [show bud l a (n1 + 1) = if (rd_T54 l (bud l a n1).2.1).f0 ≠ 0 ∧ (bud l a n1).2.2 + 1 = (rd_T54 l (bud l a n1).2.1).f0 then ((bud l a n1).1 + a + (rd_T54 l ((bud l a n1).2.1 + 1)).f1, (bud l a n1).2.1 + 1, 0) else ((bud l a n1).1 + a, (bud l a n1).2.1, (bud l a n1).2.2 + 1) from rfl]
        split
        · rename_i hcc
          obtain ⟨q1, q2, q3⟩ := hO.2.2.2 ((bud l a n1).2.1 + 1) (by omega) (by omega)
          simp only; omega
        · simp only; omega
      omega
    refine Aid.ite (fun _ => ?_) (fun hh => absurd (show (bud l a (n1 + 1)).1 - (s1 + usedE b S false (S + t)) = wrap64 ((bud l a (n1 + 1)).1 - (s1 + usedE b S false (S + t))) from (w64 (by omega) (by omega)).symm) hh)
    refine Aid.ite (fun _ => ?_) (fun hh => absurd (show (0 : Int) = wrap64 (1 - 1) by rw [w64 (by omega) (by omega)]; rfl) hh)
    refine Aid.ite (fun _ => ?_) (fun hh => absurd rfl hh)
    refine Aid.ite (fun _ => ?_) (fun hh => absurd rfl hh)
    refine hK ⟨by omega, by omega, by omega, by omega, c5, rfl, c7, hnew, c9, rfl, c11, rfl⟩
theorem l0_ev (late : Int) (hlate : -9223372036854775808 ≤ late ∧ late ≤ 9223372036854775807) (X : List Int) (hX : X.length ≤ 60) : ∀ (d k : Nat) (L0 L1 M0 M1 P0 P1 T S : Int) (n0 n1 : Nat) (s0 s1 : Int), k + d = X.length → Inv l a k L0 L1 M0 M1 P0 P1 T S n0 n1 s0 s1 →
    Ev (fun r => gamehalllaw3_ClockRuns.l0 r late S X (X.length : Int) (k : Int) l a b L0 L1 M0 M1 P0 P1 T S false (-1) (n0 : Int) (n1 : Int) s0 s1) true := by
  intro d
  induction d with
  | zero =>
    intro k L0 L1 M0 M1 P0 P1 T S n0 n1 s0 s1 hk I
    have hv := inv_valid l a b hO hc (by omega) I
    have hT := I.turn
    refine Ev.step (fun r => by rw [gamehalllaw3_ClockRuns.l0]) ?_
    refine Aid.ite (fun hh => absurd hh (by omega)) (fun _ => ?_)
    have hf : Ev (fun r => gamehalllaw3_fell.f r l a b L0 L1 M0 M1 P0 P1 T S false (-1) late) true := by
      by_cases h0 : (k : Int) % 2 = 0
      · rw [h0] at hT; subst hT; exact fell0 l a b hO hc L0 L1 M0 M1 P0 P1 S late hv hlate
      · have h1 : (k : Int) % 2 = 1 := by omega
        rw [h1] at hT; subst hT; exact fell1 l a b hO hc L0 L1 M0 M1 P0 P1 S late hv hlate
    refine Ev.bind hf ?_
    exact Ev.now _
  | succ d ih =>
    intro k L0 L1 M0 M1 P0 P1 T S n0 n1 s0 s1 hk I
    have hT := I.turn
    refine Ev.step (fun r => by rw [gamehalllaw3_ClockRuns.l0]) ?_
    generalize rd X (k : Int) = t
    refine Aid.ite (fun _ => ?_) (fun hh => absurd (show (k : Int) < (X.length : Int) by omega) hh)
    refine Aid.ite (fun _ => ?_) (fun hh => absurd (show (0 : Int) ≤ (k : Int) by omega) hh)
    refine Aid.ite (fun _ => ?_) (fun hh => absurd (show (k : Int) < (X.length : Int) by omega) hh)
    have bad : Ev (fun r => gamehalllaw3_ClockRuns.j3 r late S (k : Int) t X (X.length : Int) (k : Int) true l a b L0 L1 M0 M1 P0 P1 T S false (-1) (n0 : Int) (n1 : Int) s0 s1) true := by
      refine Ev.step (fun r => by rw [gamehalllaw3_ClockRuns.j3]) ?_
      exact Aid.ite (fun _ => Ev.now _) (fun hh => absurd rfl hh)
    refine Aid.ite (fun _ => bad) (fun h0 => ?_)
    by_cases h1 : t > 100000000
    · rw [decide_eq_true h1]; exact bad
    · rw [decide_eq_false h1]
      by_cases hz : (k : Int) % 2 = 0
      · rw [hz] at hT; subst hT
        exact step0 l a b hO hc late X k (by omega) t (by omega) L0 L1 M0 M1 P0 P1 S n0 n1 s0 s1 hz I (fun I' => ih (k + 1) _ _ _ _ _ _ _ _ _ _ _ _ (by omega) I')
      · have h2 : (k : Int) % 2 = 1 := by omega
        rw [h2] at hT; subst hT
        exact step1 l a b hO hc late X k (by omega) t (by omega) L0 L1 M0 M1 P0 P1 S n0 n1 s0 s1 h2 I (fun I' => ih (k + 1) _ _ _ _ _ _ _ _ _ _ _ _ (by omega) I')
end
theorem ticks_true : Ev (fun k => gamehalllaw3_ticks.f k) true := Ev.of gamehalllaw3_ticks.mono (k := 20) (by decide +kernel)
theorem law (l : List S54) (a b x : Int) (X : List Int) (late : Int) (hlate : -9223372036854775808 ≤ late ∧ late ≤ 9223372036854775807) (hXl : X.length ≤ 17592186044416) : Ev (fun k => gamehalllaw3_ClockRuns.f k l a b x X late) true := by
  have hm0 : (0 : Int) ≤ mn (X.length : Int) 60 := by unfold mn; split <;> omega
  have hm1 : mn (X.length : Int) 60 ≤ (X.length : Int) := by unfold mn; split <;> omega
  have hm2 : mn (X.length : Int) 60 ≤ 60 := by unfold mn; split <;> omega
  unfold gamehalllaw3_ClockRuns.f
  generalize mn (X.length : Int) 60 = m at *
  have hY : (X.take m.toNat).length ≤ 60 := by rw [List.length_take]; omega
  refine Ev.bind ticks_true ?_
  refine Aid.ite (fun _ => ?_) (fun hh => absurd rfl hh)
  refine Aid.ite (fun _ => ?_) (fun hh => absurd hm0 hh)
  refine Aid.ite (fun _ => ?_) (fun hh => absurd hm1 hh)
  refine bind_now rfl ?_
  generalize X.take m.toNat = Y at *
  refine Ev.bind (check_ref l a b) ?_
  have zero : ∀ v : Int, v ≠ 0 → Ev (fun k => gamehalllaw3_ClockRuns.j1 k x Y late v v l a b 0 0 0 0 0 0 0 0 false 0) true := fun v hv => by
    refine Ev.step (fun k => by rw [gamehalllaw3_ClockRuns.j1]) ?_
    refine Aid.ite (fun hh => absurd hh hv) (fun _ => ?_)
    exact Aid.ite (fun _ => Aid.now (by first | decide | (dsimp only; first | omega | decide))) (fun hh => absurd rfl hh)
  by_cases hc : checkE l a b = 0
  · have hO := ok_of l a b hc
    by_cases hx : 0 ≤ x ∧ x ≤ 100000000
    · refine Ev.bind (start_f l a b x hc hx) ?_
      refine Ev.bind (check_code l a b) ?_
      refine Aid.ite (fun _ => ?_) (fun hh => absurd rfl hh)
      refine Aid.ite (fun _ => ?_) (fun hh => absurd hc hh)
      refine Aid.ite (fun hh => absurd hh (by omega)) (fun _ => ?_)
      rw [decide_eq_false (show ¬ x > 100000000 by omega), hc]
      refine Ev.step (fun k => by rw [gamehalllaw3_ClockRuns.j0]) ?_
      refine Aid.ite (fun hh => absurd hh (by first | decide | (dsimp only; first | omega | decide))) (fun _ => ?_)
      refine Ev.step (fun k => by rw [gamehalllaw3_ClockRuns.j1]) ?_
      refine Aid.ite (fun _ => ?_) (fun hh => absurd rfl hh)
      refine Aid.ite (fun _ => ?_) (fun hh => absurd rfl hh)
      have hb := hO.2.2.2 0 (by omega) (by have := hO.2.2.1; omega)
      exact l0_ev l a b hO hc late hlate Y hY Y.length 0 (rd_T54 l 0).f1 (rd_T54 l 0).f1 0 0 0 0 0 x 0 0 0 0 (by omega) ⟨by decide, hx, by omega, by decide, by simp [bud], by simp [bud], by omega, by omega, rfl, rfl, rfl, rfl⟩
    · refine Ev.bind (start_time l a b x hc hx) ?_
      refine Ev.bind (check_code l a b) ?_
      refine Aid.ite (fun _ => ?_) (fun hh => absurd rfl hh)
      refine Aid.ite (fun _ => ?_) (fun hh => absurd hc hh)
      have j0t : Ev (fun k => gamehalllaw3_ClockRuns.j0 k x Y late (checkE l a b) 11 true l a b 0 0 0 0 0 0 0 0 false 0) true := by
        refine Ev.step (fun k => by rw [gamehalllaw3_ClockRuns.j0]) ?_
        exact Aid.ite (fun _ => zero 11 (by first | decide | (dsimp only; first | omega | decide))) (fun hh => absurd rfl hh)
      refine Aid.ite (fun _ => j0t) (fun h0 => ?_)
      rw [decide_eq_true (show x > 100000000 by omega)]
      exact j0t
  · refine Ev.bind (start_bad l a b x _ rfl hc) ?_
    refine Ev.bind (check_code l a b) ?_
    refine Aid.ite (fun _ => ?_) (fun hh => absurd rfl hh)
    refine Aid.ite (fun hh => absurd hh hc) (fun _ => ?_)
    refine Ev.step (fun k => by rw [gamehalllaw3_ClockRuns.j0]) ?_
    exact Aid.ite (fun hh => absurd hh (by first | decide | (dsimp only; first | omega | decide))) (fun _ => zero _ hc)
end Cs
theorem ClockRuns : gamehalllaw3_ClockRuns.Pure := by
  intro x0 a1 l2 a3 _ _ hl h3
  have hb := Aid.wf_i64 h3
  obtain ⟨K, e⟩ := Cs.law x0.f0 x0.f1 x0.f2 a1 l2 a3 hb (by have := hl.1; omega)
  exact ⟨K, e K (Nat.le_refl K)⟩
end Go.Proofs.Ytikijopbgjncbaa.Pure
