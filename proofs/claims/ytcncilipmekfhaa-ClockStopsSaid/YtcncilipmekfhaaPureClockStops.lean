/- ClockStops: for every input the law answers true. -/
import Derived.Test.YtcncilipmekfhaaPClockStopsx7
import Derived.Test.YtcncilipmekfhaaAid
namespace Go.Proofs.Ytcncilipmekfhaa.Pure
open Go.RowKit Go.Proofs.Ytcncilipmekfhaa.PClockStops Go.Proofs.YtcncilipmekfhaaW.PrintWords Go.Proofs.YtcncilipmekfhaaW.PrintLast

set_option linter.unusedSimpArgs false
set_option linter.unusedVariables false
namespace Cs
open Aid
theorem rd91 (xs : List S91) (i : Nat) (h : i < xs.length) : rd_T91 xs (i : Int) = xs[i] := by simp [rd_T91, List.getD_eq_getElem?_getD, h]
/-- the periods, from one on -/
def perE (l : List S91) : Nat → Nat → Int
  | 0, _ => 0
  | d + 1, i => if (rd_T91 l (i : Int)).f0 < 0 ∨ (rd_T91 l (i : Int)).f0 > 400 ∨ (rd_T91 l (i : Int)).f1 < 1 ∨ (rd_T91 l (i : Int)).f1 > 100000000 then 4
      else if ((rd_T91 l (i : Int)).f0 = 0 ↔ d = 0) then perE l d (i + 1) else 3
theorem per_code (l : List S91) (hl : l.length ≤ 5) (a b : Int) : ∀ (d i : Nat), i + d = l.length → Ev (fun k => clock_Check.l0 k l (l.length : Int) (i : Int) l a b) (perE l d i) := by
  intro d
  induction d with
  | zero =>
    intro i hi
    refine Ev.step (fun k => by rw [clock_Check.l0]) ?_
    exact Aid.ite (fun h => absurd h (by omega)) (fun _ => Ev.now _)
  | succ d ih =>
    intro i hi
    have hw := Aside0.mk (show wrap64 ((i : Int) + 1) = ((i + 1 : Nat) : Int) from by rw [w64s (by omega) (by omega)]; omega)
    have hw2 := Aside0.mk (show wrap64 ((l.length : Int) - 1) = (l.length : Int) - 1 from w64 (by omega) (by omega))
    have e := ih (i + 1) (by omega)
    refine Ev.step (fun k => by rw [clock_Check.l0]) ?_
    rw [perE]
    generalize rd_T91 l (i : Int) = p
    refine Aid.ite (fun _ => ?_) (fun h => absurd (show (i : Int) < (l.length : Int) by omega) h)
    refine Aid.ite (fun _ => ?_) (fun h => absurd (show (0 : Int) ≤ (i : Int) by omega) h)
    refine Aid.ite (fun _ => ?_) (fun h => absurd (show (i : Int) < (l.length : Int) by omega) h)
    have main : ∀ c, c = decide (p.f0 < 0 ∨ p.f0 > 400 ∨ p.f1 < 1 ∨ p.f1 > 100000000) → Ev (fun k => clock_Check.j3 k (i : Int) l (l.length : Int) (i : Int) c l a b p.f0 p.f1) (if p.f0 < 0 ∨ p.f0 > 400 ∨ p.f1 < 1 ∨ p.f1 > 100000000 then 4 else if (p.f0 = 0 ↔ d = 0) then perE l d (i + 1) else 3) := by
      intro c hc
      refine Ev.step (fun k => by rw [clock_Check.j3]) ?_
      refine Aid.ite (fun h => ?_) (fun h => ?_)
      · rw [hc] at h; exact now (by rw [if_pos (of_decide_eq_true h)])
      · have h' : ¬ (p.f0 < 0 ∨ p.f0 > 400 ∨ p.f1 < 1 ∨ p.f1 > 100000000) := fun hh => h (by rw [hc]; exact decide_eq_true hh)
        rw [if_neg h', hw2.out, hw.out]
        by_cases hd : (p.f0 = 0 ↔ d = 0)
        · rw [if_pos hd]
          refine Aid.ite (fun hx => ?_) (fun _ => e)
          exfalso
          have : ((p.f0 == 0) = ((i : Int) == (l.length : Int) - 1)) := by
            rw [Bool.eq_iff_iff, beq_iff_eq, beq_iff_eq]; omega
          rw [this] at hx; simp at hx
        · rw [if_neg hd]
          refine Aid.ite (fun _ => Ev.now _) (fun hx => ?_)
          exfalso
          apply hx
          rw [bne_iff_ne]
          intro he
          rw [Bool.eq_iff_iff, beq_iff_eq, beq_iff_eq] at he
          exact hd (by omega)
    refine Aid.ite (fun h => main _ (decide_eq_true (by omega)).symm) (fun _ => Aid.ite (fun h => main _ (decide_eq_true (by omega)).symm) (fun _ => Aid.ite (fun h => main _ (decide_eq_true (by omega)).symm) (fun _ => main _ ?_)))
    congr 1; apply propext; constructor <;> intro <;> omega
theorem per_ref (l : List S91) (hl : l.length ≤ 5) : ∀ (d i : Nat), i + d = l.length → Ev (fun k => gamehallref3_Ruled.l0 k (l.length : Int) l (l.length : Int) (i : Int)) (perE l d i) := by
  intro d
  induction d with
  | zero =>
    intro i hi
    refine Ev.step (fun k => by rw [gamehallref3_Ruled.l0]) ?_
    exact Aid.ite (fun h => absurd h (by omega)) (fun _ => Ev.now _)
  | succ d ih =>
    intro i hi
    have hw := Aside0.mk (show wrap64 ((i : Int) + 1) = ((i + 1 : Nat) : Int) from by rw [w64s (by omega) (by omega)]; omega)
    have hw2 := Aside0.mk (show wrap64 ((l.length : Int) - 1) = (l.length : Int) - 1 from w64 (by omega) (by omega))
    have e := ih (i + 1) (by omega)
    refine Ev.step (fun k => by rw [gamehallref3_Ruled.l0]) ?_
    rw [perE]
    generalize rd_T91 l (i : Int) = p
    refine Aid.ite (fun _ => ?_) (fun h => absurd (show (i : Int) < (l.length : Int) by omega) h)
    refine Aid.ite (fun _ => ?_) (fun h => absurd (show (0 : Int) ≤ (i : Int) by omega) h)
    refine Aid.ite (fun _ => ?_) (fun h => absurd (show (i : Int) < (l.length : Int) by omega) h)
    have main : ∀ c, c = decide (p.f0 < 0 ∨ p.f0 > 400 ∨ p.f1 < 1 ∨ p.f1 > 100000000) → Ev (fun k => gamehallref3_Ruled.j3 k (l.length : Int) (i : Int) l (l.length : Int) (i : Int) c p.f0 p.f1) (if p.f0 < 0 ∨ p.f0 > 400 ∨ p.f1 < 1 ∨ p.f1 > 100000000 then 4 else if (p.f0 = 0 ↔ d = 0) then perE l d (i + 1) else 3) := by
      intro c hc
      refine Ev.step (fun k => by rw [gamehallref3_Ruled.j3]) ?_
      refine Aid.ite (fun h => ?_) (fun h => ?_)
      · rw [hc] at h; exact now (by rw [if_pos (of_decide_eq_true h)])
      · have h' : ¬ (p.f0 < 0 ∨ p.f0 > 400 ∨ p.f1 < 1 ∨ p.f1 > 100000000) := fun hh => h (by rw [hc]; exact decide_eq_true hh)
        rw [if_neg h', hw2.out, hw.out]
        refine Aid.ite (fun h1 => ?_) (fun h1 => ?_)
        · refine Aid.ite (fun h2 => now (by rw [if_neg (by omega)])) (fun h2 => ?_)
          refine Aid.ite (fun h3 => absurd h3 (by omega)) (fun h3 => ?_)
          rw [if_pos (by omega)]; exact e
        · refine Aid.ite (fun h2 => ?_) (fun h2 => absurd (show (i : Int) = (l.length : Int) - 1 by omega) h2)
          refine Aid.ite (fun h3 => ?_) (fun h3 => now (by rw [if_neg (by omega)]))
          rw [if_pos (by omega)]; exact e
    refine Aid.ite (fun h => main _ (decide_eq_true (by omega)).symm) (fun _ => Aid.ite (fun h => main _ (decide_eq_true (by omega)).symm) (fun _ => Aid.ite (fun h => main _ (decide_eq_true (by omega)).symm) (fun _ => main _ ?_)))
    congr 1; apply propext; constructor <;> intro <;> omega
/-- a rule -/
def checkE (l : List S91) (a b : Int) : Int :=
  if ¬ (1 ≤ (l.length : Int) ∧ (l.length : Int) ≤ 5) then 2
  else if ¬ (0 ≤ a ∧ a ≤ 100000000 ∧ 0 ≤ b ∧ b ≤ 100000000) then 4 else perE l l.length 0
theorem check_code (l : List S91) (a b : Int) : Ev (fun k => clock_Check.f k l a b) (checkE l a b) := by
  unfold clock_Check.f
  have main : ∀ c, c = decide (¬ (1 ≤ (l.length : Int) ∧ (l.length : Int) ≤ 5)) → Ev (fun k => clock_Check.j0 k c l a b) (checkE l a b) := by
    intro c hc
    unfold checkE
    refine Ev.step (fun k => by rw [clock_Check.j0]) ?_
    refine Aid.ite (fun h => ?_) (fun h => ?_)
    · rw [hc] at h; exact now (by rw [if_pos (of_decide_eq_true h)])
    · have h' : ¬ ¬ (1 ≤ (l.length : Int) ∧ (l.length : Int) ≤ 5) := fun hh => h (by rw [hc]; exact decide_eq_true hh)
      rw [if_neg h']
      have main2 : ∀ c, c = decide (¬ (0 ≤ a ∧ a ≤ 100000000 ∧ 0 ≤ b ∧ b ≤ 100000000)) → Ev (fun k => clock_Check.j1 k c l a b) (if ¬ (0 ≤ a ∧ a ≤ 100000000 ∧ 0 ≤ b ∧ b ≤ 100000000) then 4 else perE l l.length 0) := by
        intro c hc
        refine Ev.step (fun k => by rw [clock_Check.j1]) ?_
        refine Aid.ite (fun h => ?_) (fun h => ?_)
        · rw [hc] at h; exact now (by rw [if_pos (of_decide_eq_true h)])
        · have h2 : ¬ ¬ (0 ≤ a ∧ a ≤ 100000000 ∧ 0 ≤ b ∧ b ≤ 100000000) := fun hh => h (by rw [hc]; exact decide_eq_true hh)
          rw [if_neg h2]
          exact per_code l (by omega) a b l.length 0 (by omega)
      unfold mn mx
      by_cases hab : a < b
      · rw [if_neg (show ¬ b < a by omega), if_pos hab]
        refine Aid.ite (fun h => main2 _ (decide_eq_true (by omega)).symm) (fun h => main2 _ ?_)
        congr 1; apply propext; constructor <;> intro <;> omega
      · rw [if_neg hab]
        by_cases hba : b < a
        · rw [if_pos hba]
          refine Aid.ite (fun h => main2 _ (decide_eq_true (by omega)).symm) (fun h => main2 _ ?_)
          congr 1; apply propext; constructor <;> intro <;> omega
        · rw [if_neg hba]
          refine Aid.ite (fun h => main2 _ (decide_eq_true (by omega)).symm) (fun h => main2 _ ?_)
          congr 1; apply propext; constructor <;> intro <;> omega
  refine Aid.ite (fun h => main _ (decide_eq_true (by omega)).symm) (fun h => main _ ?_)
  congr 1; apply propext; constructor <;> intro <;> omega
theorem check_ref (l : List S91) (a b : Int) : Ev (fun k => gamehallref3_Ruled.f k l a b) (checkE l a b) := by
  unfold gamehallref3_Ruled.f
  have main : ∀ c, c = decide (¬ (1 ≤ (l.length : Int) ∧ (l.length : Int) ≤ 5)) → Ev (fun k => gamehallref3_Ruled.j0 k (l.length : Int) c l a b) (checkE l a b) := by
    intro c hc
    unfold checkE
    refine Ev.step (fun k => by rw [gamehallref3_Ruled.j0]) ?_
    refine Aid.ite (fun h => ?_) (fun h => ?_)
    · rw [hc] at h; exact now (by rw [if_pos (of_decide_eq_true h)])
    · have h' : ¬ ¬ (1 ≤ (l.length : Int) ∧ (l.length : Int) ≤ 5) := fun hh => h (by rw [hc]; exact decide_eq_true hh)
      rw [if_neg h']
      have main2 : ∀ c, c = decide (¬ (0 ≤ a ∧ a ≤ 100000000 ∧ 0 ≤ b ∧ b ≤ 100000000)) → Ev (fun k => gamehallref3_Ruled.j1 k (l.length : Int) c l a b) (if ¬ (0 ≤ a ∧ a ≤ 100000000 ∧ 0 ≤ b ∧ b ≤ 100000000) then 4 else perE l l.length 0) := by
        intro c hc
        refine Ev.step (fun k => by rw [gamehallref3_Ruled.j1]) ?_
        refine Aid.ite (fun h => ?_) (fun h => ?_)
        · rw [hc] at h; exact now (by rw [if_pos (of_decide_eq_true h)])
        · have h2 : ¬ ¬ (0 ≤ a ∧ a ≤ 100000000 ∧ 0 ≤ b ∧ b ≤ 100000000) := fun hh => h (by rw [hc]; exact decide_eq_true hh)
          rw [if_neg h2]
          exact per_ref l (by omega) l.length 0 (by omega)
      refine Aid.ite (fun h => main2 _ (decide_eq_true (by omega)).symm) (fun _ => Aid.ite (fun h => main2 _ (decide_eq_true (by omega)).symm) (fun _ => Aid.ite (fun h => main2 _ (decide_eq_true (by omega)).symm) (fun _ => main2 _ ?_)))
      congr 1; apply propext; constructor <;> intro <;> omega
  refine Aid.ite (fun h => main _ (decide_eq_true (by omega)).symm) (fun h => main _ ?_)
  congr 1; apply propext; constructor <;> intro <;> omega
/-- the numbers of a clock -/
def okc (n : Int) (L0 L1 M0 M1 P0 P1 T S F : Int) : Prop :=
  (0 ≤ T ∧ T ≤ 1) ∧ (-1 ≤ F ∧ F ≤ 1) ∧ (0 ≤ S ∧ S ≤ 100000000) ∧ ((0 ≤ P0 ∧ P0 < n) ∧ (0 ≤ M0 ∧ M0 ≤ 400) ∧ (0 ≤ L0 ∧ L0 ≤ 100000000000)) ∧ ((0 ≤ P1 ∧ P1 < n) ∧ (0 ≤ M1 ∧ M1 ≤ 400) ∧ (0 ≤ L1 ∧ L1 ≤ 100000000000))
instance (n L0 L1 M0 M1 P0 P1 T S F : Int) : Decidable (okc n L0 L1 M0 M1 P0 P1 T S F) := by unfold okc; infer_instance
section
variable (l : List S91) (a b L0 L1 M0 M1 P0 P1 T S : Int) (Z : Bool) (F : Int)
def validE : Int := if checkE l a b = 0 then (if okc (l.length : Int) L0 L1 M0 M1 P0 P1 T S F then 0 else 4) else checkE l a b
theorem valid_code : Ev (fun k => clock_Valid.f k l a b L0 L1 M0 M1 P0 P1 T S Z F) (validE l a b L0 L1 M0 M1 P0 P1 T S F) := by
  unfold clock_Valid.f validE
  refine Ev.bind (check_code l a b) ?_
  refine Aid.ite (fun h => ?_) (fun h => now (by rw [if_neg h]))
  rw [if_pos h]
  have main : ∀ c, c = decide (¬ ((0 ≤ T ∧ T ≤ 1) ∧ (-1 ≤ F ∧ F ≤ 1) ∧ (0 ≤ S ∧ S ≤ 100000000))) → Ev (fun k => clock_Valid.j0 k c l a b L0 L1 M0 M1 P0 P1 T S Z F) (if okc (l.length : Int) L0 L1 M0 M1 P0 P1 T S F then 0 else 4) := by
    intro c hc
    refine Ev.step (fun k => by rw [clock_Valid.j0]) ?_
    refine Aid.ite (fun h => ?_) (fun h => ?_)
    · rw [hc] at h
      have h := of_decide_eq_true h
      exact now (by rw [if_neg (fun q => by unfold okc at q; omega)])
    · have h' : ¬ ¬ ((0 ≤ T ∧ T ≤ 1) ∧ (-1 ≤ F ∧ F ≤ 1) ∧ (0 ≤ S ∧ S ≤ 100000000)) := fun hh => h (by rw [hc]; exact decide_eq_true hh)
      clear h hc
      refine Ev.step (fun k => by rw [clock_Valid.l0]) ?_
      refine Aid.ite (fun _ => ?_) (fun h => absurd (show (0 : Int) < 2 by decide) h)
      refine Aid.ite (fun _ => ?_) (fun h => absurd (show (0 : Int) ≤ 0 by decide) h)
      refine Aid.ite (fun _ => ?_) (fun h => absurd rfl h)
      refine Aid.ite (fun _ => now (by rw [if_neg (fun q => by unfold okc at q; omega)])) (fun h1 => ?_)
      refine Aid.ite (fun _ => now (by rw [if_neg (fun q => by unfold okc at q; omega)])) (fun h2 => ?_)
      refine Aid.ite (fun _ => now (by rw [if_neg (fun q => by unfold okc at q; omega)])) (fun h3 => ?_)
      refine Aid.ite (fun _ => now (by rw [if_neg (fun q => by unfold okc at q; omega)])) (fun h4 => ?_)
      refine Aid.ite (fun _ => now (by rw [if_neg (fun q => by unfold okc at q; omega)])) (fun h5 => ?_)
      refine Aid.ite (fun _ => now (by rw [if_neg (fun q => by unfold okc at q; omega)])) (fun h6 => ?_)
      rw [show wrap64 (0 + 1) = 1 from w64 (by decide) (by decide)]
      refine Ev.step (fun k => by rw [clock_Valid.l0]) ?_
      refine Aid.ite (fun _ => ?_) (fun h => absurd (show (1 : Int) < 2 by decide) h)
      refine Aid.ite (fun _ => ?_) (fun h => absurd (show (0 : Int) ≤ 1 by decide) h)
      refine Aid.ite (fun h => absurd h (by decide)) (fun _ => ?_)
      refine Aid.ite (fun _ => now (by rw [if_neg (fun q => by unfold okc at q; omega)])) (fun g1 => ?_)
      refine Aid.ite (fun _ => now (by rw [if_neg (fun q => by unfold okc at q; omega)])) (fun g2 => ?_)
      refine Aid.ite (fun _ => now (by rw [if_neg (fun q => by unfold okc at q; omega)])) (fun g3 => ?_)
      refine Aid.ite (fun _ => now (by rw [if_neg (fun q => by unfold okc at q; omega)])) (fun g4 => ?_)
      refine Aid.ite (fun _ => now (by rw [if_neg (fun q => by unfold okc at q; omega)])) (fun g5 => ?_)
      refine Aid.ite (fun _ => now (by rw [if_neg (fun q => by unfold okc at q; omega)])) (fun g6 => ?_)
      rw [show wrap64 (1 + 1) = 2 from w64 (by decide) (by decide)]
      refine Ev.step (fun k => by rw [clock_Valid.l0]) ?_
      exact Aid.ite (fun h => absurd h (by decide)) (fun _ => now (by rw [if_pos (by unfold okc; omega)]))
  refine Aid.ite (fun h => main _ (decide_eq_true (by omega)).symm) (fun _ => Aid.ite (fun h => main _ (decide_eq_true (by omega)).symm) (fun _ => Aid.ite (fun h => main _ (decide_eq_true (by omega)).symm) (fun _ => Aid.ite (fun h => main _ (decide_eq_true (by omega)).symm) (fun _ => Aid.ite (fun h => main _ (decide_eq_true (by omega)).symm) (fun _ => main _ ?_)))))
  congr 1; apply propext; constructor <;> intro <;> omega
theorem clocked_ev : Ev (fun k => gamehalllaw3_clocked.f k l a b L0 L1 M0 M1 P0 P1 T S Z F) (decide (okc (l.length : Int) L0 L1 M0 M1 P0 P1 T S F)) := by
  have w1 := Aside0.mk (show wrap64 (0 + 1) = 1 from w64 (by decide) (by decide))
  have w2 := Aside0.mk (show wrap64 (1 + 1) = 2 from w64 (by decide) (by decide))
  have e2 : ∀ c : Bool, Ev (fun k => gamehalllaw3_clocked.l0 k c 2 l a b L0 L1 M0 M1 P0 P1 T S Z F) c := by
    intro c
    refine Ev.step (fun k => by rw [gamehalllaw3_clocked.l0]) ?_
    exact Aid.ite (fun h => absurd h (by decide)) (fun _ => Ev.now _)
  have e1 : ∀ c r : Bool, r = (c && decide ((0 ≤ P1 ∧ P1 < (l.length : Int)) ∧ (0 ≤ M1 ∧ M1 ≤ 400) ∧ (0 ≤ L1 ∧ L1 ≤ 100000000000))) → Ev (fun k => gamehalllaw3_clocked.l0 k c 1 l a b L0 L1 M0 M1 P0 P1 T S Z F) r := by
    intro c r hr
    refine Ev.step (fun k => by rw [gamehalllaw3_clocked.l0]) ?_
    rw [w2.out]
    refine Aid.ite (fun _ => ?_) (fun h => absurd (show (1 : Int) < 2 by decide) h)
    refine Aid.ite (fun hc => ?_) (fun hc => ?_)
    · rw [hc, Bool.true_and] at hr
      refine Aid.ite (fun _ => ?_) (fun h => absurd (show (0 : Int) ≤ 1 by decide) h)
      refine Aid.ite (fun h => absurd h (by decide)) (fun _ => ?_)
      refine Aid.ite (fun g1 => ?_) (fun g1 => ev_eq (e2 _) (by rw [hr]; exact (decide_eq_false (by omega)).symm))
      refine Aid.ite (fun g2 => ?_) (fun g2 => ev_eq (e2 _) (by rw [hr]; exact (decide_eq_false (by omega)).symm))
      refine Aid.ite (fun g3 => ?_) (fun g3 => ev_eq (e2 _) (by rw [hr]; exact (decide_eq_false (by omega)).symm))
      refine Aid.ite (fun g4 => ?_) (fun g4 => ev_eq (e2 _) (by rw [hr]; exact (decide_eq_false (by omega)).symm))
      refine Aid.ite (fun g5 => ?_) (fun g5 => ev_eq (e2 _) (by rw [hr]; exact (decide_eq_false (by omega)).symm))
      refine ev_eq (e2 _) ?_
      rw [hr]; congr 1; apply propext; constructor <;> intro <;> omega
    · refine ev_eq (e2 _) ?_
      rw [hr, show c = false by simpa using hc]; rfl
  have e0 : ∀ c r : Bool, r = (c && decide (((0 ≤ P0 ∧ P0 < (l.length : Int)) ∧ (0 ≤ M0 ∧ M0 ≤ 400) ∧ (0 ≤ L0 ∧ L0 ≤ 100000000000)) ∧ ((0 ≤ P1 ∧ P1 < (l.length : Int)) ∧ (0 ≤ M1 ∧ M1 ≤ 400) ∧ (0 ≤ L1 ∧ L1 ≤ 100000000000)))) → Ev (fun k => gamehalllaw3_clocked.j0 k c l a b L0 L1 M0 M1 P0 P1 T S Z F) r := by
    intro c r hr
    refine Ev.step (fun k => by rw [gamehalllaw3_clocked.j0]) ?_
    refine Ev.step (fun k => by rw [gamehalllaw3_clocked.l0]) ?_
    rw [w1.out]
    have bad : ¬ ((0 ≤ P0 ∧ P0 < (l.length : Int)) ∧ (0 ≤ M0 ∧ M0 ≤ 400) ∧ (0 ≤ L0 ∧ L0 ≤ 100000000000)) → r = (false && decide ((0 ≤ P1 ∧ P1 < (l.length : Int)) ∧ (0 ≤ M1 ∧ M1 ≤ 400) ∧ (0 ≤ L1 ∧ L1 ≤ 100000000000))) := by
      intro h
      rw [hr, decide_eq_false (fun q => h q.1), Bool.and_false, Bool.false_and]
    refine Aid.ite (fun _ => ?_) (fun h => absurd (show (0 : Int) < 2 by decide) h)
    refine Aid.ite (fun hc => ?_) (fun hc => ?_)
    · refine Aid.ite (fun _ => ?_) (fun h => absurd (show (0 : Int) ≤ 0 by decide) h)
      refine Aid.ite (fun _ => ?_) (fun h => absurd rfl h)
      refine Aid.ite (fun g1 => ?_) (fun g1 => e1 _ _ (bad (by omega)))
      refine Aid.ite (fun g2 => ?_) (fun g2 => e1 _ _ (bad (by omega)))
      refine Aid.ite (fun g3 => ?_) (fun g3 => e1 _ _ (bad (by omega)))
      refine Aid.ite (fun g4 => ?_) (fun g4 => e1 _ _ (bad (by omega)))
      refine Aid.ite (fun g5 => ?_) (fun g5 => e1 _ _ (bad (by omega)))
      refine e1 _ _ ?_
      rw [hr, hc, Bool.true_and, ← Bool.decide_and]
      congr 1; apply propext; constructor <;> intro <;> omega
    · refine e1 _ _ ?_
      rw [hr, show c = false by simpa using hc]; rfl
  unfold gamehalllaw3_clocked.f
  have main : ∀ c, c = decide ((0 ≤ T ∧ T ≤ 1) ∧ (-1 ≤ F ∧ F ≤ 1) ∧ (0 ≤ S ∧ S ≤ 100000000)) → Ev (fun k => gamehalllaw3_clocked.j0 k c l a b L0 L1 M0 M1 P0 P1 T S Z F) (decide (okc (l.length : Int) L0 L1 M0 M1 P0 P1 T S F)) := by
    intro c hc
    refine e0 _ _ ?_
    rw [hc, ← Bool.decide_and]
    apply decide_eq_decide.mpr
    unfold okc
    constructor <;> intro <;> omega
  have rest : Ev (fun k => if F ≥ -1 then (if F ≤ 1 then (if S ≥ 0 then gamehalllaw3_clocked.j0 k (decide (S ≤ 100000000)) l a b L0 L1 M0 M1 P0 P1 T S Z F else gamehalllaw3_clocked.j0 k false l a b L0 L1 M0 M1 P0 P1 T S Z F) else gamehalllaw3_clocked.j0 k false l a b L0 L1 M0 M1 P0 P1 T S Z F) else gamehalllaw3_clocked.j0 k false l a b L0 L1 M0 M1 P0 P1 T S Z F) (decide (okc (l.length : Int) L0 L1 M0 M1 P0 P1 T S F)) ∨ ¬ (T = 0 ∨ T = 1) := by
    by_cases hT : T = 0 ∨ T = 1
    · left
      refine Aid.ite (fun h1 => ?_) (fun h1 => main _ (decide_eq_false (by omega)).symm)
      refine Aid.ite (fun h2 => ?_) (fun h2 => main _ (decide_eq_false (by omega)).symm)
      refine Aid.ite (fun h3 => ?_) (fun h3 => main _ (decide_eq_false (by omega)).symm)
      refine main _ ?_
      congr 1; apply propext; constructor <;> intro <;> omega
    · exact .inr hT
  rcases rest with rest | hT
  · refine Aid.ite (fun _ => rest) (fun h0 => Aid.ite (fun _ => rest) (fun h1 => main _ ?_))
    exact (decide_eq_false (by omega)).symm
  · exact Aid.ite (fun h => absurd (.inl h) hT) (fun h0 => Aid.ite (fun h => absurd (.inr h) hT) (fun h1 => main _ (decide_eq_false (by omega)).symm))
/-- what a player has used -/
def usedE (now : Int) : Int := if Z = true then 0 else if now - S ≤ b then 0 else now - S - b
theorem used_f (now : Int) (hb : 0 ≤ b ∧ b ≤ 100000000) (hS : 0 ≤ S ∧ S ≤ 100000000) (hn : S ≤ now ∧ now ≤ 100000000) (L0 L1 M0 M1 P0 P1 T F : Int) : clock_used.f l a b L0 L1 M0 M1 P0 P1 T S Z F now = some (usedE b S Z now) := by
  unfold clock_used.f usedE
  split
  · rfl
  · rw [w64 (n := now - S) (by omega) (by omega), w64 (n := now - S - b) (by omega) (by omega)]
    unfold mx
    congr 1
    repeat' split
    all_goals omega
theorem look_bad (now : Int) (v : Int) (hv : validE l a b L0 L1 M0 M1 P0 P1 T S F = v) (h : v ≠ 0) : Ev (fun k => clock_Look.f k l a b L0 L1 M0 M1 P0 P1 T S Z F now) (0, 0, 0, 0, 0, 0, 0, 0, false, 0, v) := by
  unfold clock_Look.f
  refine Ev.bind (ev_eq (valid_code l a b L0 L1 M0 M1 P0 P1 T S Z F) hv) ?_
  exact Aid.ite (fun hh => absurd hh h) (fun _ => Ev.now _)
theorem look_time (now : Int) (hv : validE l a b L0 L1 M0 M1 P0 P1 T S F = 0) (h : now < S ∨ now > 100000000) : Ev (fun k => clock_Look.f k l a b L0 L1 M0 M1 P0 P1 T S Z F now) (0, 0, 0, 0, 0, 0, 0, 0, false, 0, 11) := by
  have jt : Ev (fun k => clock_Look.j0 k now true l a b L0 L1 M0 M1 P0 P1 T S Z F) (0, 0, 0, 0, 0, 0, 0, 0, false, 0, 11) := Ev.step (fun k => by rw [clock_Look.j0]) (Aid.ite (fun _ => Ev.now _) (fun hh => absurd rfl hh))
  unfold clock_Look.f
  refine Ev.bind (ev_eq (valid_code l a b L0 L1 M0 M1 P0 P1 T S Z F) hv) ?_
  refine Aid.ite (fun _ => ?_) (fun hh => absurd rfl hh)
  refine Aid.ite (fun _ => jt) (fun hh => ?_)
  rw [decide_eq_true (show now > 100000000 by omega)]
  exact jt
theorem valid0 (hv : validE l a b L0 L1 M0 M1 P0 P1 T S F = 0) : checkE l a b = 0 ∧ (0 ≤ b ∧ b ≤ 100000000) ∧ okc (l.length : Int) L0 L1 M0 M1 P0 P1 T S F := by
  unfold validE at hv
  by_cases hc : checkE l a b = 0
  · rw [if_pos hc] at hv
    refine ⟨hc, ?_, ?_⟩
    · unfold checkE at hc
      split at hc
      · exact absurd hc (by decide)
      split at hc
      · exact absurd hc (by decide)
      · omega
    · by_cases ho : okc (l.length : Int) L0 L1 M0 M1 P0 P1 T S F
      · exact ho
      · rw [if_neg ho] at hv; exact absurd hv (by decide)
  · rw [if_neg hc] at hv; exact absurd hv hc
theorem validE_of (hc : checkE l a b = 0) (ho : okc (l.length : Int) L0 L1 M0 M1 P0 P1 T S F) : validE l a b L0 L1 M0 M1 P0 P1 T S F = 0 := by
  unfold validE; rw [if_pos hc, if_pos ho]
/-- a clock that is looked at in time, and whose flag does not fall -/
theorem look_stays (now : Int) (hv : validE l a b L0 L1 M0 M1 P0 P1 T S F = 0) (h : S ≤ now ∧ now ≤ 100000000) (hf : 0 ≤ F ∨ (T = 0 ∧ usedE b S Z now ≤ L0) ∨ (T = 1 ∧ usedE b S Z now ≤ L1)) :
    Ev (fun k => clock_Look.f k l a b L0 L1 M0 M1 P0 P1 T S Z F now) (L0, L1, M0, M1, P0, P1, T, S, Z, F, 0) := by
  obtain ⟨h1, h2, h3⟩ := valid0 l a b L0 L1 M0 M1 P0 P1 T S F hv
  unfold okc at h3
  have hu := used_f l a b S Z now h2 h3.2.2.1 h L0 L1 M0 M1 P0 P1 T F
  generalize usedE b S Z now = u at hf hu
  unfold clock_Look.f
  refine Ev.bind (ev_eq (valid_code l a b L0 L1 M0 M1 P0 P1 T S Z F) hv) ?_
  refine Aid.ite (fun _ => ?_) (fun hh => absurd rfl hh)
  refine Aid.ite (fun hh => absurd hh (by omega)) (fun _ => ?_)
  rw [decide_eq_false (show ¬ now > 100000000 by omega)]
  refine Ev.step (fun k => by rw [clock_Look.j0]) ?_
  refine Aid.ite (fun hh => absurd hh (by decide)) (fun _ => ?_)
  refine Aid.ite (fun hF => ?_) (fun _ => Ev.now _)
  refine bind_now hu ?_
  refine Aid.ite (fun _ => ?_) (fun hh => absurd (show 0 ≤ T by omega) hh)
  refine Aid.ite (fun _ => ?_) (fun hh => absurd (show T < 2 by omega) hh)
  refine Aid.ite (fun hT => ?_) (fun hT => ?_)
  · exact Aid.ite (fun hh => absurd hh (by omega)) (fun _ => Ev.now _)
  · exact Aid.ite (fun hh => absurd hh (by omega)) (fun _ => Ev.now _)
/-- a clock whose flag falls -/
theorem look_falls (now : Int) (hv : validE l a b L0 L1 M0 M1 P0 P1 T S F = 0) (h : S ≤ now ∧ now ≤ 100000000) (hF : F < 0) (hf : (T = 0 ∧ L0 < usedE b S Z now) ∨ (T = 1 ∧ L1 < usedE b S Z now)) :
    ∃ x0 x1 : Int, Ev (fun k => clock_Look.f k l a b L0 L1 M0 M1 P0 P1 T S Z F now) (x0, x1, M0, M1, P0, P1, T, S, Z, T, 0) := by
  obtain ⟨h1, h2, h3⟩ := valid0 l a b L0 L1 M0 M1 P0 P1 T S F hv
  unfold okc at h3
  have hu := used_f l a b S Z now h2 h3.2.2.1 h L0 L1 M0 M1 P0 P1 T F
  generalize usedE b S Z now = u at hf hu
  have go : ∀ r, Ev (fun k => clock_Look.j0 k now false l a b L0 L1 M0 M1 P0 P1 T S Z F) r → Ev (fun k => clock_Look.f k l a b L0 L1 M0 M1 P0 P1 T S Z F now) r := by
    intro r e
    unfold clock_Look.f
    refine Ev.bind (ev_eq (valid_code l a b L0 L1 M0 M1 P0 P1 T S Z F) hv) ?_
    refine Aid.ite (fun _ => ?_) (fun hh => absurd rfl hh)
    refine Aid.ite (fun hh => absurd hh (by omega)) (fun _ => ?_)
    rw [decide_eq_false (show ¬ now > 100000000 by omega)]
    exact e
  rcases hf with ⟨hT, hlt⟩ | ⟨hT, hlt⟩
  · refine ⟨0, L1, go _ (Ev.step (fun k => by rw [clock_Look.j0]) ?_)⟩
    refine Aid.ite (fun hh => absurd hh (by decide)) (fun _ => ?_)
    refine Aid.ite (fun _ => ?_) (fun hh => absurd hF hh)
    refine bind_now hu ?_
    refine Aid.ite (fun _ => ?_) (fun hh => absurd (show 0 ≤ T by omega) hh)
    refine Aid.ite (fun _ => ?_) (fun hh => absurd (show T < 2 by omega) hh)
    refine Aid.ite (fun _ => ?_) (fun hh => absurd hT hh)
    exact Aid.ite (fun _ => Ev.now _) (fun hh => absurd hlt hh)
  · refine ⟨L0, 0, go _ (Ev.step (fun k => by rw [clock_Look.j0]) ?_)⟩
    refine Aid.ite (fun hh => absurd hh (by decide)) (fun _ => ?_)
    refine Aid.ite (fun _ => ?_) (fun hh => absurd hF hh)
    refine bind_now hu ?_
    refine Aid.ite (fun _ => ?_) (fun hh => absurd (show 0 ≤ T by omega) hh)
    refine Aid.ite (fun _ => ?_) (fun hh => absurd (show T < 2 by omega) hh)
    refine Aid.ite (fun hh => absurd hh (by omega)) (fun _ => ?_)
    exact Aid.ite (fun _ => Ev.now _) (fun hh => absurd hlt hh)
theorem stop_bad (now v : Int) (hv : validE l a b L0 L1 M0 M1 P0 P1 T S F = v) (h : v ≠ 0) : Ev (fun k => clock_Stop.f k l a b L0 L1 M0 M1 P0 P1 T S Z F now) (0, 0, 0, 0, 0, 0, 0, 0, false, 0, v) := by
  unfold clock_Stop.f
  refine Ev.bind (look_bad l a b L0 L1 M0 M1 P0 P1 T S Z F now v hv h) ?_
  exact Aid.ite (fun hh => absurd hh h) (fun _ => Ev.now _)
theorem stop_time (now : Int) (hv : validE l a b L0 L1 M0 M1 P0 P1 T S F = 0) (h : now < S ∨ now > 100000000) : Ev (fun k => clock_Stop.f k l a b L0 L1 M0 M1 P0 P1 T S Z F now) (0, 0, 0, 0, 0, 0, 0, 0, false, 0, 11) := by
  unfold clock_Stop.f
  refine Ev.bind (look_time l a b L0 L1 M0 M1 P0 P1 T S Z F now hv h) ?_
  exact Aid.ite (fun hh => absurd hh (by decide)) (fun _ => Ev.now _)
theorem stop_fallen (now : Int) (hv : validE l a b L0 L1 M0 M1 P0 P1 T S F = 0) (h : S ≤ now ∧ now ≤ 100000000) (hF : 0 ≤ F) : Ev (fun k => clock_Stop.f k l a b L0 L1 M0 M1 P0 P1 T S Z F now) (0, 0, 0, 0, 0, 0, 0, 0, false, 0, 14) := by
  unfold clock_Stop.f
  refine Ev.bind (look_stays l a b L0 L1 M0 M1 P0 P1 T S Z F now hv h (.inl hF)) ?_
  exact Aid.ite (fun _ => Aid.ite (fun _ => Ev.now _) (fun hh => absurd hF hh)) (fun hh => absurd rfl hh)
theorem stop_falls (now : Int) (hv : validE l a b L0 L1 M0 M1 P0 P1 T S F = 0) (h : S ≤ now ∧ now ≤ 100000000) (hF : F < 0) (hf : (T = 0 ∧ L0 < usedE b S Z now) ∨ (T = 1 ∧ L1 < usedE b S Z now)) : Ev (fun k => clock_Stop.f k l a b L0 L1 M0 M1 P0 P1 T S Z F now) (0, 0, 0, 0, 0, 0, 0, 0, false, 0, 14) := by
  obtain ⟨x0, x1, e⟩ := look_falls l a b L0 L1 M0 M1 P0 P1 T S Z F now hv h hF hf
  have hT : 0 ≤ T := by rcases hf with ⟨q, _⟩ | ⟨q, _⟩ <;> omega
  unfold clock_Stop.f
  refine Ev.bind e ?_
  exact Aid.ite (fun _ => Aid.ite (fun _ => Ev.now _) (fun hh => absurd hT hh)) (fun hh => absurd rfl hh)
theorem stays_of (hv : validE l a b L0 L1 M0 M1 P0 P1 T S F = 0) (now : Int) : 0 ≤ F ∨ (T = 0 ∧ usedE b S true now ≤ L0) ∨ (T = 1 ∧ usedE b S true now ≤ L1) := by
  obtain ⟨h1, h2, h3⟩ := valid0 l a b L0 L1 M0 M1 P0 P1 T S F hv
  unfold okc at h3
  have hu : usedE b S true now = 0 := if_pos rfl
  rw [hu]
  omega
theorem stop_stopped (now : Int) (hv : validE l a b L0 L1 M0 M1 P0 P1 T S F = 0) (h : S ≤ now ∧ now ≤ 100000000) (hF : F < 0) : Ev (fun k => clock_Stop.f k l a b L0 L1 M0 M1 P0 P1 T S true F now) (0, 0, 0, 0, 0, 0, 0, 0, false, 0, 10) := by
  unfold clock_Stop.f
  refine Ev.bind (look_stays l a b L0 L1 M0 M1 P0 P1 T S true F now hv h (stays_of l a b L0 L1 M0 M1 P0 P1 T S F hv now)) ?_
  exact Aid.ite (fun _ => Aid.ite (fun hh => absurd hF (Int.not_lt.mpr hh)) (fun _ => Aid.ite (fun _ => Ev.now _) (fun hh => absurd rfl hh))) (fun hh => absurd rfl hh)
theorem stop_run0 (now : Int) (hv : validE l a b L0 L1 M0 M1 P0 P1 T S F = 0) (h : S ≤ now ∧ now ≤ 100000000) (hF : F < 0) (hT : T = 0) (hu : usedE b S false now ≤ L0) : Ev (fun k => clock_Stop.f k l a b L0 L1 M0 M1 P0 P1 T S false F now) (wrap64 (L0 - usedE b S false now), L1, M0, M1, P0, P1, T, now, true, F, 0) := by
  obtain ⟨h1, h2, h3⟩ := valid0 l a b L0 L1 M0 M1 P0 P1 T S F hv
  unfold okc at h3
  unfold clock_Stop.f
  refine Ev.bind (look_stays l a b L0 L1 M0 M1 P0 P1 T S false F now hv h (.inr (.inl ⟨hT, hu⟩))) ?_
  refine Aid.ite (fun _ => ?_) (fun hh => absurd rfl hh)
  refine Aid.ite (fun hh => absurd hF (Int.not_lt.mpr hh)) (fun _ => ?_)
  refine Aid.ite (fun hh => absurd (show false = true from hh) (by decide)) (fun _ => ?_)
  refine Aid.ite (fun _ => ?_) (fun hh => absurd (show 0 ≤ T by omega) hh)
  refine Aid.ite (fun _ => ?_) (fun hh => absurd (show T < 2 by omega) hh)
  refine Aid.ite (fun _ => ?_) (fun hh => absurd hT hh)
  exact bind_now (used_f l a b S false now h2 h3.2.2.1 h L0 L1 M0 M1 P0 P1 T F) (Ev.now _)
theorem stop_run1 (now : Int) (hv : validE l a b L0 L1 M0 M1 P0 P1 T S F = 0) (h : S ≤ now ∧ now ≤ 100000000) (hF : F < 0) (hT : T = 1) (hu : usedE b S false now ≤ L1) : Ev (fun k => clock_Stop.f k l a b L0 L1 M0 M1 P0 P1 T S false F now) (L0, wrap64 (L1 - usedE b S false now), M0, M1, P0, P1, T, now, true, F, 0) := by
  obtain ⟨h1, h2, h3⟩ := valid0 l a b L0 L1 M0 M1 P0 P1 T S F hv
  unfold okc at h3
  unfold clock_Stop.f
  refine Ev.bind (look_stays l a b L0 L1 M0 M1 P0 P1 T S false F now hv h (.inr (.inr ⟨hT, hu⟩))) ?_
  refine Aid.ite (fun _ => ?_) (fun hh => absurd rfl hh)
  refine Aid.ite (fun hh => absurd hF (Int.not_lt.mpr hh)) (fun _ => ?_)
  refine Aid.ite (fun hh => absurd (show false = true from hh) (by decide)) (fun _ => ?_)
  refine Aid.ite (fun _ => ?_) (fun hh => absurd (show 0 ≤ T by omega) hh)
  refine Aid.ite (fun _ => ?_) (fun hh => absurd (show T < 2 by omega) hh)
  refine Aid.ite (fun hh => absurd (show T = 0 from hh) (by omega)) (fun _ => ?_)
  exact bind_now (used_f l a b S false now h2 h3.2.2.1 h L0 L1 M0 M1 P0 P1 T F) (Ev.now _)
theorem go_fallen (now : Int) (hv : validE l a b L0 L1 M0 M1 P0 P1 T S F = 0) (h : S ≤ now ∧ now ≤ 100000000) (hF : 0 ≤ F) : Ev (fun k => clock_Go.f k l a b L0 L1 M0 M1 P0 P1 T S Z F now) (0, 0, 0, 0, 0, 0, 0, 0, false, 0, 14) := by
  unfold clock_Go.f
  refine Ev.bind (look_stays l a b L0 L1 M0 M1 P0 P1 T S Z F now hv h (.inl hF)) ?_
  exact Aid.ite (fun _ => Aid.ite (fun _ => Ev.now _) (fun hh => absurd hF hh)) (fun hh => absurd rfl hh)
theorem go_stopped (now : Int) (hv : validE l a b L0 L1 M0 M1 P0 P1 T S F = 0) (h : S ≤ now ∧ now ≤ 100000000) (hF : F < 0) : Ev (fun k => clock_Go.f k l a b L0 L1 M0 M1 P0 P1 T S true F now) (L0, L1, M0, M1, P0, P1, T, now, false, F, 0) := by
  unfold clock_Go.f
  refine Ev.bind (look_stays l a b L0 L1 M0 M1 P0 P1 T S true F now hv h (stays_of l a b L0 L1 M0 M1 P0 P1 T S F hv now)) ?_
  exact Aid.ite (fun _ => Aid.ite (fun hh => absurd hF (Int.not_lt.mpr hh)) (fun _ => Aid.ite (fun _ => Ev.now _) (fun hh => absurd rfl hh))) (fun hh => absurd rfl hh)
theorem j6t (x3 : Int) : Ev (fun k => gamehalllaw3_ClockStops.j6 k x3 0 true l a b L0 L1 M0 M1 P0 P1 T S Z F L0 L1 M0 M1 P0 P1 T S Z F) true :=
  Ev.step (fun k => by rw [gamehalllaw3_ClockStops.j6]) (Aid.ite (fun _ => Aid.ite (fun _ => now (by simp)) (fun h => absurd rfl h)) (fun h => absurd rfl h))
theorem j6f (x3 : Int) (hv : validE l a b L0 L1 M0 M1 P0 P1 T S F = 0) (h : S ≤ x3 ∧ x3 ≤ 100000000) (hF : F < 0) : Ev (fun k => gamehalllaw3_ClockStops.j6 k x3 0 false l a b L0 L1 M0 M1 P0 P1 T S true F L0 L1 M0 M1 P0 P1 T S true F) true := by
  refine Ev.step (fun k => by rw [gamehalllaw3_ClockStops.j6]) ?_
  refine Aid.ite (fun h => absurd h (by decide)) (fun _ => ?_)
  refine Ev.bind (look_stays l a b L0 L1 M0 M1 P0 P1 T S true F x3 hv h (stays_of l a b L0 L1 M0 M1 P0 P1 T S F hv x3)) ?_
  refine Ev.bind (go_stopped l a b L0 L1 M0 M1 P0 P1 T S F x3 hv h hF) ?_
  refine Aid.ite (fun _ => ?_) (fun hh => absurd rfl hh)
  refine Aid.ite (fun _ => ?_) (fun hh => absurd (by simp) hh)
  exact Aid.ite (fun _ => now (by simp)) (fun hh => absurd rfl hh)
theorem j5ok (x2 x3 : Int) (hv : validE l a b L0 L1 M0 M1 P0 P1 T x2 F = 0) (hF : F < 0) : Ev (fun k => gamehalllaw3_ClockStops.j5 k x2 x3 0 l a b L0 L1 M0 M1 P0 P1 T S Z F L0 L1 M0 M1 P0 P1 T x2 true F) true := by
  refine Ev.step (fun k => by rw [gamehalllaw3_ClockStops.j5]) ?_
  refine Aid.ite (fun _ => ?_) (fun hh => absurd rfl hh)
  refine Aid.ite (fun hh => absurd hh (by simp)) (fun _ => ?_)
  refine Aid.ite (fun _ => j6t l a b L0 L1 M0 M1 P0 P1 T x2 true F x3) (fun h2 => ?_)
  by_cases h3 : x3 > 100000000
  · rw [decide_eq_true h3]; exact j6t l a b L0 L1 M0 M1 P0 P1 T x2 true F x3
  · rw [decide_eq_false h3]; exact j6f l a b L0 L1 M0 M1 P0 P1 T x2 F x3 hv (by omega) hF
theorem j4t (x2 x3 u : Int) : Ev (fun k => gamehalllaw3_ClockStops.j4 k x2 x3 14 u true l a b L0 L1 M0 M1 P0 P1 T S Z F 0 0 0 0 0 0 0 0 false 0) true :=
  Ev.step (fun k => by rw [gamehalllaw3_ClockStops.j4]) (Aid.ite (fun _ => Aid.ite (fun _ => now (by simp)) (fun h => absurd rfl h)) (fun h => absurd rfl h))
theorem one {α : Type} {g : Nat → Option α} {x y : α} (h : Ev g x) (h' : Ev g y) : x = y := by
  obtain ⟨K, e⟩ := h
  obtain ⟨K', e'⟩ := h'
  exact Option.some.inj ((e (K + K') (by omega)).symm.trans (e' (K + K') (by omega)))
theorem j3ok (x2 x3 : Int) (r : Int × Int × Int × Int × Int × Int × Int × Int × Bool × Int × Int) (hv : validE l a b L0 L1 M0 M1 P0 P1 T S F = 0) (h : S ≤ x2 ∧ x2 ≤ 100000000)
    (hs : Ev (fun k => clock_Stop.f k l a b L0 L1 M0 M1 P0 P1 T S Z F x2) r) :
    Ev (fun k => gamehalllaw3_ClockStops.j3 k x2 x3 r.2.2.2.2.2.2.2.2.2.2 0 l a b L0 L1 M0 M1 P0 P1 T S Z F r.1 r.2.1 r.2.2.1 r.2.2.2.1 r.2.2.2.2.1 r.2.2.2.2.2.1 r.2.2.2.2.2.2.1 r.2.2.2.2.2.2.2.1 r.2.2.2.2.2.2.2.2.1 r.2.2.2.2.2.2.2.2.2.1) true := by
  obtain ⟨h1, h2, h3⟩ := valid0 l a b L0 L1 M0 M1 P0 P1 T S F hv
  have h3' := h3
  unfold okc at h3
  refine Ev.step (fun k => by rw [gamehalllaw3_ClockStops.j3]) ?_
  refine Aid.ite (fun _ => ?_) (fun hh => absurd rfl hh)
  refine Aid.ite (fun hZ => ?_) (fun hZ => ?_)
  · subst hZ
    by_cases hF : 0 ≤ F
    · have e := one hs (stop_fallen l a b L0 L1 M0 M1 P0 P1 T S true F x2 hv h hF)
      subst e
      dsimp only
      refine Ev.bind (go_fallen l a b L0 L1 M0 M1 P0 P1 T S true F x2 hv h hF) ?_
      exact Aid.ite (fun _ => Aid.ite (fun _ => now (by simp)) (fun hh => absurd rfl hh)) (fun hh => absurd hF hh)
    · have e := one hs (stop_stopped l a b L0 L1 M0 M1 P0 P1 T S F x2 hv h (by omega))
      subst e
      dsimp only
      refine Ev.bind (go_stopped l a b L0 L1 M0 M1 P0 P1 T S F x2 hv h (by omega)) ?_
      refine Aid.ite (fun hh => absurd hh hF) (fun _ => ?_)
      refine Aid.ite (fun _ => ?_) (fun hh => absurd rfl hh)
      exact Aid.ite (fun _ => now (by simp)) (fun hh => absurd rfl hh)
  · have hZ' : Z = false := by simpa using hZ
    subst hZ'
    have hsp : gamehallref3_Spent.f l a b (wrap64 (x2 - S)) = some (usedE b S false x2) := by
      unfold gamehallref3_Spent.f usedE
      rw [w64 (n := x2 - S) (by omega) (by omega), if_neg (show ¬ (false = true) by decide)]
      split
      · rfl
      · rw [w64 (n := x2 - S - b) (by omega) (by omega)]
    have hub : 0 ≤ usedE b S false x2 := by
      unfold usedE
      rw [if_neg (show ¬ (false = true) by decide)]
      split <;> omega
    refine bind_now hsp ?_
    by_cases hF : 0 ≤ F
    · have e := one hs (stop_fallen l a b L0 L1 M0 M1 P0 P1 T S false F x2 hv h hF)
      subst e
      dsimp only
      exact Aid.ite (fun _ => j4t l a b L0 L1 M0 M1 P0 P1 T S false F x2 x3 _) (fun hh => absurd hF hh)
    have hF' : F < 0 := by omega
    refine Aid.ite (fun hh => absurd hh hF) (fun _ => ?_)
    refine Aid.ite (fun _ => ?_) (fun hh => absurd (show 0 ≤ T by omega) hh)
    refine Aid.ite (fun _ => ?_) (fun hh => absurd (show T < 2 by omega) hh)
    refine Aid.ite (fun hT => ?_) (fun hT => ?_)
    · by_cases hu : usedE b S false x2 > L0
      · have e := one hs (stop_falls l a b L0 L1 M0 M1 P0 P1 T S false F x2 hv h hF' (.inl ⟨hT, hu⟩))
        subst e
        dsimp only
        rw [decide_eq_true hu]
        exact j4t l a b L0 L1 M0 M1 P0 P1 T S false F x2 x3 _
      · have e := one hs (stop_run0 l a b L0 L1 M0 M1 P0 P1 T S F x2 hv h hF' hT (by omega))
        rw [w64 (n := L0 - usedE b S false x2) (by omega) (by omega)] at e
        subst e
        dsimp only
        rw [decide_eq_false hu]
        refine Ev.step (fun k => by rw [gamehalllaw3_ClockStops.j4]) ?_
        refine Aid.ite (fun hh => absurd hh (by decide)) (fun _ => ?_)
        refine Aid.ite (fun _ => ?_) (fun hh => absurd (show 0 ≤ T by omega) hh)
        refine Aid.ite (fun _ => ?_) (fun hh => absurd (show T < 2 by omega) hh)
        refine Aid.ite (fun _ => ?_) (fun hh => absurd hT hh)
        rw [w64 (n := L0 - usedE b S false x2) (by omega) (by omega)]
        exact j5ok l a b (L0 - usedE b S false x2) L1 M0 M1 P0 P1 T S false F x2 x3 (validE_of l a b _ L1 M0 M1 P0 P1 T x2 F h1 (by unfold okc; omega)) hF'
    · have hT1 : T = 1 := by omega
      by_cases hu : usedE b S false x2 > L1
      · have e := one hs (stop_falls l a b L0 L1 M0 M1 P0 P1 T S false F x2 hv h hF' (.inr ⟨hT1, hu⟩))
        subst e
        dsimp only
        rw [decide_eq_true hu]
        exact j4t l a b L0 L1 M0 M1 P0 P1 T S false F x2 x3 _
      · have e := one hs (stop_run1 l a b L0 L1 M0 M1 P0 P1 T S F x2 hv h hF' hT1 (by omega))
        rw [w64 (n := L1 - usedE b S false x2) (by omega) (by omega)] at e
        subst e
        dsimp only
        rw [decide_eq_false hu]
        refine Ev.step (fun k => by rw [gamehalllaw3_ClockStops.j4]) ?_
        refine Aid.ite (fun hh => absurd hh (by decide)) (fun _ => ?_)
        refine Aid.ite (fun _ => ?_) (fun hh => absurd (show 0 ≤ T by omega) hh)
        refine Aid.ite (fun _ => ?_) (fun hh => absurd (show T < 2 by omega) hh)
        refine Aid.ite (fun hh => absurd hh hT) (fun _ => ?_)
        rw [w64 (n := L1 - usedE b S false x2) (by omega) (by omega)]
        exact j5ok l a b L0 (L1 - usedE b S false x2) M0 M1 P0 P1 T S false F x2 x3 (validE_of l a b L0 _ M0 M1 P0 P1 T x2 F h1 (by unfold okc; omega)) hF'
theorem ticks_true : Ev (fun k => gamehalllaw3_ticks.f k) true := Ev.of gamehalllaw3_ticks.mono (k := 20) (by decide +kernel)
theorem j3z (x2 x3 v : Int) (h : v ≠ 0) : Ev (fun k => gamehalllaw3_ClockStops.j3 k x2 x3 v v l a b L0 L1 M0 M1 P0 P1 T S Z F 0 0 0 0 0 0 0 0 false 0) true :=
  Ev.step (fun k => by rw [gamehalllaw3_ClockStops.j3]) (Aid.ite (fun hh => absurd hh h) (fun _ => Aid.ite (fun _ => now (by simp)) (fun hh => absurd rfl hh)))
theorem head (x2 x3 x4 : Int) (r : Int × Int × Int × Int × Int × Int × Int × Int × Bool × Int × Int) (hs : Ev (fun k => clock_Stop.f k l a b L0 L1 M0 M1 P0 P1 T S Z F x2) r)
    (h : Ev (fun k => gamehalllaw3_ClockStops.j1 k x2 x3 r.2.2.2.2.2.2.2.2.2.2 (validE l a b L0 L1 M0 M1 P0 P1 T S F) l a b L0 L1 M0 M1 P0 P1 T S Z F r.1 r.2.1 r.2.2.1 r.2.2.2.1 r.2.2.2.2.1 r.2.2.2.2.2.1 r.2.2.2.2.2.2.1 r.2.2.2.2.2.2.2.1 r.2.2.2.2.2.2.2.2.1 r.2.2.2.2.2.2.2.2.2.1) true) :
    Ev (fun k => gamehalllaw3_ClockStops.f k l a b L0 L1 M0 M1 P0 P1 T S Z F x2 x3 x4) true := by
  unfold gamehalllaw3_ClockStops.f
  refine Ev.bind ticks_true ?_
  refine Aid.ite (fun _ => ?_) (fun hh => absurd rfl hh)
  refine Ev.bind hs ?_
  refine Ev.bind (check_ref l a b) ?_
  unfold validE at h
  refine Aid.ite (fun hc => ?_) (fun hc => ?_)
  · refine Ev.bind (clocked_ev l a b L0 L1 M0 M1 P0 P1 T S Z F) ?_
    refine Ev.step (fun k => by rw [gamehalllaw3_ClockStops.j0]) ?_
    rw [if_pos hc] at h
    refine Aid.ite (fun ho => ?_) (fun ho => ?_)
    · rw [if_neg (of_decide_eq_false (by simpa using ho))] at h; exact h
    · rw [if_pos (of_decide_eq_true (by simpa using ho))] at h
      rw [hc]; exact h
  · refine Ev.step (fun k => by rw [gamehalllaw3_ClockStops.j0]) ?_
    rw [if_neg hc] at h
    exact Aid.ite (fun hh => absurd hh (by decide)) (fun _ => h)
theorem law (x2 x3 x4 : Int) : Ev (fun k => gamehalllaw3_ClockStops.f k l a b L0 L1 M0 M1 P0 P1 T S Z F x2 x3 x4) true := by
  by_cases hv : validE l a b L0 L1 M0 M1 P0 P1 T S F = 0
  · have j1to : ∀ x12 q0 q1 q2 q3 q4 q5 q6 q7 q8 q9 (c : Bool), c = decide (x2 < S ∨ x2 > 100000000) → Ev (fun k => gamehalllaw3_ClockStops.j2 k x2 x3 x12 0 c l a b L0 L1 M0 M1 P0 P1 T S Z F q0 q1 q2 q3 q4 q5 q6 q7 q8 q9) true → Ev (fun k => gamehalllaw3_ClockStops.j1 k x2 x3 x12 (validE l a b L0 L1 M0 M1 P0 P1 T S F) l a b L0 L1 M0 M1 P0 P1 T S Z F q0 q1 q2 q3 q4 q5 q6 q7 q8 q9) true := by
      intro x12 q0 q1 q2 q3 q4 q5 q6 q7 q8 q9 c hc e
      rw [hv]
      refine Ev.step (fun k => by rw [gamehalllaw3_ClockStops.j1]) ?_
      refine Ev.bind (ev_eq (valid_code l a b L0 L1 M0 M1 P0 P1 T S Z F) hv) ?_
      refine Aid.ite (fun _ => ?_) (fun hh => absurd rfl hh)
      refine Aid.ite (fun _ => ?_) (fun hh => absurd rfl hh)
      refine Aid.ite (fun h1 => ?_) (fun h1 => ?_)
      · rw [decide_eq_true (.inl h1)] at hc; subst hc; exact e
      · have : c = decide (x2 > 100000000) := by rw [hc]; apply decide_eq_decide.mpr; omega
        rw [← this]; exact e
    by_cases ht : x2 < S ∨ x2 > 100000000
    · refine head l a b L0 L1 M0 M1 P0 P1 T S Z F x2 x3 x4 _ (stop_time l a b L0 L1 M0 M1 P0 P1 T S Z F x2 hv ht) ?_
      refine j1to _ _ _ _ _ _ _ _ _ _ _ true (decide_eq_true ht).symm ?_
      refine Ev.step (fun k => by rw [gamehalllaw3_ClockStops.j2]) ?_
      exact Aid.ite (fun _ => j3z l a b L0 L1 M0 M1 P0 P1 T S Z F x2 x3 11 (by decide)) (fun hh => absurd rfl hh)
    · have ht' : S ≤ x2 ∧ x2 ≤ 100000000 := by omega
      have main : ∀ r, Ev (fun k => clock_Stop.f k l a b L0 L1 M0 M1 P0 P1 T S Z F x2) r → Ev (fun k => gamehalllaw3_ClockStops.f k l a b L0 L1 M0 M1 P0 P1 T S Z F x2 x3 x4) true := by
        intro r hs
        refine head l a b L0 L1 M0 M1 P0 P1 T S Z F x2 x3 x4 r hs ?_
        refine j1to _ _ _ _ _ _ _ _ _ _ _ false (decide_eq_false ht).symm ?_
        refine Ev.step (fun k => by rw [gamehalllaw3_ClockStops.j2]) ?_
        exact Aid.ite (fun hh => absurd hh (by decide)) (fun _ => j3ok l a b L0 L1 M0 M1 P0 P1 T S Z F x2 x3 r hv ht' hs)
      obtain ⟨h1, h2, h3⟩ := valid0 l a b L0 L1 M0 M1 P0 P1 T S F hv
      unfold okc at h3
      by_cases hF : 0 ≤ F
      · exact main _ (stop_fallen l a b L0 L1 M0 M1 P0 P1 T S Z F x2 hv ht' hF)
      have hF' : F < 0 := by omega
      cases Z with
      | true => exact main _ (stop_stopped l a b L0 L1 M0 M1 P0 P1 T S F x2 hv ht' hF')
      | false =>
        by_cases hT : T = 0
        · by_cases hu : usedE b S false x2 > L0
          · exact main _ (stop_falls l a b L0 L1 M0 M1 P0 P1 T S false F x2 hv ht' hF' (.inl ⟨hT, hu⟩))
          · exact main _ (stop_run0 l a b L0 L1 M0 M1 P0 P1 T S F x2 hv ht' hF' hT (by omega))
        · by_cases hu : usedE b S false x2 > L1
          · exact main _ (stop_falls l a b L0 L1 M0 M1 P0 P1 T S false F x2 hv ht' hF' (.inr ⟨by omega, hu⟩))
          · exact main _ (stop_run1 l a b L0 L1 M0 M1 P0 P1 T S F x2 hv ht' hF' (by omega) (by omega))
  · refine head l a b L0 L1 M0 M1 P0 P1 T S Z F x2 x3 x4 _ (stop_bad l a b L0 L1 M0 M1 P0 P1 T S Z F x2 _ rfl hv) ?_
    generalize hq : validE l a b L0 L1 M0 M1 P0 P1 T S F = v at hv
    refine Ev.step (fun k => by rw [gamehalllaw3_ClockStops.j1]) ?_
    refine Ev.bind (ev_eq (valid_code l a b L0 L1 M0 M1 P0 P1 T S Z F) hq) ?_
    refine Aid.ite (fun _ => ?_) (fun hh => absurd rfl hh)
    refine Aid.ite (fun hh => absurd hh hv) (fun _ => ?_)
    refine Ev.step (fun k => by rw [gamehalllaw3_ClockStops.j2]) ?_
    exact Aid.ite (fun hh => absurd hh (by decide)) (fun _ => j3z l a b L0 L1 M0 M1 P0 P1 T S Z F x2 x3 v hv)
end
end Cs
theorem ClockStops : gamehalllaw3_ClockStops.Pure := by
  intro x0 x1 a2 a3 a4 _ _ _ _ _
  obtain ⟨K, e⟩ := Cs.law x0.f0 x0.f1 x0.f2 x1.f0.f0 x1.f0.f1 x1.f1.f0 x1.f1.f1 x1.f2.f0 x1.f2.f1 x1.f3 x1.f4 x1.f5 x1.f6 a2 a3 a4
  exact ⟨K, e K (Nat.le_refl K)⟩
end Go.Proofs.Ytcncilipmekfhaa.Pure
