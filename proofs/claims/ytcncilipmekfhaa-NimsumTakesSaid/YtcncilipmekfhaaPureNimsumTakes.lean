/- NimsumTakes: for every list of whole numbers of 64 bits the law answers true. No condition. -/
import Derived.Test.YtcncilipmekfhaaPNimsumTakesx2
import Derived.Test.YtcncilipmekfhaaAid
namespace Go.Proofs.Ytcncilipmekfhaa.Pure
open Go.RowKit Go.Proofs.Ytcncilipmekfhaa.PNimsumTakes Go.Proofs.YtcncilipmekfhaaW.PrintWords Go.Proofs.YtcncilipmekfhaaW.PrintLast

set_option linter.unusedSimpArgs false
set_option linter.unusedVariables false
namespace Nt
def X (l : List Int) (a : Int) : Int := l.foldl (fun a v => Go.bits .xor .i64 a v) a
theorem rd_at (xs : List Int) (i : Nat) (h : i < xs.length) : rd xs (i : Int) = xs[i] := by simp [rd, List.getD_eq_getElem?_getD, h]
theorem X_drop (xs : List Int) (i : Nat) (h : i < xs.length) (a : Int) : X (xs.drop i) a = X (xs.drop (i + 1)) (Go.bits .xor .i64 a (rd xs (i : Int))) := by
  rw [rd_at xs i h, List.drop_eq_getElem_cons h]; rfl
theorem in_f (a b c : Int) : gamehallref1_In.f a b c = some (decide (b ≤ a ∧ a ≤ c)) := by
  unfold gamehallref1_In.f
  by_cases h : a ≥ b
  · rw [if_pos h]; simp; omega
  · rw [if_neg h]; simp; omega

theorem sum_ev (xs : List Int) (hl : xs.length ≤ 140737488355328) : ∀ (d i : Nat) (a : Int), i + d = xs.length →
    Ev (fun k => nimsum_Sum.l0 k a xs (xs.length : Int) (i : Int)) (X (xs.drop i) a) := by
  intro d
  induction d with
  | zero =>
    intro i a hi
    refine Ev.step (fun k => by rw [nimsum_Sum.l0]) ?_
    rw [List.drop_of_length_le (by omega)]
    simp only [if_neg (show ¬ (i : Int) < (xs.length : Int) by omega)]
    exact Ev.now _
  | succ d ih =>
    intro i a hi
    refine Ev.step (fun k => by rw [nimsum_Sum.l0]) ?_
    rw [X_drop xs i (by omega)]
    simp only [if_pos (show (i : Int) < (xs.length : Int) by omega), if_pos (show (0 : Int) ≤ (i : Int) by omega), Aid.w64s (show (0 : Int) ≤ (i : Int) by omega) (by omega)]
    exact ih (i + 1) _ (by omega)
theorem sum_f (xs : List Int) (hl : xs.length ≤ 140737488355328) : Ev (fun k => nimsum_Sum.f k xs) (X xs 0) := sum_ev xs hl xs.length 0 0 (by omega)

theorem l1_sim (xs : List Int) (all : Int) (hl : xs.length ≤ 140737488355328) : ∀ (d i : Nat), i + d = xs.length →
    ∃ r : Int × Int × Int, Ev (fun k => nimsum_Take.l1 k all xs (xs.length : Int) (i : Int)) r ∧
      Ev (fun k => gamehalllaw1_NimsumTakes.l1 k r.1 r.2.1 r.2.2 all xs (xs.length : Int) (i : Int)) true := by
  intro d
  induction d with
  | zero =>
    intro i hi
    refine ⟨(0, 0, 8), Ev.step (fun k => by rw [nimsum_Take.l1]) ?_, Ev.step (fun k => by rw [gamehalllaw1_NimsumTakes.l1]) ?_⟩
    · simp only [if_neg (show ¬ (i : Int) < (xs.length : Int) by omega)]
      exact Ev.now _
    · simp only [if_neg (show ¬ (i : Int) < (xs.length : Int) by omega)]
      exact Ev.now _
  | succ d ih =>
    intro i hi
    have c1 : (i : Int) < (xs.length : Int) := by omega
    have c2 : (0 : Int) ≤ (i : Int) := by omega
    by_cases h : Go.bits .xor .i64 (rd xs (i : Int)) all < rd xs (i : Int)
    · refine ⟨((i : Int), Go.bits .xor .i64 (rd xs (i : Int)) all, 0), Ev.step (fun k => by rw [nimsum_Take.l1]) ?_, Ev.step (fun k => by rw [gamehalllaw1_NimsumTakes.l1]) ?_⟩
      · simp only [if_pos c1, if_pos c2, if_pos h]
        exact Ev.now _
      · rw [Aid.xor_comm .i64 all]
        simp only [if_pos c1, if_pos c2, if_pos h, if_true, beq_self_eq_true]
        exact Ev.now _
    · obtain ⟨r, h1, h2⟩ := ih (i + 1) (by omega)
      refine ⟨r, Ev.step (fun k => by rw [nimsum_Take.l1]) ?_, Ev.step (fun k => by rw [gamehalllaw1_NimsumTakes.l1]) ?_⟩
      · simp only [if_pos c1, if_pos c2, if_neg h, Aid.w64s c2 (show (i : Int) ≤ 140737488355328 by omega)]
        exact h1
      · have h' : ¬ Go.bits .xor .i64 all (rd xs (i : Int)) < rd xs (i : Int) := by rw [Aid.xor_comm]; exact h
        simp only [if_pos c1, if_pos c2, if_neg h', Aid.w64s c2 (show (i : Int) ≤ 140737488355328 by omega)]
        exact h2

theorem bad (xs : List Int) (e : Int) (he : e ≠ 0) (hl : xs.length ≤ 140737488355328) : ∀ (d i : Nat) (a : Int), i + d = xs.length →
    Ev (fun k => gamehalllaw1_NimsumTakes.l0 k xs 0 0 e e a xs (xs.length : Int) (i : Int)) true := by
  intro d
  induction d with
  | zero =>
    intro i a hi
    refine Ev.step (fun k => by rw [gamehalllaw1_NimsumTakes.l0]) ?_
    simp only [if_neg (show ¬ (i : Int) < (xs.length : Int) by omega), if_neg he, if_true]
    exact Ev.now _
  | succ d ih =>
    intro i a hi
    refine Ev.step (fun k => by rw [gamehalllaw1_NimsumTakes.l0]) ?_
    simp only [if_pos (show (i : Int) < (xs.length : Int) by omega), if_pos (show (0 : Int) ≤ (i : Int) by omega), if_neg he, Aid.w64s (show (0 : Int) ≤ (i : Int) by omega) (show (i : Int) ≤ 140737488355328 by omega)]
    exact ih (i + 1) _ (by omega)

theorem l0_sim (xs : List Int) (hl : xs.length ≤ 140737488355328) : ∀ (d i : Nat) (a : Int), i + d = xs.length → X (xs.drop i) a = X xs 0 →
    ∃ r : Int × Int × Int, Ev (fun k => nimsum_Take.l0 k xs xs (xs.length : Int) (i : Int)) r ∧
      Ev (fun k => gamehalllaw1_NimsumTakes.l0 k xs r.1 r.2.1 r.2.2 0 a xs (xs.length : Int) (i : Int)) true := by
  intro d
  induction d with
  | zero =>
    intro i a hi ha
    obtain ⟨r, h1, h2⟩ := l1_sim xs (X xs 0) hl xs.length 0 (by omega)
    rw [List.drop_of_length_le (by omega)] at ha
    refine ⟨r, Ev.step (fun k => by rw [nimsum_Take.l0]) ?_, Ev.step (fun k => by rw [gamehalllaw1_NimsumTakes.l0]) ?_⟩
    · simp only [if_neg (show ¬ (i : Int) < (xs.length : Int) by omega)]
      exact Ev.bind (sum_f xs hl) h1
    · simp only [if_neg (show ¬ (i : Int) < (xs.length : Int) by omega), if_true]
      refine Ev.bind (sum_f xs hl) ?_
      have ha' : a = X xs 0 := ha
      simp only [if_pos ha'.symm, ha']
      exact h2
  | succ d ih =>
    intro i a hi ha
    have c1 : (i : Int) < (xs.length : Int) := by omega
    have c2 : (0 : Int) ≤ (i : Int) := by omega
    have c3 : wrap64 ((i : Int) + 1) = (i : Int) + 1 := Aid.w64s c2 (by omega)
    by_cases h : 0 ≤ rd xs (i : Int) ∧ rd xs (i : Int) ≤ 100000000
    · rw [X_drop xs i (by omega)] at ha
      obtain ⟨r, h1, h2⟩ := ih (i + 1) _ (by omega) ha
      refine ⟨r, Ev.step (fun k => by rw [nimsum_Take.l0]) ?_, Ev.step (fun k => by rw [gamehalllaw1_NimsumTakes.l0]) ?_⟩
      · simp only [if_pos c1, if_pos c2, if_neg (show ¬ rd xs (i : Int) < 0 by omega), if_neg (show ¬ rd xs (i : Int) > 100000000 by omega), c3]
        exact h1
      · simp only [if_pos c1, if_pos c2, in_f, h, and_self, decide_true, Option.bind_some, if_true, c3]
        exact h2
    · refine ⟨(0, 0, 4), Ev.step (fun k => by rw [nimsum_Take.l0]) ?_, Ev.step (fun k => by rw [gamehalllaw1_NimsumTakes.l0]) ?_⟩
      · simp only [if_pos c1, if_pos c2]
        by_cases h0 : rd xs (i : Int) < 0
        · simp only [if_pos h0]; exact Ev.now _
        · simp only [if_neg h0, if_pos (show rd xs (i : Int) > 100000000 by omega)]; exact Ev.now _
      · simp only [if_pos c1, if_pos c2, in_f, h, decide_false, Option.bind_some, if_true, c3, Bool.false_eq_true, if_false]
        exact bad xs 4 (by decide) hl d (i + 1) _ (by omega)
end Nt
open Nt

theorem NimsumTakes : gamehalllaw1_NimsumTakes.Pure := by
  intro xs _ hb _
  have hl : xs.length ≤ 140737488355328 := by omega
  refine Ev.rounds (g := fun k => gamehalllaw1_NimsumTakes.f k xs) ?_
  unfold gamehalllaw1_NimsumTakes.f
  have e1 : Ev (fun k => nimsum_Take.f k [1, 4]) (1, 1, 0) := Ev.of (nimsum_Take.mono _) (k := 20) (by decide +kernel)
  have e2 : Ev (fun k => nimsum_Sum.f k [5, 3]) 6 := Ev.of (nimsum_Sum.mono _) (k := 20) (by decide +kernel)
  refine Ev.bind e1 ?_
  simp only [if_true]
  refine Ev.bind e2 ?_
  refine Ev.step (fun k => by rw [gamehalllaw1_NimsumTakes.j0]) ?_
  simp only [bne_self_eq_false, Bool.false_eq_true, if_false]
  by_cases h : (xs.length : Int) > 256
  · have e3 : Ev (fun k => nimsum_Take.f k xs) (0, 0, 2) := by
      unfold nimsum_Take.f
      simp only [if_pos h]
      exact Ev.now _
    refine Ev.bind e3 ?_
    simp only [if_pos h]
    refine Ev.step (fun k => by rw [gamehalllaw1_NimsumTakes.j1]) ?_
    exact bad xs 2 (by decide) hl xs.length 0 0 (by omega)
  · obtain ⟨r, h1, h2⟩ := l0_sim xs hl xs.length 0 0 (by omega) rfl
    have e3 : Ev (fun k => nimsum_Take.f k xs) r := by
      unfold nimsum_Take.f
      simp only [if_neg h]
      exact h1
    refine Ev.bind e3 ?_
    simp only [if_neg h]
    refine Ev.step (fun k => by rw [gamehalllaw1_NimsumTakes.j1]) ?_
    exact h2

end Go.Proofs.Ytcncilipmekfhaa.Pure
