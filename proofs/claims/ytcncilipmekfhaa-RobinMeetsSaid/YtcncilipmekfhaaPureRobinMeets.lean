/- RobinMeets: for every input the law answers true. -/
import Derived.Test.YtcncilipmekfhaaPRobinMeetsx4
import Derived.Test.YtcncilipmekfhaaRmTab
namespace Go.Proofs.Ytcncilipmekfhaa.Pure
open Go.RowKit Go.Proofs.Ytcncilipmekfhaa.PRobinMeets Go.Proofs.YtcncilipmekfhaaW.PrintWords Go.Proofs.YtcncilipmekfhaaW.PrintLast

set_option linter.unusedSimpArgs false
set_option linter.unusedVariables false
namespace Rm
open Aid Go.Proofs.Ytcncilipmekfhaa.Rm
/-! The reference's round, by its definition. -/
theorem par_nat (i : Nat) : (Int.tmod (i : Int) 2 == 0) = (i % 2 == 0) := by
  rw [show Int.tmod (i : Int) 2 = ((i % 2 : Nat) : Int) from rfl, Bool.eq_iff_iff, beq_iff_eq, beq_iff_eq]; omega
theorem par_nat1 (i : Nat) : (Int.tmod (i : Int) 2 == 1) = (i % 2 == 1) := by
  rw [show Int.tmod (i : Int) 2 = ((i % 2 : Nat) : Int) from rfl, Bool.eq_iff_iff, beq_iff_eq, beq_iff_eq]; omega
section
variable {h a b R : Nat} {fl : Bool} (hh : h ≤ 16)
theorem wm1 (hh : h ≤ 16) (h1 : 1 ≤ h) : wrap64 (((2 * h : Nat) : Int) - 1) = ((2 * h - 1 : Nat) : Int) := by
  rw [w64 (by omega) (by omega)]; omega
theorem wh (hh : h ≤ 16) : wrap64 (Int.tdiv ((2 * h : Nat) : Int) 2) = (h : Int) := by
  rw [show Int.tdiv ((2 * h : Nat) : Int) 2 = ((2 * h / 2 : Nat) : Int) from rfl, w64 (by omega) (by omega)]; omega
theorem wx {r i : Nat} (hh : h ≤ 16) (h1 : 1 ≤ h) (hr : r < 2 * h - 1) (hi : i < 2 * h) : Int.tmod (wrap64 ((r : Int) + (i : Int))) (wrap64 (((2 * h : Nat) : Int) - 1)) = ((hx (2 * h) r i : Nat) : Int) := by
  rw [wm1 hh h1, w64 (n := (r : Int) + (i : Int)) (by omega) (by omega)]
  exact show Int.tmod (((r + i : Nat)) : Int) _ = _ from rfl
theorem wy {r i : Nat} (hh : h ≤ 16) (h1 : 1 ≤ h) (hr : r < 2 * h - 1) (hi : i < 2 * h) : Int.tmod (wrap64 ((wrap64 ((wrap64 ((r : Int) + ((2 * h : Nat) : Int))) - 1)) - (i : Int))) (wrap64 (((2 * h : Nat) : Int) - 1)) = ((hy (2 * h) r i : Nat) : Int) := by
  rw [wm1 hh h1, w64 (n := (r : Int) + ((2 * h : Nat) : Int)) (by omega) (by omega), w64 (n := (r : Int) + ((2 * h : Nat) : Int) - 1) (by omega) (by omega), w64 (n := (r : Int) + ((2 * h : Nat) : Int) - 1 - (i : Int)) (by omega) (by omega), show (r : Int) + ((2 * h : Nat) : Int) - 1 - (i : Int) = ((r + (2 * h - 1 - i) : Nat) : Int) by omega]
  rfl
theorem ref_l1 (hh : h ≤ 16) (h1 : 1 ≤ h) (hR : refC (2 * h) a b = (R, fl)) (ha : a < 2 * h - 1) (hb : b < 2 * h - 1) (r : Nat) (hr : r < 2 * h - 1) : ∀ d i : Nat, i + d = h → 1 ≤ i →
    ((r = R ∧ ∃ i0, i ≤ i0 ∧ i0 < h ∧ ((hx (2 * h) r i0 = a ∧ hy (2 * h) r i0 = b) ∨ (hx (2 * h) r i0 = b ∧ hy (2 * h) r i0 = a))) ∨ Ev (fun k => gamehallref3_Round.l0 k ((2 * h : Nat) : Int) (a : Int) (b : Int) ((2 * h - 1 : Nat) : Int) (wrap64 ((r : Int) + 1))) ((R : Int), fl)) →
    Ev (fun k => gamehallref3_Round.l1 k ((2 * h : Nat) : Int) (a : Int) (b : Int) (r : Int) (i : Int) ((2 * h - 1 : Nat) : Int) (r : Int)) ((R : Int), fl) := by
  intro d
  induction d with
  | zero =>
    intro i hi hi1 hyp
    refine Ev.step (fun k => by rw [gamehallref3_Round.l1]) ?_
    rw [wh hh]
    refine Aid.ite (fun hc => absurd hc (by omega)) (fun _ => ?_)
    rcases hyp with ⟨_, i0, q1, q2, _⟩ | hyp
    · omega
    · exact hyp
  | succ d ih =>
    intro i hi hi1 hyp
    have hw := Aside0.mk (show wrap64 ((i : Int) + 1) = ((i + 1 : Nat) : Int) from by rw [w64s (by omega) (by omega)]; omega)
    obtain ⟨q1, q2, q3, q4, q5⟩ := c1 hh hr hi1 (show i < h by omega)
    have go : ¬ (hx (2 * h) r i = a ∧ hy (2 * h) r i = b) → ¬ (hx (2 * h) r i = b ∧ hy (2 * h) r i = a) → Ev (fun k => gamehallref3_Round.l1 k ((2 * h : Nat) : Int) (a : Int) (b : Int) (r : Int) (wrap64 ((i : Int) + 1)) ((2 * h - 1 : Nat) : Int) (r : Int)) ((R : Int), fl) := by
      intro n1 n2
      rw [hw.out]
      refine ih (i + 1) (by omega) (by omega) ?_
      rcases hyp with ⟨e, i0, p1, p2, p3⟩ | hyp
      · refine .inl ⟨e, i0, ?_, p2, p3⟩
        by_cases e0 : i0 = i
        · subst e0; rcases p3 with p3 | p3
          · exact absurd p3 n1
          · exact absurd p3 n2
        · omega
      · exact .inr hyp
    refine Ev.step (fun k => by rw [gamehallref3_Round.l1]) ?_
    rw [wh hh, wx hh h1 hr (by omega), wy hh h1 hr (by omega)]
    have hz : ¬ wrap64 (((2 * h : Nat) : Int) - 1) = 0 := by rw [wm1 hh h1]; omega
    refine Aid.ite (fun _ => ?_) (fun hc => absurd (show (i : Int) < (h : Int) by omega) hc)
    refine Aid.ite (fun hc => absurd hc hz) (fun _ => ?_)
    have j2t : hx (2 * h) r i = a → hy (2 * h) r i = b → ∀ c, c = true → Ev (fun k => gamehallref3_Round.j2 k ((2 * h : Nat) : Int) (a : Int) (b : Int) (r : Int) (i : Int) ((hx (2 * h) r i : Nat) : Int) ((hy (2 * h) r i : Nat) : Int) ((2 * h - 1 : Nat) : Int) (r : Int) c) ((R : Int), fl) := by
      intro e1 e2 c hc
      rw [e1, e2, hR] at q1
      refine Ev.step (fun k => by rw [gamehallref3_Round.j2]) ?_
      refine Aid.ite (fun _ => now ?_) (fun hn => absurd hc hn)
      rw [par_nat, ← (Prod.mk.inj q1).1, ← (Prod.mk.inj q1).2]
    have j2f : ¬ (hx (2 * h) r i = a ∧ hy (2 * h) r i = b) → ∀ c, c = false → Ev (fun k => gamehallref3_Round.j2 k ((2 * h : Nat) : Int) (a : Int) (b : Int) (r : Int) (i : Int) ((hx (2 * h) r i : Nat) : Int) ((hy (2 * h) r i : Nat) : Int) ((2 * h - 1 : Nat) : Int) (r : Int) c) ((R : Int), fl) := by
      intro n1 c hc
      refine Ev.step (fun k => by rw [gamehallref3_Round.j2]) ?_
      refine Aid.ite (fun hn => absurd (hc.symm.trans hn) (by decide)) (fun _ => ?_)
      refine Aid.ite (fun e1 => ?_) (fun e1 => go n1 (fun q => e1 (by rw [q.1])))
      refine Aid.ite (fun e2 => ?_) (fun e2 => go n1 (fun q => e2 (by rw [q.2])))
      have e1 : hx (2 * h) r i = b := Int.ofNat.inj e1
      have e2 : hy (2 * h) r i = a := Int.ofNat.inj e2
      rw [e1, e2, hR] at q2
      refine now ?_
      rw [par_nat1, ← (Prod.mk.inj q2).1, ← (Prod.mk.inj q2).2]
    refine Aid.ite (fun e1 => ?_) (fun e1 => j2f (fun q => e1 (by rw [q.1])) _ rfl)
    have e1 : hx (2 * h) r i = a := Int.ofNat.inj e1
    by_cases e2 : hy (2 * h) r i = b
    · exact j2t e1 e2 _ (by rw [e2]; exact beq_self_eq_true _)
    · refine j2f (fun q => e2 q.2) _ ?_
      rw [beq_eq_false_iff_ne]
      exact fun q => e2 (Int.ofNat.inj q)
theorem ref_l0 (hh : h ≤ 16) (h1 : 1 ≤ h) (hR : refC (2 * h) a b = (R, fl)) (ha : a < 2 * h - 1) (hb : b < 2 * h - 1) (hab : a ≠ b) : ∀ d r : Nat, r + d = R → Ev (fun k => gamehallref3_Round.l0 k ((2 * h : Nat) : Int) (a : Int) (b : Int) ((2 * h - 1 : Nat) : Int) (r : Int)) ((R : Int), fl) := by
  obtain ⟨g1, i0, g2, g3, g4⟩ := c2 hh ha hb hab
  rw [hR] at g1 g4
  intro d
  induction d with
  | zero =>
    intro r hr
    have hr : r = R := by omega
    subst hr
    refine Ev.step (fun k => by rw [gamehallref3_Round.l0]) ?_
    rw [wm1 hh h1]
    refine Aid.ite (fun _ => ?_) (fun hc => absurd (show (r : Int) < ((2 * h - 1 : Nat) : Int) from Int.ofNat_lt.mpr g1) hc)
    refine Aid.ite (fun hc => absurd hc (by omega)) (fun _ => ?_)
    refine ref_l1 hh h1 hR ha hb r g1 (h - 1) 1 (by omega) (by omega) (.inl ⟨rfl, i0, g2, g3, ?_⟩)
    rcases g4 with q | q
    · exact .inl ⟨q.1, q.2.1⟩
    · exact .inr ⟨q.1, q.2.1⟩
  | succ d ih =>
    intro r hr
    have g1' : R < 2 * h - 1 := g1
    refine Ev.step (fun k => by rw [gamehallref3_Round.l0]) ?_
    rw [wm1 hh h1]
    refine Aid.ite (fun _ => ?_) (fun hc => absurd (show (r : Int) < ((2 * h - 1 : Nat) : Int) from Int.ofNat_lt.mpr (by omega)) hc)
    refine Aid.ite (fun hc => absurd hc (by omega)) (fun _ => ?_)
    refine ref_l1 hh h1 hR ha hb r (by omega) (h - 1) 1 (by omega) (by omega) (.inr ?_)
    rw [show wrap64 ((r : Int) + 1) = ((r + 1 : Nat) : Int) from by rw [w64s (by omega) (by omega)]; omega]
    exact ih (r + 1) (by omega)
/-- against the one who does not go round -/
theorem ref_last (hh : h ≤ 16) (h1 : 1 ≤ h) (ha : a < 2 * h - 1) : ∀ d r : Nat, r + d = a → Ev (fun k => gamehallref3_Round.l0 k ((2 * h : Nat) : Int) (a : Int) ((2 * h - 1 : Nat) : Int) ((2 * h - 1 : Nat) : Int) (r : Int)) ((a : Int), a % 2 == 0) := by
  intro d
  induction d with
  | zero =>
    intro r hr
    have hr : r = a := by omega
    subst hr
    refine Ev.step (fun k => by rw [gamehallref3_Round.l0]) ?_
    rw [wm1 hh h1]
    refine Aid.ite (fun _ => ?_) (fun hc => absurd (show (r : Int) < ((2 * h - 1 : Nat) : Int) from Int.ofNat_lt.mpr ha) hc)
    refine Aid.ite (fun _ => ?_) (fun hc => absurd rfl hc)
    exact Aid.ite (fun _ => now (by rw [par_nat])) (fun hc => absurd rfl hc)
  | succ d ih =>
    intro r hr
    refine Ev.step (fun k => by rw [gamehallref3_Round.l0]) ?_
    rw [wm1 hh h1]
    refine Aid.ite (fun _ => ?_) (fun hc => absurd (show (r : Int) < ((2 * h - 1 : Nat) : Int) from Int.ofNat_lt.mpr (by omega)) hc)
    refine Aid.ite (fun _ => ?_) (fun hc => absurd rfl hc)
    refine Aid.ite (fun hc => absurd hc (by omega)) (fun _ => ?_)
    rw [show wrap64 ((r : Int) + 1) = ((r + 1 : Nat) : Int) from by rw [w64s (by omega) (by omega)]; omega]
    exact ih (r + 1) (by omega)
theorem ref_f (hh : h ≤ 16) (h1 : 1 ≤ h) (ha : a < 2 * h) (hb : b < 2 * h) (hab : a ≠ b) : Ev (fun k => gamehallref3_Round.f k ((2 * h : Nat) : Int) (a : Int) (b : Int)) (((refC (2 * h) a b).1 : Int), (refC (2 * h) a b).2) := by
  have low : a < 2 * h - 1 → Ev (fun k => gamehallref3_Round.f k ((2 * h : Nat) : Int) (a : Int) (b : Int)) (((refC (2 * h) a b).1 : Int), (refC (2 * h) a b).2) := by
    intro ha'
    refine Ev.step (fun k => by rw [gamehallref3_Round.f]) ?_
    rw [wm1 hh h1]
    refine Aid.ite (fun hc => absurd hc (by omega)) (fun _ => ?_)
    by_cases hb' : b = 2 * h - 1
    · subst hb'
      rw [show refC (2 * h) a (2 * h - 1) = (a, a % 2 == 0) from if_pos rfl]
      exact ref_last hh h1 ha' a 0 (by omega)
    · exact ref_l0 hh h1 (Prod.eta _).symm ha' (by omega) hab _ 0 (Nat.zero_add _)
  by_cases ha' : a = 2 * h - 1
  · subst ha'
    refine Ev.step (fun k => by rw [gamehallref3_Round.f]) ?_
    rw [wm1 hh h1]
    refine Aid.ite (fun _ => ?_) (fun hc => absurd rfl hc)
    have e : Ev (fun k => gamehallref3_Round.f k ((2 * h : Nat) : Int) (b : Int) ((2 * h - 1 : Nat) : Int)) ((b : Int), b % 2 == 0) := by
      refine Ev.step (fun k => by rw [gamehallref3_Round.f]) ?_
      rw [wm1 hh h1]
      refine Aid.ite (fun hc => absurd hc (by omega)) (fun _ => ?_)
      exact ref_last hh h1 (by omega) b 0 (by omega)
    refine Ev.bind e (now ?_)
    rw [show refC (2 * h) (2 * h - 1) b = (b, b % 2 == 1) from by unfold refC; rw [if_neg (by omega), if_pos rfl]]
    refine Prod.ext rfl ?_
    show (!(b % 2 == 0)) = (b % 2 == 1)
    rcases Nat.mod_two_eq_zero_or_one b with q | q <;> rw [q] <;> rfl
  · exact low (by omega)
end
/-! The code. -/
def toS (p : Nat × Nat) : S61 := ⟨(p.1 : Int), (p.2 : Int)⟩
def flp (p : S61) : S61 := ⟨p.f1, p.f0⟩
theorem rd61 (xs : List S61) (i : Nat) (h : i < xs.length) : rd_T61 xs (i : Int) = xs[i] := by simp [rd_T61, List.getD_eq_getElem?_getD, h]
theorem rdL2 (xs : List (List S61)) (i : Nat) (h : i < xs.length) : rd_L2 xs (i : Int) = xs[i] := by simp [rd_L2, List.getD_eq_getElem?_getD, h]
def KK (N : Nat) (tw : Bool) : Nat := if tw = true then 2 * (mm N - 1) else mm N - 1
def roundL (N rd : Nat) : List S61 := if mm N - 1 ≤ rd then ((baseN N (rd % (mm N - 1))).map toS).map flp else (baseN N (rd % (mm N - 1))).map toS
section
variable {N rd : Nat} {tw : Bool}
theorem wmm (h2 : 2 ≤ N) (hN : N ≤ 32) : wrap64 ((N : Int) + Int.tmod (N : Int) 2) = ((mm N : Nat) : Int) := by
  rw [show Int.tmod (N : Int) 2 = ((N % 2 : Nat) : Int) from rfl, w64 (by omega) (by omega)]; unfold mm; omega
theorem wmm1 (h2 : 2 ≤ N) (hN : N ≤ 32) : wrap64 (((mm N : Nat) : Int) - 1) = ((mm N - 1 : Nat) : Int) := by
  unfold mm; rw [w64 (by omega) (by omega)]; omega
theorem wK (h2 : 2 ≤ N) (hN : N ≤ 32) : wrap64 ((wrap64 ((N : Int) - 1)) + Int.tmod (N : Int) 2) = ((mm N - 1 : Nat) : Int) := by
  rw [show Int.tmod (N : Int) 2 = ((N % 2 : Nat) : Int) from rfl, w64 (n := (N : Int) - 1) (by omega) (by omega), w64 (by omega) (by omega)]; unfold mm; omega
theorem rounds_ev (tw : Bool) (h2 : 2 ≤ N) (hN : N ≤ 32) : Ev (fun k => robin_Rounds.f k (N : Int) tw) (((KK N tw : Nat) : Int), 0) := by
  unfold robin_Rounds.f
  refine Aid.ite (fun hc => absurd hc (by omega)) (fun _ => ?_)
  rw [decide_eq_false (show ¬ (N : Int) > 32 by omega)]
  refine Ev.step (fun k => by rw [robin_Rounds.j0]) ?_
  refine Aid.ite (fun hc => absurd hc (by decide)) (fun _ => ?_)
  rw [wK h2 hN]
  unfold KK mm
  refine Aid.ite (fun hc => now ?_) (fun hc => now ?_)
  · rw [if_pos hc, w64 (by omega) (by omega)]; refine Prod.ext ?_ rfl; show (_ : Int) = _; omega
  · rw [if_neg hc]
theorem rounds_bad (n : Int) (tw : Bool) (h : n < 2 ∨ n > 32) : Ev (fun k => robin_Rounds.f k n tw) (0, 4) := by
  have t : Ev (fun k => robin_Rounds.j0 k n tw true) (0, 4) := Ev.step (fun k => by rw [robin_Rounds.j0]) (Aid.ite (fun _ => Ev.now _) (fun hc => absurd rfl hc))
  unfold robin_Rounds.f
  refine Aid.ite (fun _ => t) (fun hc => ?_)
  rw [decide_eq_true (show n > 32 by omega)]; exact t
theorem flip_ev (L : Int) : ∀ (d : Nat) (done todo : List S61), todo.length = d → L = ((done ++ todo).length : Int) → (done ++ todo).length ≤ 1000 → Ev (fun k => robin_Round.l1 k (done ++ todo) L (done.length : Int)) (done ++ todo.map flp, 0) := by
  intro d
  induction d with
  | zero =>
    intro done todo hd hL _
    have : todo = [] := List.eq_nil_of_length_eq_zero hd
    subst this
    rw [List.append_nil] at hL ⊢
    refine Ev.step (fun k => by rw [robin_Round.l1]) ?_
    refine Aid.ite (fun hc => absurd hc (by omega)) (fun _ => ?_)
    exact now (by simp)
  | succ d ih =>
    intro done todo hd hL hl
    match todo, hd with
    | p :: t, hd =>
      have hlen : (done ++ p :: t).length = done.length + (t.length + 1) := by simp
      rw [hlen] at hL hl
      have hw : wrap64 ((done.length : Int) + 1) = ((done.length + 1 : Nat) : Int) := by rw [w64s (by omega) (by omega)]; omega
      refine Ev.step (fun k => by rw [robin_Round.l1]) ?_
      rw [hw]
      refine Aid.ite (fun _ => ?_) (fun hc => absurd (show (done.length : Int) < L by omega) hc)
      refine Aid.ite (fun _ => ?_) (fun hc => absurd (show (0 : Int) ≤ (done.length : Int) by omega) hc)
      refine Aid.ite (fun _ => ?_) (fun hc => absurd (show (done.length : Int) < ((done ++ p :: t).length : Int) by rw [hlen]; omega) hc)
      have hr : rd_T61 (done ++ p :: t) (done.length : Int) = p := by rw [rd61 _ _ (by rw [hlen]; omega)]; simp
      rw [hr, Int.toNat_natCast]
      have hs : (done ++ p :: t).set done.length (⟨p.f1, p.f0⟩ : S61) = (done ++ [flp p]) ++ t := by simp [flp]
      rw [hs]
      have e := ih (done ++ [flp p]) t (by simpa using hd) (by rw [hL]; simp <;> omega) (by simp; omega)
      rw [show ((done ++ [flp p]).length : Int) = ((done.length + 1 : Nat) : Int) by simp] at e
      exact ev_eq e (by simp)
theorem hx_eq (h2 : 2 ≤ N) (hN : N ≤ 32) {r i : Nat} (hr : r < mm N - 1) (hi : i < mm N) : robin_seat.f ((mm N : Nat) : Int) (r : Int) (i : Int) = some ((hx (mm N) r i : Nat) : Int) := by
  unfold robin_seat.f
  have hm : mm N = 2 * ((N + 1) / 2) := rfl
  rw [wmm1 h2 hN, if_neg (by omega), w64 (n := (r : Int) + (i : Int)) (by omega) (by omega)]
  rfl
theorem hy_eq (h2 : 2 ≤ N) (hN : N ≤ 32) {r i : Nat} (hr : r < mm N - 1) (hi : i < mm N) : robin_seat.f ((mm N : Nat) : Int) (r : Int) (wrap64 ((wrap64 (((mm N : Nat) : Int) - 1)) - (i : Int))) = some ((hy (mm N) r i : Nat) : Int) := by
  unfold robin_seat.f
  have hm : mm N = 2 * ((N + 1) / 2) := rfl
  rw [wmm1 h2 hN, if_neg (by omega), w64 (n := ((mm N - 1 : Nat) : Int) - (i : Int)) (by omega) (by omega), w64 (n := (r : Int) + (((mm N - 1 : Nat) : Int) - (i : Int))) (by omega) (by omega), show (r : Int) + (((mm N - 1 : Nat) : Int) - (i : Int)) = ((r + (mm N - 1 - i) : Nat) : Int) by omega]
  rfl
theorem rl0 (h2 : 2 ≤ N) (hN : N ≤ 32) {r : Nat} (hr : r < mm N - 1) (sec : Bool) : ∀ (d i : Nat) (acc : List S61), i + d = mm N / 2 → 1 ≤ i → acc.length + d ≤ 100 →
    Ev (fun k => robin_Round.l0 k ((mm N : Nat) : Int) sec (r : Int) acc (i : Int)) (if sec = true then (acc ++ (plN (mm N) r d i).map toS).map flp else acc ++ (plN (mm N) r d i).map toS, 0) := by
  have hm : mm N = 2 * ((N + 1) / 2) := rfl
  have hw2 := Aside0.mk (show wrap64 (Int.tdiv ((mm N : Nat) : Int) 2) = ((mm N / 2 : Nat) : Int) from by
    rw [show Int.tdiv ((mm N : Nat) : Int) 2 = ((mm N / 2 : Nat) : Int) from rfl, w64 (by omega) (by omega)])
  intro d
  induction d with
  | zero =>
    intro i acc hi hi1 hl
    refine Ev.step (fun k => by rw [robin_Round.l0]) ?_
    rw [hw2.out]
    refine Aid.ite (fun hc => absurd hc (by omega)) (fun _ => ?_)
    rw [plN, List.map_nil, List.append_nil]
    refine Aid.ite (fun hs => ?_) (fun hs => ?_)
    · rw [if_pos hs]
      exact flip_ev _ acc.length [] acc rfl rfl (by simp; omega)
    · rw [if_neg hs]; exact Ev.now _
  | succ d ih =>
    intro i acc hi hi1 hl
    have hw := Aside0.mk (show wrap64 ((i : Int) + 1) = ((i + 1 : Nat) : Int) from by rw [w64s (by omega) (by omega)]; omega)
    refine Ev.step (fun k => by rw [robin_Round.l0]) ?_
    rw [hw2.out, hw.out]
    refine Aid.ite (fun _ => ?_) (fun hc => absurd (show (i : Int) < ((mm N / 2 : Nat) : Int) by omega) hc)
    refine bind_now (hx_eq h2 hN hr (by omega)) ?_
    refine bind_now (hy_eq h2 hN hr (by omega)) ?_
    have hlt : acc.length < 8796093022208 := by omega
    have e := fun q : S61 => ih (i + 1) (acc ++ [q]) (by omega) (by omega) (by simp; omega)
    rw [plN]
    by_cases hp : i % 2 = 1
    · rw [if_pos hp]
      refine Aid.ite (fun _ => ?_) (fun hc => absurd (show Int.tmod (i : Int) 2 = 1 from by rw [show Int.tmod (i : Int) 2 = ((i % 2 : Nat) : Int) from rfl, hp]; rfl) hc)
      refine Aid.ite (fun _ => ?_) (fun hc => absurd hlt hc)
      refine ev_eq (e _) ?_
      simp [toS, List.append_assoc]
    · rw [if_neg hp]
      refine Aid.ite (fun hc => absurd (show i % 2 = 1 by rw [show Int.tmod (i : Int) 2 = ((i % 2 : Nat) : Int) from rfl] at hc; omega) hp) (fun _ => ?_)
      refine Aid.ite (fun _ => ?_) (fun hc => absurd hlt hc)
      refine ev_eq (e _) ?_
      simp [toS, List.append_assoc]
theorem round_ev (tw : Bool) (h2 : 2 ≤ N) (hN : N ≤ 32) (hrd : rd < KK N tw) : Ev (fun k => robin_Round.f k (N : Int) tw (rd : Int)) (roundL N rd, 0) := by
  have hm : mm N = 2 * ((N + 1) / 2) := rfl
  unfold robin_Round.f
  refine Ev.bind (rounds_ev tw h2 hN) ?_
  refine Aid.ite (fun _ => ?_) (fun hc => absurd rfl hc)
  refine Aid.ite (fun hc => absurd hc (by omega)) (fun _ => ?_)
  rw [decide_eq_false (show ¬ (rd : Int) ≥ (((KK N tw : Nat) : Int), (0 : Int)).1 from by show ¬ (rd : Int) ≥ ((KK N tw : Nat) : Int); omega)]
  refine Ev.step (fun k => by rw [robin_Round.j0]) ?_
  rw [wmm h2 hN, wmm1 h2 hN]
  refine Aid.ite (fun hc => absurd hc (by decide)) (fun _ => ?_)
  refine Aid.ite (fun hc => absurd hc (by omega)) (fun _ => ?_)
  rw [show Int.tmod (rd : Int) ((mm N - 1 : Nat) : Int) = ((rd % (mm N - 1) : Nat) : Int) from rfl]
  have hr : rd % (mm N - 1) < mm N - 1 := Nat.mod_lt _ (by omega)
  unfold roundL baseN
  generalize rd % (mm N - 1) = r at hr
  have j1 : ∀ acc : List S61, acc.length ≤ 1 → acc = (spN N r).map toS → Ev (fun k => robin_Round.j1 k ((mm N : Nat) : Int) (decide ((rd : Int) ≥ ((mm N - 1 : Nat) : Int))) (r : Int) acc) (if mm N - 1 ≤ rd then ((spN N r ++ plN (mm N) r (mm N / 2 - 1) 1).map toS).map flp else (spN N r ++ plN (mm N) r (mm N / 2 - 1) 1).map toS, 0) := by
    intro acc hl hacc
    refine Ev.step (fun k => by rw [robin_Round.j1]) ?_
    refine ev_eq (rl0 h2 hN hr _ (mm N / 2 - 1) 1 acc (by omega) (by omega) (by omega)) ?_
    rw [hacc]
    by_cases hs : mm N - 1 ≤ rd
    · rw [if_pos hs, if_pos (decide_eq_true (by omega)), ← List.map_append]
    · rw [if_neg hs, if_neg (by rw [decide_eq_false (by omega)]; decide), ← List.map_append]
  have h0 : robin_seat.f ((mm N : Nat) : Int) (r : Int) 0 = some (r : Int) := by
    refine (hx_eq h2 hN hr (i := 0) (by omega)).trans ?_
    unfold hx
    rw [Nat.add_zero, Nat.mod_eq_of_lt hr]
  refine Aid.ite (fun he => ?_) (fun he => ?_)
  · have he' : N % 2 = 0 := by omega
    refine bind_now h0 ?_
    have hsp : spN N r = [if r % 2 = 1 then (mm N - 1, r) else (r, mm N - 1)] := if_pos he'
    refine Aid.ite (fun hp => ?_) (fun hp => ?_)
    · have hp' : r % 2 = 1 := by rw [show Int.tmod (r : Int) 2 = ((r % 2 : Nat) : Int) from rfl] at hp; omega
      refine Aid.ite (fun _ => ?_) (fun hc => absurd (show ([] : List S61).length < 8796093022208 from by decide) hc)
      refine j1 _ (by simp) ?_
      rw [hsp, if_pos hp']; rfl
    · have hp' : ¬ r % 2 = 1 := by rw [show Int.tmod (r : Int) 2 = ((r % 2 : Nat) : Int) from rfl] at hp; omega
      refine Aid.ite (fun _ => ?_) (fun hc => absurd (show ([] : List S61).length < 8796093022208 from by decide) hc)
      refine j1 _ (by simp) ?_
      rw [hsp, if_neg hp']; rfl
  · have he' : ¬ N % 2 = 0 := by omega
    refine j1 _ (by simp) ?_
    rw [show spN N r = [] from if_neg he']; rfl
theorem round_arg (tw : Bool) (h2 : 2 ≤ N) (hN : N ≤ 32) (n : Int) (hn : n < 0 ∨ n ≥ ((KK N tw : Nat) : Int)) : Ev (fun k => robin_Round.f k (N : Int) tw n) ([], 1) := by
  have t : Ev (fun k => robin_Round.j0 k (N : Int) n true) ([], 1) := Ev.step (fun k => by rw [robin_Round.j0]) (Aid.ite (fun _ => Ev.now _) (fun hc => absurd rfl hc))
  unfold robin_Round.f
  refine Ev.bind (rounds_ev tw h2 hN) ?_
  refine Aid.ite (fun _ => ?_) (fun hc => absurd rfl hc)
  refine Aid.ite (fun _ => t) (fun hc => ?_)
  rw [decide_eq_true (show n ≥ (((KK N tw : Nat) : Int), (0 : Int)).1 from by show n ≥ ((KK N tw : Nat) : Int); omega)]
  exact t
theorem round_bad (n : Int) (tw : Bool) (h : n < 2 ∨ n > 32) (q : Int) : Ev (fun k => robin_Round.f k n tw q) ([], 4) := by
  unfold robin_Round.f
  refine Ev.bind (rounds_bad n tw h) ?_
  exact Aid.ite (fun hc => absurd hc (by decide)) (fun _ => Ev.now _)
theorem bye_ev (tw : Bool) (h2 : 2 ≤ N) (hN : N ≤ 32) (hrd : rd < KK N tw) : Ev (fun k => robin_Bye.f k (N : Int) tw (rd : Int)) (if N % 2 = 0 then -1 else ((rd % (mm N - 1) : Nat) : Int), 0) := by
  have hm : mm N = 2 * ((N + 1) / 2) := rfl
  unfold robin_Bye.f
  refine Ev.bind (rounds_ev tw h2 hN) ?_
  refine Aid.ite (fun _ => ?_) (fun hc => absurd rfl hc)
  refine Aid.ite (fun hc => absurd hc (by omega)) (fun _ => ?_)
  rw [decide_eq_false (show ¬ (rd : Int) ≥ (((KK N tw : Nat) : Int), (0 : Int)).1 from by show ¬ (rd : Int) ≥ ((KK N tw : Nat) : Int); omega)]
  refine Ev.step (fun k => by rw [robin_Bye.j0]) ?_
  refine Aid.ite (fun hc => absurd hc (by decide)) (fun _ => ?_)
  rw [show Int.tmod (N : Int) 2 = ((N % 2 : Nat) : Int) from rfl]
  refine Aid.ite (fun hp => now (by rw [if_pos (by omega)])) (fun hp => ?_)
  rw [if_neg (show ¬ N % 2 = 0 by omega)]
  refine Aid.ite (fun hc => absurd hc (by omega)) (fun _ => ?_)
  have e1 : mm N = N + 1 := by omega
  have e2 : wrap64 ((N : Int) + 1) = ((mm N : Nat) : Int) := by rw [w64 (by omega) (by omega)]; omega
  have hr : rd % (mm N - 1) < mm N - 1 := Nat.mod_lt _ (by omega)
  rw [e2, show Int.tmod (rd : Int) (N : Int) = ((rd % (mm N - 1) : Nat) : Int) from by rw [e1]; rfl]
  refine bind_now ((hx_eq h2 hN hr (i := 0) (by omega)).trans ?_) (Ev.now _)
  unfold hx
  rw [Nat.add_zero, Nat.mod_eq_of_lt hr]
theorem bye_arg (tw : Bool) (h2 : 2 ≤ N) (hN : N ≤ 32) (n : Int) (hn : n < 0 ∨ n ≥ ((KK N tw : Nat) : Int)) : Ev (fun k => robin_Bye.f k (N : Int) tw n) (0, 1) := by
  have t : Ev (fun k => robin_Bye.j0 k (N : Int) n true) (0, 1) := Ev.step (fun k => by rw [robin_Bye.j0]) (Aid.ite (fun _ => Ev.now _) (fun hc => absurd rfl hc))
  unfold robin_Bye.f
  refine Ev.bind (rounds_ev tw h2 hN) ?_
  refine Aid.ite (fun _ => ?_) (fun hc => absurd rfl hc)
  refine Aid.ite (fun _ => t) (fun hc => ?_)
  rw [decide_eq_true (show n ≥ (((KK N tw : Nat) : Int), (0 : Int)).1 from by show n ≥ ((KK N tw : Nat) : Int); omega)]
  exact t
theorem bye_bad (n : Int) (tw : Bool) (h : n < 2 ∨ n > 32) (q : Int) : Ev (fun k => robin_Bye.f k n tw q) (0, 4) := by
  unfold robin_Bye.f
  refine Ev.bind (rounds_bad n tw h) ?_
  exact Aid.ite (fun hc => absurd hc (by decide)) (fun _ => Ev.now _)
def allL (N K i d : Nat) : List (List S61) := (List.range' i d).map (roundL N)
theorem all_l0 (tw : Bool) (h2 : 2 ≤ N) (hN : N ≤ 32) : ∀ (d i : Nat) (acc : List (List S61)), i + d = KK N tw → acc.length ≤ i → Ev (fun k => robin_All.l0 k (N : Int) tw acc ((KK N tw : Nat) : Int) (i : Int)) (acc ++ (List.range' i d).map (roundL N), 0) := by
  have hK : KK N tw ≤ 62 := by unfold KK mm; split <;> omega
  intro d
  induction d with
  | zero =>
    intro i acc hi hl
    refine Ev.step (fun k => by rw [robin_All.l0]) ?_
    refine Aid.ite (fun hc => absurd hc (by omega)) (fun _ => now (by simp))
  | succ d ih =>
    intro i acc hi hl
    have hw := Aside0.mk (show wrap64 ((i : Int) + 1) = ((i + 1 : Nat) : Int) from by rw [w64s (by omega) (by omega)]; omega)
    refine Ev.step (fun k => by rw [robin_All.l0]) ?_
    rw [hw.out]
    refine Aid.ite (fun _ => ?_) (fun hc => absurd (show (i : Int) < ((KK N tw : Nat) : Int) by omega) hc)
    refine Ev.bind (round_ev tw h2 hN (show i < KK N tw by omega)) ?_
    refine Aid.ite (fun _ => ?_) (fun hc => absurd (show acc.length < 5864062014805 by omega) hc)
    refine ev_eq (ih (i + 1) (acc ++ [roundL N i]) (by omega) (by simp; omega)) ?_
    rw [List.range'_succ, List.map_cons, List.append_assoc]; rfl
theorem all_ev (tw : Bool) (h2 : 2 ≤ N) (hN : N ≤ 32) : Ev (fun k => robin_All.f k (N : Int) tw) ((List.range' 0 (KK N tw)).map (roundL N), 0) := by
  unfold robin_All.f
  refine Ev.bind (rounds_ev tw h2 hN) ?_
  refine Aid.ite (fun _ => ?_) (fun hc => absurd rfl hc)
  exact all_l0 tw h2 hN (KK N tw) 0 [] (by omega) (by simp)
theorem when_bad (n : Int) (tw : Bool) (h : n < 2 ∨ n > 32) (a b : Int) : Ev (fun k => robin_When.f k n tw a b) (0, 4) := by
  have e : Ev (fun k => robin_All.f k n tw) ([], 4) := by
    unfold robin_All.f
    refine Ev.bind (rounds_bad n tw h) ?_
    exact Aid.ite (fun hc => absurd hc (by decide)) (fun _ => Ev.now _)
  unfold robin_When.f
  refine Ev.bind e ?_
  exact Aid.ite (fun hc => absurd hc (by decide)) (fun _ => Ev.now _)
theorem when_arg (tw : Bool) (h2 : 2 ≤ N) (hN : N ≤ 32) (a b : Int) (h : mn a b < 0 ∨ mx a b ≥ (N : Int) ∨ a = b) : Ev (fun k => robin_When.f k (N : Int) tw a b) (0, 1) := by
  have t : ∀ l, Ev (fun k => robin_When.j0 k tw a b l true) (0, 1) := fun l => Ev.step (fun k => by rw [robin_When.j0]) (Aid.ite (fun _ => Ev.now _) (fun hc => absurd rfl hc))
  unfold robin_When.f
  refine Ev.bind (all_ev tw h2 hN) ?_
  refine Aid.ite (fun _ => ?_) (fun hc => absurd rfl hc)
  refine Aid.ite (fun _ => t _) (fun h1 => ?_)
  refine Aid.ite (fun _ => t _) (fun h3 => ?_)
  have : a = b := by rcases h with h | h | h
                     · exact absurd h h1
                     · exact absurd h h3
                     · exact h
  rw [show (a == b) = true from by rw [beq_iff_eq]; exact this]
  exact t _
/-- what is known of a pair of a round -/
theorem mem_round (h2 : 2 ≤ N) (hN : N ≤ 32) {p : S61} (hp : p ∈ roundL N rd) : ∃ x y : Nat, p = ⟨(x : Int), (y : Int)⟩ ∧ x < mm N ∧ y < mm N ∧ x ≠ y ∧ refC (mm N) x y = (rd % (mm N - 1), decide (rd < mm N - 1)) ∧ refC (mm N) y x = (rd % (mm N - 1), !decide (rd < mm N - 1)) := by
  have hm : mm N = 2 * ((N + 1) / 2) := rfl
  have hr : rd % (mm N - 1) < mm N - 1 := Nat.mod_lt _ (by omega)
  have hb := (b1 hN hr).2
  unfold roundL at hp
  by_cases hs : mm N - 1 ≤ rd
  · rw [if_pos hs, List.mem_map] at hp
    obtain ⟨q, hq, rfl⟩ := hp
    rw [List.mem_map] at hq
    obtain ⟨q, hq, rfl⟩ := hq
    obtain ⟨g1, g2, g3, g4, g5⟩ := hb q hq
    refine ⟨q.2, q.1, rfl, g2, g1, fun e => g3 e.symm, ?_, ?_⟩
    · rw [g5, decide_eq_false (show ¬ rd < mm N - 1 by omega)]
    · rw [g4, decide_eq_false (show ¬ rd < mm N - 1 by omega)]; rfl
  · rw [if_neg hs, List.mem_map] at hp
    obtain ⟨q, hq, rfl⟩ := hp
    obtain ⟨g1, g2, g3, g4, g5⟩ := hb q hq
    refine ⟨q.1, q.2, rfl, g1, g2, g3, ?_, ?_⟩
    · rw [g4, decide_eq_true (show rd < mm N - 1 by omega)]
    · rw [g5, decide_eq_true (show rd < mm N - 1 by omega)]; rfl
theorem len_round (h2 : 2 ≤ N) (hN : N ≤ 32) : (roundL N rd).length = N / 2 := by
  have hm : mm N = 2 * ((N + 1) / 2) := rfl
  have hr : rd % (mm N - 1) < mm N - 1 := Nat.mod_lt _ (by omega)
  unfold roundL
  split <;> simp only [List.length_map] <;> exact (b1 hN hr).1
/-- the round in which two players meet -/
def tgt (N : Nat) (tw : Bool) (a b : Nat) : Nat := if tw = true ∧ (refC (mm N) a b).2 = false then (refC (mm N) a b).1 + (mm N - 1) else (refC (mm N) a b).1
def mt (tw : Bool) (a b : Nat) (p : S61) : Prop := (p.f0 = (a : Int) ∧ p.f1 = (b : Int)) ∨ (tw = false ∧ p.f0 = (b : Int) ∧ p.f1 = (a : Int))
theorem swap_ref (h2 : 2 ≤ N) (hN : N ≤ 32) {a b : Nat} (ha : a < N) (hb : b < N) (hab : a ≠ b) : refC (mm N) b a = ((refC (mm N) a b).1, !(refC (mm N) a b).2) := by
  obtain ⟨g1, g2⟩ := b2 hN ha hb hab
  have g := (b1 hN g1).2 _ g2
  cases hf : (refC (mm N) a b).2 with
  | true =>
    rw [hf] at g
    exact g.2.2.2.2
  | false =>
    rw [hf] at g
    exact g.2.2.2.1
theorem mt_tgt (h2 : 2 ≤ N) (hN : N ≤ 32) {a b : Nat} (ha : a < N) (hb : b < N) (hab : a ≠ b) (hrd : rd < KK N tw) {p : S61} (hp : p ∈ roundL N rd) (h : mt tw a b p) : rd = tgt N tw a b := by
  obtain ⟨x, y, rfl, g1, g2, g3, g4, g5⟩ := mem_round h2 hN hp
  rcases h with ⟨e1, e2⟩ | ⟨ht, e1, e2⟩
  · have e1 : x = a := Int.ofNat.inj e1
    have e2 : y = b := Int.ofNat.inj e2
    subst e1; subst e2
    unfold tgt
    rw [g4]
    unfold KK at hrd
    by_cases hs : rd < mm N - 1
    · rw [decide_eq_true hs, if_neg (by simp)]; exact (Nat.mod_eq_of_lt hs).symm
    · cases tw with
      | false => simp at hrd; omega
      | true =>
        rw [decide_eq_false hs, if_pos ⟨rfl, rfl⟩]
        simp at hrd
        show rd = rd % (mm N - 1) + (mm N - 1)
        rw [Nat.mod_eq_sub_mod (by omega), Nat.mod_eq_of_lt (by omega)]; omega
  · have e1 : x = b := Int.ofNat.inj e1
    have e2 : y = a := Int.ofNat.inj e2
    subst e1; subst e2; subst ht
    unfold KK at hrd
    rw [if_neg (by decide)] at hrd
    unfold tgt
    rw [if_neg (by simp), g5]
    exact (Nat.mod_eq_of_lt hrd).symm
theorem tgt_lt (h2 : 2 ≤ N) (hN : N ≤ 32) {a b : Nat} (ha : a < N) (hb : b < N) (hab : a ≠ b) : tgt N tw a b < KK N tw := by
  have g1 := (b2 hN ha hb hab).1
  unfold tgt KK
  by_cases h : tw = true
  · rw [if_pos h]; split <;> omega
  · rw [if_neg h, if_neg (fun q => h q.1)]; exact g1
theorem mt_ex (h2 : 2 ≤ N) (hN : N ≤ 32) {a b : Nat} (ha : a < N) (hb : b < N) (hab : a ≠ b) : ∃ p ∈ roundL N (tgt N tw a b), mt tw a b p := by
  obtain ⟨g1, g2⟩ := b2 hN ha hb hab
  have inj : ∀ q ∈ baseN N (refC (mm N) a b).1, toS q ∈ (baseN N (refC (mm N) a b).1).map toS := fun q hq => List.mem_map_of_mem hq
  have inj2 : ∀ q ∈ baseN N (refC (mm N) a b).1, flp (toS q) ∈ ((baseN N (refC (mm N) a b).1).map toS).map flp := fun q hq => List.mem_map_of_mem (inj q hq)
  cases hf : (refC (mm N) a b).2 with
  | true =>
    rw [hf] at g2
    have ht : tgt N tw a b = (refC (mm N) a b).1 := by
      unfold tgt; rw [hf]; exact if_neg (fun q => by simp at q)
    rw [ht]
    unfold roundL
    rw [if_neg (show ¬ mm N - 1 ≤ (refC (mm N) a b).1 by omega), Nat.mod_eq_of_lt g1]
    exact ⟨_, inj _ g2, .inl ⟨rfl, rfl⟩⟩
  | false =>
    rw [hf] at g2
    cases tw with
    | false =>
      have ht : tgt N false a b = (refC (mm N) a b).1 := by
        unfold tgt; exact if_neg (fun q => by simp at q)
      rw [ht]
      unfold roundL
      rw [if_neg (show ¬ mm N - 1 ≤ (refC (mm N) a b).1 by omega), Nat.mod_eq_of_lt g1]
      exact ⟨_, inj _ g2, .inr ⟨rfl, rfl, rfl⟩⟩
    | true =>
      have ht : tgt N true a b = (refC (mm N) a b).1 + (mm N - 1) := by
        unfold tgt; exact if_pos ⟨rfl, hf⟩
      rw [ht]
      unfold roundL
      rw [if_pos (show mm N - 1 ≤ (refC (mm N) a b).1 + (mm N - 1) by omega), Nat.add_mod_right, Nat.mod_eq_of_lt g1]
      exact ⟨_, inj2 _ g2, .inl ⟨rfl, rfl⟩⟩
theorem when_l1 {a b : Nat} (L : List (List S61)) (x12 x42 x43 : Int) (xs : List S61) (hx : xs.length ≤ 100) (res : Int × Int) : ∀ d j : Nat, j + d = xs.length →
    (((∃ j0, j ≤ j0 ∧ ∃ h : j0 < xs.length, mt tw a b xs[j0]) ∧ res = (x12, 0)) ∨ ((∀ j0, j ≤ j0 → ∀ h : j0 < xs.length, ¬ mt tw a b xs[j0]) ∧ Ev (fun k => robin_When.l0 k tw (a : Int) (b : Int) L x42 (wrap64 (x43 + 1))) res)) →
    Ev (fun k => robin_When.l1 k tw (a : Int) (b : Int) L x12 x42 x43 xs (xs.length : Int) (j : Int)) res := by
  intro d
  induction d with
  | zero =>
    intro j hj hyp
    refine Ev.step (fun k => by rw [robin_When.l1]) ?_
    refine Aid.ite (fun hc => absurd hc (by omega)) (fun _ => ?_)
    rcases hyp with ⟨⟨j0, q1, q2, _⟩, _⟩ | ⟨_, hyp⟩
    · omega
    · exact hyp
  | succ d ih =>
    intro j hj hyp
    have hw := Aside0.mk (show wrap64 ((j : Int) + 1) = ((j + 1 : Nat) : Int) from by rw [w64s (by omega) (by omega)]; omega)
    have hlt : j < xs.length := by omega
    have hr := Aside0.mk (rd61 xs j hlt)
    have found : mt tw a b xs[j] → Ev (fun _ => some (x12, (0 : Int))) res := by
      intro hm
      rcases hyp with ⟨_, hres⟩ | ⟨hn, _⟩
      · exact now hres.symm
      · exact absurd hm (hn j (Nat.le_refl j) hlt)
    have next : ¬ mt tw a b xs[j] → Ev (fun k => robin_When.l1 k tw (a : Int) (b : Int) L x12 x42 x43 xs (xs.length : Int) (wrap64 ((j : Int) + 1))) res := by
      intro hm
      rw [hw.out]
      refine ih (j + 1) (by omega) ?_
      rcases hyp with ⟨⟨j0, q1, q2, q3⟩, hres⟩ | ⟨hn, hyp⟩
      · refine .inl ⟨⟨j0, ?_, q2, q3⟩, hres⟩
        by_cases e0 : j0 = j
        · subst e0; exact absurd q3 hm
        · omega
      · exact .inr ⟨fun j0 h0 h => hn j0 (by omega) h, hyp⟩
    refine Ev.step (fun k => by rw [robin_When.l1]) ?_
    rw [hr.out]
    generalize xs[j] = p at found next
    refine Aid.ite (fun _ => ?_) (fun hc => absurd (show (j : Int) < (xs.length : Int) by omega) hc)
    refine Aid.ite (fun _ => ?_) (fun hc => absurd (show (0 : Int) ≤ (j : Int) by omega) hc)
    refine Aid.ite (fun _ => ?_) (fun hc => absurd (show (j : Int) < (xs.length : Int) by omega) hc)
    have tail : ¬ (p.f0 = (a : Int) ∧ p.f1 = (b : Int)) → Ev (fun k => if tw = true then robin_When.l1 k tw (a : Int) (b : Int) L x12 x42 x43 xs (xs.length : Int) (wrap64 ((j : Int) + 1)) else (if p.f0 = (b : Int) then (if p.f1 = (a : Int) then some (x12, 0) else robin_When.l1 k tw (a : Int) (b : Int) L x12 x42 x43 xs (xs.length : Int) (wrap64 ((j : Int) + 1))) else robin_When.l1 k tw (a : Int) (b : Int) L x12 x42 x43 xs (xs.length : Int) (wrap64 ((j : Int) + 1)))) res := by
      intro hn
      refine Aid.ite (fun ht => next (fun q => ?_)) (fun ht => ?_)
      · rcases q with q | q
        · exact hn q
        · rw [ht] at q; exact absurd q.1 (by decide)
      · have ht : tw = false := by simpa using ht
        refine Aid.ite (fun e1 => ?_) (fun e1 => next (fun q => ?_))
        · refine Aid.ite (fun e2 => found (.inr ⟨ht, e1, e2⟩)) (fun e2 => next (fun q => ?_))
          rcases q with q | q
          · exact hn q
          · exact e2 q.2.2
        · rcases q with q | q
          · exact hn q
          · exact e1 q.2.1
    refine Aid.ite (fun e1 => ?_) (fun e1 => tail (fun q => e1 q.1))
    exact Aid.ite (fun e2 => found (.inl ⟨e1, e2⟩)) (fun e2 => tail (fun q => e2 q.2))
theorem when_l0 (h2 : 2 ≤ N) (hN : N ≤ 32) {a b : Nat} (ha : a < N) (hb : b < N) (hab : a ≠ b) (L : List (List S61)) (hL : L = (List.range' 0 (KK N tw)).map (roundL N)) : ∀ d i : Nat, i + d = tgt N tw a b → Ev (fun k => robin_When.l0 k tw (a : Int) (b : Int) L ((KK N tw : Nat) : Int) (i : Int)) ((tgt N tw a b : Nat), 0) := by
  have ht := tgt_lt (tw := tw) h2 hN ha hb hab
  have hK : KK N tw ≤ 62 := by unfold KK mm; split <;> omega
  have hlen : L.length = KK N tw := by rw [hL]; simp
  intro d
  induction d with
  | zero =>
    intro i hi
    have hi : i = tgt N tw a b := by omega
    refine Ev.step (fun k => by rw [robin_When.l0]) ?_
    rw [rdL2 L i (by omega)]
    have hg : L[i]'(by omega) = roundL N i := by subst hL; simp
    rw [hg]
    refine Aid.ite (fun _ => ?_) (fun hc => absurd (show (i : Int) < ((KK N tw : Nat) : Int) by omega) hc)
    refine Aid.ite (fun _ => ?_) (fun hc => absurd (show (0 : Int) ≤ (i : Int) by omega) hc)
    refine Aid.ite (fun _ => ?_) (fun hc => absurd (show (i : Int) < (L.length : Int) by omega) hc)
    refine when_l1 L _ _ _ (roundL N i) (by rw [len_round h2 hN]; omega) _ (roundL N i).length 0 (by omega) (.inl ⟨?_, by rw [← hi]⟩)
    obtain ⟨p, hp, hm⟩ := mt_ex (tw := tw) h2 hN ha hb hab
    rw [← hi] at hp
    obtain ⟨j0, hj, e⟩ := List.mem_iff_getElem.mp hp
    exact ⟨j0, Nat.zero_le _, hj, by rw [e]; exact hm⟩
  | succ d ih =>
    intro i hi
    refine Ev.step (fun k => by rw [robin_When.l0]) ?_
    rw [rdL2 L i (by omega)]
    have hg : L[i]'(by omega) = roundL N i := by subst hL; simp
    rw [hg]
    refine Aid.ite (fun _ => ?_) (fun hc => absurd (show (i : Int) < ((KK N tw : Nat) : Int) by omega) hc)
    refine Aid.ite (fun _ => ?_) (fun hc => absurd (show (0 : Int) ≤ (i : Int) by omega) hc)
    refine Aid.ite (fun _ => ?_) (fun hc => absurd (show (i : Int) < (L.length : Int) by omega) hc)
    refine when_l1 L _ _ _ (roundL N i) (by rw [len_round h2 hN]; omega) _ (roundL N i).length 0 (by omega) (.inr ⟨?_, ?_⟩)
    · intro j0 _ hj hm
      have := mt_tgt h2 hN ha hb hab (show i < KK N tw by omega) (List.getElem_mem hj) hm
      omega
    · rw [show wrap64 ((i : Int) + 1) = ((i + 1 : Nat) : Int) from by rw [w64s (by omega) (by omega)]; omega]
      exact ih (i + 1) (by omega)
theorem when_ev (tw : Bool) (h2 : 2 ≤ N) (hN : N ≤ 32) {a b : Nat} (ha : a < N) (hb : b < N) (hab : a ≠ b) : Ev (fun k => robin_When.f k (N : Int) tw (a : Int) (b : Int)) ((tgt N tw a b : Nat), 0) := by
  unfold robin_When.f
  refine Ev.bind (all_ev tw h2 hN) ?_
  refine Aid.ite (fun _ => ?_) (fun hc => absurd rfl hc)
  refine Aid.ite (fun hc => absurd hc (by unfold mn; split <;> omega)) (fun _ => ?_)
  refine Aid.ite (fun hc => absurd hc (by unfold mx; split <;> omega)) (fun _ => ?_)
  rw [show ((a : Int) == (b : Int)) = false from by rw [beq_eq_false_iff_ne]; exact fun q => hab (Int.ofNat.inj q)]
  refine Ev.step (fun k => by rw [robin_When.j0]) ?_
  refine Aid.ite (fun hc => absurd hc (by decide)) (fun _ => ?_)
  have hlen : ((List.range' 0 (KK N tw)).map (roundL N)).length = KK N tw := by simp
  dsimp only
  rw [hlen]
  exact when_l0 h2 hN ha hb hab _ rfl (tgt N tw a b) 0 (Nat.zero_add _)
/-! The law. -/
theorem ref_of (h2 : 2 ≤ N) (hN : N ≤ 32) {a b : Nat} (ha : a < mm N) (hb : b < mm N) (hab : a ≠ b) : Ev (fun k => gamehallref3_Round.f k ((mm N : Nat) : Int) (a : Int) (b : Int)) (((refC (mm N) a b).1 : Int), (refC (mm N) a b).2) :=
  ref_f (h := (N + 1) / 2) (by omega) (by omega) ha hb hab
theorem ok_true : Ev (fun k => gamehalllaw3_rounds.f k) true := by
  unfold gamehalllaw3_rounds.f
  refine Ev.bind (rounds_ev (N := 2) false (by omega) (by omega)) ?_
  exact Aid.ite (fun _ => now (by decide)) (fun hc => absurd rfl hc)
theorem law_bad (n : Int) (tw : Bool) (h : n < 2 ∨ n > 32) (a b q : Int) : Ev (fun k => gamehalllaw3_RobinMeets.f k n tw a b q) true := by
  unfold gamehalllaw3_RobinMeets.f
  refine Ev.bind ok_true ?_
  refine Aid.ite (fun _ => ?_) (fun hc => absurd rfl hc)
  refine Ev.bind (rounds_bad n tw h) ?_
  refine Ev.bind (round_bad n tw h q) ?_
  refine Ev.bind (bye_bad n tw h q) ?_
  refine Ev.bind (when_bad n tw h a b) ?_
  have t : Ev (fun k => gamehalllaw3_RobinMeets.j0 k n tw a b q 0 4 [] 4 0 4 0 4 true) true := by
    refine Ev.step (fun k => by rw [gamehalllaw3_RobinMeets.j0]) ?_
    refine Aid.ite (fun _ => ?_) (fun hc => absurd rfl hc)
    refine Aid.ite (fun _ => ?_) (fun hc => absurd rfl hc)
    refine Aid.ite (fun _ => ?_) (fun hc => absurd rfl hc)
    refine Aid.ite (fun _ => ?_) (fun hc => absurd rfl hc)
    refine Aid.ite (fun _ => ?_) (fun hc => absurd rfl hc)
    exact now (by decide +kernel)
  refine Aid.ite (fun _ => t) (fun hc => ?_)
  rw [decide_eq_true (show n > 32 by omega)]; exact t
theorem j6_arg (tw : Bool) (a b : Int) (h : mn a b < 0 ∨ mx a b ≥ (N : Int) ∨ a = b) : Ev (fun k => gamehalllaw3_RobinMeets.j6 k (N : Int) tw a b 0 1 ((mm N : Nat) : Int)) true := by
  have t : Ev (fun k => gamehalllaw3_RobinMeets.j7 k tw a b 0 1 ((mm N : Nat) : Int) true) true := by
    refine Ev.step (fun k => by rw [gamehalllaw3_RobinMeets.j7]) ?_
    refine Aid.ite (fun _ => ?_) (fun hc => absurd rfl hc)
    exact Aid.ite (fun _ => now rfl) (fun hc => absurd rfl hc)
  refine Ev.step (fun k => by rw [gamehalllaw3_RobinMeets.j6]) ?_
  refine Aid.ite (fun _ => t) (fun h1 => ?_)
  refine Aid.ite (fun _ => t) (fun h3 => ?_)
  have : a = b := by rcases h with h | h | h
                     · exact absurd h h1
                     · exact absurd h h3
                     · exact h
  rw [show (a == b) = true from by rw [beq_iff_eq]; exact this]
  exact t
theorem j6_ok (tw : Bool) (h2 : 2 ≤ N) (hN : N ≤ 32) {a b : Nat} (ha : a < N) (hb : b < N) (hab : a ≠ b) : Ev (fun k => gamehalllaw3_RobinMeets.j6 k (N : Int) tw (a : Int) (b : Int) ((tgt N tw a b : Nat) : Int) 0 ((mm N : Nat) : Int)) true := by
  have hm : mm N = 2 * ((N + 1) / 2) := rfl
  have g1 := (b2 hN ha hb hab).1
  refine Ev.step (fun k => by rw [gamehalllaw3_RobinMeets.j6]) ?_
  refine Aid.ite (fun hc => absurd hc (by unfold mn; split <;> omega)) (fun _ => ?_)
  refine Aid.ite (fun hc => absurd hc (by unfold mx; split <;> omega)) (fun _ => ?_)
  rw [show ((a : Int) == (b : Int)) = false from by rw [beq_eq_false_iff_ne]; exact fun q => hab (Int.ofNat.inj q)]
  refine Ev.step (fun k => by rw [gamehalllaw3_RobinMeets.j7]) ?_
  refine Aid.ite (fun hc => absurd hc (by decide)) (fun _ => ?_)
  refine Ev.bind (ref_of h2 hN (by omega) (by omega) hab) ?_
  rw [wmm1 h2 hN]
  refine Aid.ite (fun ht => ?_) (fun ht => ?_)
  · refine Aid.ite (fun hf => ?_) (fun hf => ?_)
    · have hf : (refC (mm N) a b).2 = true := hf
      have e : tgt N tw a b = (refC (mm N) a b).1 := if_neg (fun q => by rw [hf] at q; simp at q)
      rw [e]
      exact Aid.ite (fun _ => now (by simp)) (fun hc => absurd rfl hc)
    · have hf : (refC (mm N) a b).2 = false := by simpa using hf
      have e : tgt N tw a b = (refC (mm N) a b).1 + (mm N - 1) := if_pos ⟨ht, hf⟩
      rw [e]
      refine Aid.ite (fun _ => now ?_) (fun hc => absurd rfl hc)
      dsimp only
      rw [w64 (n := ((refC (mm N) a b).1 : Int) + ((mm N - 1 : Nat) : Int)) (by omega) (by omega)]
      rw [beq_iff_eq]; omega
  · have e : tgt N tw a b = (refC (mm N) a b).1 := if_neg (fun q => ht q.1)
    rw [e]
    exact Aid.ite (fun _ => now (by simp)) (fun hc => absurd rfl hc)
theorem law_l0 (tw : Bool) (h2 : 2 ≤ N) (hN : N ≤ 32) (a b x17 x18 x15 : Int) (h15 : N % 2 = 1 → x15 = ((rd % (mm N - 1) : Nat) : Int)) (h6 : Ev (fun k => gamehalllaw3_RobinMeets.j6 k (N : Int) tw a b x17 x18 ((mm N : Nat) : Int)) true) :
    ∀ d i : Nat, i + d = (roundL N rd).length → Ev (fun k => gamehalllaw3_RobinMeets.l0 k (N : Int) tw a b (rd : Int) (roundL N rd) x15 x17 x18 ((mm N : Nat) : Int) ((roundL N rd).length : Int) (i : Int)) true := by
  have hm : mm N = 2 * ((N + 1) / 2) := rfl
  have hr : rd % (mm N - 1) < mm N - 1 := Nat.mod_lt _ (by omega)
  have hlen : (roundL N rd).length = N / 2 := len_round h2 hN
  have hM : Int.tmod (rd : Int) ((mm N - 1 : Nat) : Int) = ((rd % (mm N - 1) : Nat) : Int) := rfl
  have hz : ¬ ((mm N - 1 : Nat) : Int) = 0 := by omega
  intro d
  induction d with
  | zero =>
    intro i hi
    refine Ev.step (fun k => by rw [gamehalllaw3_RobinMeets.l0]) ?_
    refine Aid.ite (fun hc => absurd hc (by omega)) (fun _ => ?_)
    rw [show Int.tmod (N : Int) 2 = ((N % 2 : Nat) : Int) from rfl]
    refine Aid.ite (fun hp => ?_) (fun _ => h6)
    have hp : N % 2 = 1 := by omega
    have hne : rd % (mm N - 1) ≠ mm N - 1 := by omega
    rw [h15 hp, wmm1 h2 hN]
    refine Ev.bind (ref_of h2 hN (by omega) (by omega) hne) ?_
    refine Aid.ite (fun hc => absurd hc hz) (fun _ => ?_)
    rw [hM]
    refine Aid.ite (fun _ => h6) (fun hc => absurd ?_ hc)
    show (((refC (mm N) (rd % (mm N - 1)) (mm N - 1)).1 : Nat) : Int) = _
    rw [show refC (mm N) (rd % (mm N - 1)) (mm N - 1) = (rd % (mm N - 1), rd % (mm N - 1) % 2 == 0) from if_pos rfl]
  | succ d ih =>
    intro i hi
    have hw := Aside0.mk (show wrap64 ((i : Int) + 1) = ((i + 1 : Nat) : Int) from by rw [w64s (by omega) (by omega)]; omega)
    have hlt : i < (roundL N rd).length := by omega
    obtain ⟨x, y, e, g1, g2, g3, g4, g5⟩ := mem_round h2 hN (List.getElem_mem hlt)
    have hr2 := Aside0.mk ((rd61 _ i hlt).trans e)
    refine Ev.step (fun k => by rw [gamehalllaw3_RobinMeets.l0]) ?_
    rw [hr2.out, hw.out, wmm1 h2 hN, hM]
    refine Aid.ite (fun _ => ?_) (fun hc => absurd (show (i : Int) < ((roundL N rd).length : Int) by omega) hc)
    refine Aid.ite (fun _ => ?_) (fun hc => absurd (show (0 : Int) ≤ (i : Int) by omega) hc)
    refine Aid.ite (fun _ => ?_) (fun hc => absurd (show (i : Int) < ((roundL N rd).length : Int) by omega) hc)
    refine Ev.bind (ref_of h2 hN g1 g2 g3) ?_
    rw [g4]
    refine Aid.ite (fun hc => absurd hc hz) (fun _ => ?_)
    refine Aid.ite (fun _ => ?_) (fun hc => absurd rfl hc)
    refine Aid.ite (fun hc => absurd hc ?_) (fun _ => ih (i + 1) (by omega))
    have : decide (rd < mm N - 1) = decide ((rd : Int) < ((mm N - 1 : Nat) : Int)) := by apply decide_eq_decide.mpr; omega
    rw [this]
    simp
theorem law_of (tw : Bool) (h2 : 2 ≤ N) (hN : N ≤ 32) (a b x17 x18 q : Int) (hW : Ev (fun k => robin_When.f k (N : Int) tw a b) (x17, x18)) (h6 : Ev (fun k => gamehalllaw3_RobinMeets.j6 k (N : Int) tw a b x17 x18 ((mm N : Nat) : Int)) true) : Ev (fun k => gamehalllaw3_RobinMeets.f k (N : Int) tw a b q) true := by
  have hm : mm N = 2 * ((N + 1) / 2) := rfl
  have j0to : ∀ (x13 : List S61) (x14 x15 x16 : Int), Ev (fun k => gamehalllaw3_RobinMeets.j2 k (N : Int) tw a b q ((KK N tw : Nat) : Int) x13 x14 x15 x16 x17 x18 ((mm N : Nat) : Int) false) true → Ev (fun k => gamehalllaw3_RobinMeets.j0 k (N : Int) tw a b q ((KK N tw : Nat) : Int) 0 x13 x14 x15 x16 x17 x18 false) true := by
    intro x13 x14 x15 x16 e
    refine Ev.step (fun k => by rw [gamehalllaw3_RobinMeets.j0]) ?_
    refine Aid.ite (fun hc => absurd hc (by decide)) (fun _ => ?_)
    rw [wmm h2 hN, wmm1 h2 hN]
    have j1 : ∀ x20 : Int, x20 = ((KK N tw : Nat) : Int) → Ev (fun k => gamehalllaw3_RobinMeets.j1 k (N : Int) tw a b q ((KK N tw : Nat) : Int) 0 x13 x14 x15 x16 x17 x18 ((mm N : Nat) : Int) x20) true := by
      intro x20 hx
      refine Ev.step (fun k => by rw [gamehalllaw3_RobinMeets.j1]) ?_
      refine Aid.ite (fun _ => ?_) (fun hc => absurd rfl hc)
      rw [show (((KK N tw : Nat) : Int) != x20) = false from by rw [hx]; simp]
      exact e
    refine Aid.ite (fun ht => j1 _ ?_) (fun ht => j1 _ ?_)
    · unfold KK; rw [if_pos ht, w64 (by omega) (by omega)]; omega
    · unfold KK; rw [if_neg ht]
  have fto : ∀ (x13 : List S61) (x14 x15 x16 : Int), Ev (fun k => robin_Round.f k (N : Int) tw q) (x13, x14) → Ev (fun k => robin_Bye.f k (N : Int) tw q) (x15, x16) → Ev (fun k => gamehalllaw3_RobinMeets.j2 k (N : Int) tw a b q ((KK N tw : Nat) : Int) x13 x14 x15 x16 x17 x18 ((mm N : Nat) : Int) false) true → Ev (fun k => gamehalllaw3_RobinMeets.f k (N : Int) tw a b q) true := by
    intro x13 x14 x15 x16 e1 e2 e
    unfold gamehalllaw3_RobinMeets.f
    refine Ev.bind ok_true ?_
    refine Aid.ite (fun _ => ?_) (fun hc => absurd rfl hc)
    refine Ev.bind (rounds_ev tw h2 hN) ?_
    refine Ev.bind e1 ?_
    refine Ev.bind e2 ?_
    refine Ev.bind hW ?_
    refine Aid.ite (fun hc => absurd hc (by omega)) (fun _ => ?_)
    rw [decide_eq_false (show ¬ (N : Int) > 32 by omega)]
    exact j0to x13 x14 x15 x16 e
  by_cases hq : q < 0 ∨ q ≥ ((KK N tw : Nat) : Int)
  · refine fto [] 1 0 1 (round_arg tw h2 hN q hq) (bye_arg tw h2 hN q hq) ?_
    have t : Ev (fun k => gamehalllaw3_RobinMeets.j3 k (N : Int) tw a b q [] 1 0 1 x17 x18 ((mm N : Nat) : Int) true) true := by
      refine Ev.step (fun k => by rw [gamehalllaw3_RobinMeets.j3]) ?_
      refine Aid.ite (fun _ => ?_) (fun hc => absurd rfl hc)
      refine Aid.ite (fun _ => ?_) (fun hc => absurd rfl hc)
      refine Aid.ite (fun _ => ?_) (fun hc => absurd rfl hc)
      exact Aid.ite (fun _ => h6) (fun hc => absurd (by decide +kernel) hc)
    refine Ev.step (fun k => by rw [gamehalllaw3_RobinMeets.j2]) ?_
    refine Aid.ite (fun hc => absurd hc (by decide)) (fun _ => ?_)
    refine Aid.ite (fun _ => t) (fun hc => ?_)
    rw [decide_eq_true (show q ≥ ((KK N tw : Nat) : Int) by omega)]; exact t
  · obtain ⟨rd, rfl⟩ : ∃ rd : Nat, q = (rd : Int) := ⟨q.toNat, by omega⟩
    have hrd : rd < KK N tw := by omega
    refine fto _ 0 _ 0 (round_ev tw h2 hN hrd) (bye_ev tw h2 hN hrd) ?_
    refine Ev.step (fun k => by rw [gamehalllaw3_RobinMeets.j2]) ?_
    refine Aid.ite (fun hc => absurd hc (by decide)) (fun _ => ?_)
    refine Aid.ite (fun hc => absurd hc (by omega)) (fun _ => ?_)
    rw [decide_eq_false (show ¬ (rd : Int) ≥ ((KK N tw : Nat) : Int) by omega)]
    refine Ev.step (fun k => by rw [gamehalllaw3_RobinMeets.j3]) ?_
    refine Aid.ite (fun hc => absurd hc (by decide)) (fun _ => ?_)
    refine Aid.ite (fun _ => ?_) (fun hc => absurd rfl hc)
    refine Aid.ite (fun _ => ?_) (fun hc => absurd rfl hc)
    have hd : wrap64 (Int.tdiv (N : Int) 2) = ((N / 2 : Nat) : Int) := by
      rw [show Int.tdiv (N : Int) 2 = ((N / 2 : Nat) : Int) from rfl, w64 (by omega) (by omega)]
    rw [hd]
    refine Aid.ite (fun _ => ?_) (fun hc => absurd (by rw [len_round h2 hN]) hc)
    have hb : ((Int.tmod (N : Int) 2 == 0) != ((if N % 2 = 0 then (-1 : Int) else ((rd % (mm N - 1) : Nat) : Int)) == -1)) = false := by
      rw [par_nat]
      by_cases hp : N % 2 = 0
      · rw [if_pos hp, hp]; rfl
      · rw [if_neg hp]
        have h1 : (N % 2 == 0) = false := by rw [beq_eq_false_iff_ne]; exact hp
        have h2' : (((rd % (mm N - 1) : Nat) : Int) == -1) = false := by rw [beq_eq_false_iff_ne]; omega
        rw [h1, h2']; rfl
    rw [hb]
    refine Ev.step (fun k => by rw [gamehalllaw3_RobinMeets.j4]) ?_
    refine Aid.ite (fun hc => absurd hc (by decide)) (fun _ => ?_)
    exact law_l0 tw h2 hN a b x17 x18 _ (fun hp => if_neg (by omega)) h6 _ 0 (Nat.zero_add _)
end
end Rm
theorem RobinMeets : gamehalllaw3_RobinMeets.Pure := by
  intro a0 a1 a2 a3 a4 _ _ _ _
  have main : Ev (fun k => gamehalllaw3_RobinMeets.f k a0 a1 a2 a3 a4) true := by
    by_cases hn : a0 < 2 ∨ a0 > 32
    · exact Rm.law_bad a0 a1 hn a2 a3 a4
    · obtain ⟨N, rfl⟩ : ∃ N : Nat, a0 = (N : Int) := ⟨a0.toNat, by omega⟩
      by_cases ha : mn a2 a3 < 0 ∨ mx a2 a3 ≥ (N : Int) ∨ a2 = a3
      · exact Rm.law_of a1 (by omega) (by omega) a2 a3 0 1 a4 (Rm.when_arg a1 (by omega) (by omega) a2 a3 ha) (Rm.j6_arg a1 a2 a3 ha)
      · have h1 : 0 ≤ a2 ∧ 0 ≤ a3 ∧ a2 < N ∧ a3 < N ∧ a2 ≠ a3 := by
          have q1 : ¬ mn a2 a3 < 0 := fun q => ha (.inl q)
          have q2 : ¬ mx a2 a3 ≥ (N : Int) := fun q => ha (.inr (.inl q))
          have q3 : ¬ a2 = a3 := fun q => ha (.inr (.inr q))
          unfold mn at q1; unfold mx at q2
          split at q1 <;> split at q2 <;> omega
        obtain ⟨a, rfl⟩ : ∃ a : Nat, a2 = (a : Int) := ⟨a2.toNat, by omega⟩
        obtain ⟨b, rfl⟩ : ∃ b : Nat, a3 = (b : Int) := ⟨a3.toNat, by omega⟩
        exact Rm.law_of a1 (by omega) (by omega) _ _ _ 0 a4 (Rm.when_ev a1 (by omega) (by omega) (by omega) (by omega) (by omega)) (Rm.j6_ok a1 (by omega) (by omega) (by omega) (by omega) (by omega))
  obtain ⟨K, e⟩ := main
  exact ⟨K, e K (Nat.le_refl K)⟩
end Go.Proofs.Ytcncilipmekfhaa.Pure
