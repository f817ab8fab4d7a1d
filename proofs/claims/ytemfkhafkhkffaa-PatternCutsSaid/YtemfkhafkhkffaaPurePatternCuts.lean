/- PatternCuts: for every input the law answers true. A cut has the cells of its rectangle, a mirrored pattern those of the other side. -/
import Derived.Test.YtemfkhafkhkffaaPPatternCutsx8
import Derived.Test.YtemfkhafkhkffaaRulesSide
import Derived.Test.YtemfkhafkhkffaaAid
namespace Go.Proofs.Ytemfkhafkhkffaa.Pure
open Go.RowKit Go.Proofs.Ytemfkhafkhkffaa.PPatternCuts Go.Proofs.YtemfkhafkhkffaaW.PrintWords Go.Proofs.YtemfkhafkhkffaaW.PrintLast
set_option linter.unusedSimpArgs false
set_option linter.unusedVariables false
namespace Pc
open Aid Rc
theorem xite {α : Type} {c : Prop} [Decidable c] {A B : Nat → Option α} {Q : α → Prop} (h1 : c → ∃ r, Ev A r ∧ Q r) (h2 : ¬ c → ∃ r, Ev B r ∧ Q r) : ∃ r, Ev (fun k => if c then A k else B k) r ∧ Q r := by
  by_cases h : c
  · obtain ⟨r, e, q⟩ := h1 h; exact ⟨r, ite (fun _ => e) (fun hn => absurd h hn), q⟩
  · obtain ⟨r, e, q⟩ := h2 h; exact ⟨r, ite (fun hy => absurd hy h) (fun _ => e), q⟩
theorem xstep {α : Type} {g g' : Nat → Option α} {Q : α → Prop} (h : ∀ k, g (k + 1) = g' k) (e : ∃ r, Ev g' r ∧ Q r) : ∃ r, Ev g r ∧ Q r := by
  obtain ⟨r, e, q⟩ := e; exact ⟨r, Ev.step h e, q⟩
theorem xnow {α : Type} {Q : α → Prop} (r : α) (q : Q r) : ∃ r', Ev (fun _ => some r) r' ∧ Q r' := ⟨r, Ev.now _, q⟩
theorem xbind {α β : Type} {g : Nat → Option α} {f : Nat → α → Option β} {Q : β → Prop} {a : α} (h : Ev g a) (k : ∃ r, Ev (fun n => f n a) r ∧ Q r) : ∃ r, Ev (fun n => (g n).bind (f n)) r ∧ Q r := by
  obtain ⟨r, e, q⟩ := k; exact ⟨r, Ev.bind h e, q⟩
/-- places -/
theorem chk_l2 (x1 : S47) (x9 : List Int) (x66 : Int) (c1 c2 : List Int) (hl : x9.length ≤ 140737488351232) (hr : ∃ r, Ev (fun k => place_Check.l1 k (wrap64 (x66 + 1)) c1 c2 x1.f0 x1.f1.f0 x1.f1.f1 x1.f2 x1.f3) r ∧ True) : ∀ (d i : Nat), i + d = x9.length → ∃ r, Ev (fun k => place_Check.l2 k x66 x9 (x9.length : Int) (i : Int) c1 c2 x1.f0 x1.f1.f0 x1.f1.f1 x1.f2 x1.f3) r ∧ True := by
  intro d
  induction d with
  | zero => exact fun i hi => xstep (fun k => by rw [place_Check.l2]) (xite (fun h => absurd h (by omega)) (fun _ => hr))
  | succ d ih =>
    intro i hi
    have e := ih (i + 1) (by omega)
    rw [show ((i + 1 : Nat) : Int) = wrap64 ((i : Int) + 1) by rw [w64s (by omega) (by omega)]; omega] at e
    refine xstep (fun k => by rw [place_Check.l2]) ?_
    refine xite (fun _ => ?_) (fun h => absurd (show (i : Int) < (x9.length : Int) by omega) h)
    refine xite (fun _ => ?_) (fun h => absurd (show (0 : Int) ≤ (i : Int) by omega) h)
    refine xite (fun _ => ?_) (fun h => absurd (show (i : Int) < (x9.length : Int) by omega) h)
    exact xite (fun _ => xnow _ trivial) (fun _ => xite (fun _ => xnow _ trivial) (fun _ => e))
theorem chk_l1_2 (x1 : S47) (c1 c2 : List Int) : ∃ r, Ev (fun k => place_Check.l1 k 2 c1 c2 x1.f0 x1.f1.f0 x1.f1.f1 x1.f2 x1.f3) r ∧ True := by
  refine xstep (fun k => by rw [place_Check.l1]) (xite (fun h => absurd h (by decide)) (fun _ => ?_))
  refine xite (fun _ => ?_) (fun _ => xite (fun _ => ?_) (fun _ => xnow _ trivial)) <;> exact xite (fun _ => xnow _ trivial) (fun _ => xite (fun _ => xnow _ trivial) (fun _ => xnow _ trivial))
theorem chk_l1_1 (x1 : S47) (c1 c2 : List Int) (h2 : c2.length ≤ 140737488351232) : ∃ r, Ev (fun k => place_Check.l1 k 1 c1 c2 x1.f0 x1.f1.f0 x1.f1.f1 x1.f2 x1.f3) r ∧ True := by
  refine xstep (fun k => by rw [place_Check.l1]) (xite (fun _ => ?_) (fun h => absurd (by decide) h))
  refine xite (fun _ => ?_) (fun h => absurd (by decide) h)
  refine xite (fun h => absurd h (by decide)) (fun _ => ?_)
  refine xstep (fun k => by rw [place_Check.j3]) ?_
  exact chk_l2 x1 c2 1 c1 c2 h2 (by rw [show wrap64 (1 + 1) = 2 by decide +kernel]; exact chk_l1_2 x1 c1 c2) c2.length 0 (by omega)
theorem chk_l1_0 (x1 : S47) (c1 c2 : List Int) (h1 : c1.length ≤ 140737488351232) (h2 : c2.length ≤ 140737488351232) : ∃ r, Ev (fun k => place_Check.l1 k 0 c1 c2 x1.f0 x1.f1.f0 x1.f1.f1 x1.f2 x1.f3) r ∧ True := by
  refine xstep (fun k => by rw [place_Check.l1]) (xite (fun _ => ?_) (fun h => absurd (by decide) h))
  refine xite (fun _ => ?_) (fun h => absurd (by decide) h)
  refine xite (fun _ => ?_) (fun h => absurd rfl h)
  refine xstep (fun k => by rw [place_Check.j3]) ?_
  exact chk_l2 x1 c1 0 c1 c2 h1 (by rw [show wrap64 (0 + 1) = 1 by decide +kernel]; exact chk_l1_1 x1 c1 c2 h2) c1.length 0 (by omega)
theorem chk_l0 (x0 : S44) (x1 : S47) (hw : wf47 x1) : ∀ (d i : Nat), i + d = x1.f0.length → ∃ r, Ev (fun k => place_Check.l0 k x1.f0 (x1.f0.length : Int) (i : Int) x0.f0 x0.f1 x0.f2 x0.f3 x0.f4 x0.f5 x0.f6 x0.f7 x0.f8 x0.f9 x0.f10 x1.f0 x1.f1.f0 x1.f1.f1 x1.f2 x1.f3) r ∧ True := by
  have hl0 : x1.f0.length ≤ 140737488351232 := by have := hw.1.1; omega
  have hl1 : x1.f1.f0.length ≤ 140737488351232 := by have := hw.2.1.1.1; omega
  have hl2 : x1.f1.f1.length ≤ 140737488351232 := by have := hw.2.1.2.1; omega
  intro d
  induction d with
  | zero => exact fun i hi => xstep (fun k => by rw [place_Check.l0]) (xite (fun h => absurd h (by omega)) (fun _ => chk_l1_0 x1 x1.f1.f0 x1.f1.f1 hl1 hl2))
  | succ d ih =>
    intro i hi
    have e := ih (i + 1) (by omega)
    rw [show ((i + 1 : Nat) : Int) = wrap64 ((i : Int) + 1) by rw [w64s (by omega) (by omega)]; omega] at e
    refine xstep (fun k => by rw [place_Check.l0]) ?_
    refine xite (fun _ => ?_) (fun h => absurd (show (i : Int) < (x1.f0.length : Int) by omega) h)
    refine xite (fun _ => ?_) (fun h => absurd (show (0 : Int) ≤ (i : Int) by omega) h)
    refine xite (fun _ => ?_) (fun h => absurd (show (i : Int) < (x1.f0.length : Int) by omega) h)
    exact xite (fun _ => xnow _ trivial) (fun _ => xite (fun _ => xnow _ trivial) (fun _ => e))
theorem chk_j0 (x0 : S44) (x1 : S47) (hw : wf47 x1) (b : Bool) : ∃ r, Ev (fun k => place_Check.j0 k b x0.f0 x0.f1 x0.f2 x0.f3 x0.f4 x0.f5 x0.f6 x0.f7 x0.f8 x0.f9 x0.f10 x1.f0 x1.f1.f0 x1.f1.f1 x1.f2 x1.f3) r ∧ True := by
  refine xstep (fun k => by rw [place_Check.j0]) (xite (fun _ => xnow _ trivial) (fun _ => ?_))
  exact chk_l0 x0 x1 hw x1.f0.length 0 (by omega)
theorem chk_j0t (x0 : S44) (x1 : S47) : Ev (fun k => place_Check.j0 k true x0.f0 x0.f1 x0.f2 x0.f3 x0.f4 x0.f5 x0.f6 x0.f7 x0.f8 x0.f9 x0.f10 x1.f0 x1.f1.f0 x1.f1.f1 x1.f2 x1.f3) 3 := Ev.step (fun k => by rw [place_Check.j0]) (ite (fun _ => Ev.now _) (fun h => absurd rfl h))
theorem place_ev (x0 : S44) (x1 : S47) (h0 : wf44 x0) (h1 : wf47 x1) : ∃ p, Ev (fun k => place_Check.f k x0.f0 x0.f1 x0.f2 x0.f3 x0.f4 x0.f5 x0.f6 x0.f7 x0.f8 x0.f9 x0.f10 x1.f0 x1.f1.f0 x1.f1.f1 x1.f2 x1.f3) p ∧ (p = 0 → (1 ≤ x0.f1 ∧ x0.f1 ≤ 8 ∧ 1 ≤ x0.f2 ∧ x0.f2 ≤ 8) ∧ (x1.f0.length : Int) = wrap64 (x0.f1 * x0.f2)) := by
  obtain ⟨e, he, hf⟩ := rules_ev x0 h0
  unfold place_Check.f
  refine xbind he ?_
  refine xite (fun h => ?_) (fun h => xnow _ (fun h' => absurd h' h))
  have hr := (hf h).1
  refine xite (fun hl => ?_) (fun _ => ⟨3, chk_j0t x0 x1, fun h => absurd h (by decide)⟩)
  refine xite (fun _ => ?_) (fun _ => ⟨3, chk_j0t x0 x1, fun h => absurd h (by decide)⟩)
  obtain ⟨r, er, _⟩ := chk_j0 x0 x1 h1 ((x1.f1.f1.length : Int) != (x0.f3.length : Int))
  exact ⟨r, er, fun _ => ⟨hr, hl⟩⟩
/-- patterns -/
theorem pat_l0 (x0 : S44) (x2 : S49) (hl : x2.f2.length ≤ 140737488351232) : ∀ (d i : Nat), i + d = x2.f2.length → ∃ r, Ev (fun k => pattern_Check.l0 k x2.f2 (x2.f2.length : Int) (i : Int) x0.f0 x0.f1 x0.f2 x0.f3 x0.f4 x0.f5 x0.f6 x0.f7 x0.f8 x0.f9 x0.f10 x2.f0 x2.f1 x2.f2 x2.f3) r ∧ Ev (fun k => gamehalllaw3_patternFault.l0 k x2.f2 (x2.f2.length : Int) (i : Int) x0.f0 x0.f1 x0.f2 x0.f3 x0.f4 x0.f5 x0.f6 x0.f7 x0.f8 x0.f9 x0.f10 x2.f0 x2.f1 x2.f2 x2.f3) r := by
  intro d
  induction d with
  | zero =>
    intro i hi
    refine ⟨if x2.f3 < (-1) then 4 else if x2.f3 > 1 then 4 else 0, Ev.step (fun k => by rw [pattern_Check.l0]) (ite (fun h => absurd h (by omega)) (fun _ => ?_)), Ev.step (fun k => by rw [gamehalllaw3_patternFault.l0]) (ite (fun h => absurd h (by omega)) (fun _ => ?_))⟩ <;>
    exact ite (fun h => now (by rw [if_pos h])) (fun h => by rw [if_neg h]; exact ite (fun h => now (by rw [if_pos h])) (fun h => now (by rw [if_neg h])))
  | succ d ih =>
    intro i hi
    obtain ⟨r, e1, e2⟩ := ih (i + 1) (by omega)
    rw [show ((i + 1 : Nat) : Int) = wrap64 ((i : Int) + 1) by rw [w64s (by omega) (by omega)]; omega] at e1 e2
    refine ⟨if rd x2.f2 (i : Int) < (-3) then 4 else if rd x2.f2 (i : Int) > wrap64 (2 * (x0.f3.length : Int)) then 4 else r, Ev.step (fun k => by rw [pattern_Check.l0]) ?_, Ev.step (fun k => by rw [gamehalllaw3_patternFault.l0]) ?_⟩
    · refine ite (fun _ => ?_) (fun h => absurd (show (i : Int) < (x2.f2.length : Int) by omega) h)
      refine ite (fun _ => ?_) (fun h => absurd (show (0 : Int) ≤ (i : Int) by omega) h)
      refine ite (fun _ => ?_) (fun h => absurd (show (i : Int) < (x2.f2.length : Int) by omega) h)
      exact ite (fun h => now (by rw [if_pos h])) (fun h => by rw [if_neg h]; exact ite (fun h => now (by rw [if_pos h])) (fun h => by rw [if_neg h]; exact e1))
    · refine ite (fun _ => ?_) (fun h => absurd (show (i : Int) < (x2.f2.length : Int) by omega) h)
      refine ite (fun _ => ?_) (fun h => absurd (show (0 : Int) ≤ (i : Int) by omega) h)
      refine ite (fun _ => ?_) (fun h => absurd (show (i : Int) < (x2.f2.length : Int) by omega) h)
      exact ite (fun h => now (by rw [if_pos h])) (fun h => by rw [if_neg h]; exact ite (fun h => now (by rw [if_pos h])) (fun h => by rw [if_neg h]; exact e2))
theorem pat_j0 (x0 : S44) (x2 : S49) (hl : x2.f2.length ≤ 140737488351232) (b : Bool) : ∃ r, Ev (fun k => pattern_Check.j0 k b x0.f0 x0.f1 x0.f2 x0.f3 x0.f4 x0.f5 x0.f6 x0.f7 x0.f8 x0.f9 x0.f10 x2.f0 x2.f1 x2.f2 x2.f3) r ∧ Ev (fun k => gamehalllaw3_patternFault.j0 k b x0.f0 x0.f1 x0.f2 x0.f3 x0.f4 x0.f5 x0.f6 x0.f7 x0.f8 x0.f9 x0.f10 x2.f0 x2.f1 x2.f2 x2.f3) r ∧ (r = 0 → b = false ∧ (x2.f2.length : Int) = wrap64 (x2.f0 * x2.f1)) := by
  cases b
  · by_cases h : (x2.f2.length : Int) = wrap64 (x2.f0 * x2.f1)
    · obtain ⟨r, e1, e2⟩ := pat_l0 x0 x2 hl x2.f2.length 0 (by omega)
      have e1 : Ev (fun k => pattern_Check.l0 k x2.f2 (x2.f2.length : Int) 0 x0.f0 x0.f1 x0.f2 x0.f3 x0.f4 x0.f5 x0.f6 x0.f7 x0.f8 x0.f9 x0.f10 x2.f0 x2.f1 x2.f2 x2.f3) r := e1
      have e2 : Ev (fun k => gamehalllaw3_patternFault.l0 k x2.f2 (x2.f2.length : Int) 0 x0.f0 x0.f1 x0.f2 x0.f3 x0.f4 x0.f5 x0.f6 x0.f7 x0.f8 x0.f9 x0.f10 x2.f0 x2.f1 x2.f2 x2.f3) r := e2
      exact ⟨r, Ev.step (fun k => by rw [pattern_Check.j0]) (ite (fun h => absurd h (by decide)) (fun _ => ite (fun _ => e1) (fun hn => absurd h hn))), Ev.step (fun k => by rw [gamehalllaw3_patternFault.j0]) (ite (fun h => absurd h (by decide)) (fun _ => ite (fun _ => e2) (fun hn => absurd h hn))), fun _ => ⟨rfl, h⟩⟩
    · exact ⟨3, Ev.step (fun k => by rw [pattern_Check.j0]) (ite (fun h => absurd h (by decide)) (fun _ => ite (fun hy => absurd hy h) (fun _ => Ev.now _))), Ev.step (fun k => by rw [gamehalllaw3_patternFault.j0]) (ite (fun h => absurd h (by decide)) (fun _ => ite (fun hy => absurd hy h) (fun _ => Ev.now _))), fun h => absurd h (by decide)⟩
  · exact ⟨4, Ev.step (fun k => by rw [pattern_Check.j0]) (ite (fun _ => Ev.now _) (fun h => absurd rfl h)), Ev.step (fun k => by rw [gamehalllaw3_patternFault.j0]) (ite (fun _ => Ev.now _) (fun h => absurd rfl h)), fun h => absurd h (by decide)⟩
theorem pat_ev (x0 : S44) (x2 : S49) (h0 : wf44 x0) (h2 : wf49 x2) : ∃ c, Ev (fun k => pattern_Check.f k x0.f0 x0.f1 x0.f2 x0.f3 x0.f4 x0.f5 x0.f6 x0.f7 x0.f8 x0.f9 x0.f10 x2.f0 x2.f1 x2.f2 x2.f3) c ∧ Ev (fun k => gamehalllaw3_patternFault.f k x0.f0 x0.f1 x0.f2 x0.f3 x0.f4 x0.f5 x0.f6 x0.f7 x0.f8 x0.f9 x0.f10 x2.f0 x2.f1 x2.f2 x2.f3) c ∧ (c = 0 → (1 ≤ x2.f0 ∧ x2.f0 ≤ 8 ∧ 1 ≤ x2.f1 ∧ x2.f1 ≤ 8) ∧ (x2.f2.length : Int) = wrap64 (x2.f0 * x2.f1)) := by
  obtain ⟨e, he, hf⟩ := rules_ev x0 h0
  have hl : x2.f2.length ≤ 140737488351232 := by have := h2.2.2.1.1; omega
  by_cases e0 : e = 0
  · have hr := (hf e0).1
    by_cases hb : x2.f0 < 1 ∨ x2.f1 < 1 ∨ x2.f0 > x0.f1
    · obtain ⟨r, e1, e2, h⟩ := pat_j0 x0 x2 hl true
      refine ⟨r, Ev.bind he ?_, Ev.bind he ?_, fun h' => absurd (h h').1 (by decide)⟩
      · refine ite (fun _ => ?_) (fun h => absurd e0 h)
        exact ite (fun _ => e1) (fun h1 => ite (fun _ => e1) (fun h2 => ite (fun _ => e1) (fun h3 => by omega)))
      · refine ite (fun _ => ?_) (fun h => absurd e0 h)
        exact ite (fun _ => e2) (fun h1 => ite (fun _ => e2) (fun h2 => ite (fun _ => e2) (fun h3 => by omega)))
    · obtain ⟨r, e1, e2, h⟩ := pat_j0 x0 x2 hl (decide (x2.f1 > x0.f2))
      refine ⟨r, Ev.bind he ?_, Ev.bind he ?_, fun h' => ⟨?_, (h h').2⟩⟩
      · refine ite (fun _ => ?_) (fun h => absurd e0 h)
        exact ite (fun h => absurd (.inl h) hb) (fun h1 => ite (fun h => absurd (.inr (.inl h)) hb) (fun h2 => ite (fun h => absurd (.inr (.inr h)) hb) (fun h3 => e1)))
      · refine ite (fun _ => ?_) (fun h => absurd e0 h)
        exact ite (fun h => absurd (.inl h) hb) (fun h1 => ite (fun h => absurd (.inr (.inr h)) hb) (fun h2 => ite (fun h => absurd (.inr (.inl h)) hb) (fun h3 => e2)))
      · have := (h h').1
        simp only [decide_eq_false_iff_not] at this
        omega
  · exact ⟨e, Ev.bind he (ite (fun h => absurd h e0) (fun _ => Ev.now _)), Ev.bind he (ite (fun h => absurd h e0) (fun _ => Ev.now _)), fun h => absurd h e0⟩
/-- where the cells lie -/
theorem cut_idx (W sq w i : Nat) (hi : i ≤ 64) (hW : W ≤ 8) (hs : sq ≤ 64) : wrap64 (wrap64 ((sq : Int) + wrap64 (wrap64 (Int.tdiv (i : Int) (w : Int)) * (W : Int))) + Int.tmod (i : Int) (w : Int)) = ((sq + i / w * W + i % w : Nat) : Int) := by
  have e1 : Int.tdiv (i : Int) (w : Int) = ((i / w : Nat) : Int) := rfl
  have e2 : Int.tmod (i : Int) (w : Int) = ((i % w : Nat) : Int) := rfl
  have h1 : i / w ≤ i := Nat.div_le_self i w
  have h2 : i % w ≤ i := Nat.mod_le i w
  have h3 : i / w * W ≤ 64 * 8 := Nat.mul_le_mul (by omega) hW
  rw [e1, e2]
  clear e1 e2
  generalize i / w = q at *
  generalize i % w = u at *
  have e3 : ((q : Nat) : Int) * (W : Int) = ((q * W : Nat) : Int) := by simp
  rw [w64 (n := ((q : Nat) : Int)) (by omega) (by omega), e3]
  clear e3
  generalize q * W = m at *
  rw [w64 (n := (m : Int)) (by omega) (by omega), w64 (n := (sq : Int) + (m : Int)) (by omega) (by omega), w64 (by omega) (by omega)]
  omega
theorem cut_in (W H sq w h i : Nat) (hw : sq % W + w ≤ W) (hh : sq / W + h ≤ H) (hi : i < w * h) : sq + i / w * W + i % w < W * H := by
  have hw0 : 0 < w := by
    rcases Nat.eq_zero_or_pos w with e | e
    · subst e; simp at hi
    · exact e
  have q1 : i / w < h := Nat.div_lt_of_lt_mul hi
  have u1 : i % w < w := Nat.mod_lt _ hw0
  have s1 : W * (sq / W) + sq % W = sq := Nat.div_add_mod sq W
  have m1 : (sq / W + i / w + 1) * W ≤ H * W := Nat.mul_le_mul_right W (by omega)
  have m2 : (sq / W + i / w + 1) * W = W * (sq / W) + i / w * W + W := by rw [Nat.add_mul, Nat.add_mul, Nat.one_mul, Nat.mul_comm (sq / W) W]
  have m3 : H * W = W * H := Nat.mul_comm _ _
  omega
theorem qr (w v u : Nat) (hu : u < w) : (v * w + u) / w = v ∧ (v * w + u) % w = u := by
  have hw0 : 0 < w := by omega
  constructor
  · rw [Nat.add_comm, Nat.add_mul_div_right _ _ hw0, Nat.div_eq_of_lt hu, Nat.zero_add]
  · rw [Nat.add_comm, Nat.add_mul_mod_self_right, Nat.mod_eq_of_lt hu]
def mirI (w i : Nat) : Nat := i / w * w + (w - 1 - i % w)
theorem mir_idx (w i : Nat) (hw0 : 0 < w) (hw : w ≤ 8) (hi : i ≤ 64) : wrap64 (wrap64 (wrap64 (wrap64 (wrap64 (Int.tdiv (i : Int) (w : Int)) * (w : Int)) + (w : Int)) - 1) - Int.tmod (i : Int) (w : Int)) = ((mirI w i : Nat) : Int) := by
  unfold mirI
  have e1 : Int.tdiv (i : Int) (w : Int) = ((i / w : Nat) : Int) := rfl
  have e2 : Int.tmod (i : Int) (w : Int) = ((i % w : Nat) : Int) := rfl
  have h1 : i / w ≤ i := Nat.div_le_self i w
  have h2 : i % w < w := Nat.mod_lt _ hw0
  have h3 : i / w * w ≤ 64 * 8 := Nat.mul_le_mul (by omega) hw
  rw [e1, e2]
  clear e1 e2
  generalize i / w = q at *
  generalize i % w = u at *
  have e3 : ((q : Nat) : Int) * (w : Int) = ((q * w : Nat) : Int) := by simp
  rw [w64 (n := ((q : Nat) : Int)) (by omega) (by omega), e3]
  clear e3
  generalize q * w = m at *
  rw [w64 (n := (m : Int)) (by omega) (by omega), w64 (n := (m : Int) + (w : Int)) (by omega) (by omega), w64 (n := (m : Int) + (w : Int) - 1) (by omega) (by omega), w64 (by omega) (by omega)]
  omega
theorem mir_lt (w h i : Nat) (hw0 : 0 < w) (hi : i < w * h) : mirI w i < w * h := by
  unfold mirI
  have q1 : i / w < h := Nat.div_lt_of_lt_mul hi
  have m1 : (i / w + 1) * w ≤ h * w := Nat.mul_le_mul_right w q1
  have m2 : (i / w + 1) * w = i / w * w + w := by rw [Nat.add_mul, Nat.one_mul]
  have m3 : h * w = w * h := Nat.mul_comm _ _
  omega
theorem mir_mir (w i : Nat) (hw0 : 0 < w) : mirI w (mirI w i) = i := by
  have hu : i % w < w := Nat.mod_lt _ hw0
  have h := qr w (i / w) (w - 1 - i % w) (by omega)
  have e : w * (i / w) + i % w = i := Nat.div_add_mod i w
  have e2 : w * (i / w) = i / w * w := Nat.mul_comm _ _
  show mirI w i / w * w + (w - 1 - mirI w i % w) = i
  rw [show mirI w i / w = i / w from h.1, show mirI w i % w = w - 1 - i % w from h.2]
  omega
theorem rd_map (n : Nat) (f : Nat → Int) (i : Nat) (hi : i < n) : rd ((List.range n).map f) (i : Int) = f i := by
  simp [rd, List.getD_eq_getElem?_getD, hi]
/-- a cut -/
theorem cut_l0 (x0 : S44) (x1 : S47) (W sq w n : Nat) (hW1 : x0.f1 = (W : Int)) (hw0 : 0 < w) (hW : W ≤ 8) (hs : sq ≤ 64) (hn : n ≤ 64) (hb : ∀ i, i < n → sq + i / w * W + i % w < x1.f0.length) (z1 z2 z4 : Int) : ∀ (d i : Nat), i + d = n →
    Ev (fun k => pattern_Cut.l0 k (sq : Int) (w : Int) (n : Int) (i : Int) x0.f0 x0.f1 x0.f2 x0.f3 x0.f4 x0.f5 x0.f6 x0.f7 x0.f8 x0.f9 x0.f10 x1.f0 x1.f1.f0 x1.f1.f1 x1.f2 x1.f3 z1 z2 ((List.range i).map fun j => rd x1.f0 ((sq + j / w * W + j % w : Nat) : Int)) z4) (z1, z2, (List.range n).map fun j => rd x1.f0 ((sq + j / w * W + j % w : Nat) : Int), z4, 0) := by
  intro d
  induction d with
  | zero =>
    intro i hi
    obtain rfl : i = n := by omega
    exact Ev.step (fun k => by rw [pattern_Cut.l0]) (ite (fun h => absurd h (by omega)) (fun _ => Ev.now _))
  | succ d ih =>
    intro i hi
    have e := ih (i + 1) (by omega)
    have hin := hb i (by omega)
    refine Ev.step (fun k => by rw [pattern_Cut.l0]) ?_
    refine ite (fun _ => ?_) (fun h => absurd (show (i : Int) < (n : Int) by omega) h)
    refine ite (fun h => absurd h (by omega)) (fun _ => ?_)
    rw [hW1, cut_idx W sq w i (by omega) hW hs]
    refine ite (fun _ => ?_) (fun h => absurd (Int.natCast_nonneg _) h)
    refine ite (fun _ => ?_) (fun h => absurd (Int.ofNat_lt.2 hin) h)
    refine ite (fun _ => ?_) (fun h => absurd (show _ < 17592186044416 by rw [List.length_map, List.length_range]; omega) h)
    rw [w64s (by omega) (by omega), ← hW1]
    rw [List.range_succ, List.map_append] at e
    exact e
def bad (x0 : S44) (x1 : S47) (sq w h : Int) : Prop := sq < 0 ∨ sq ≥ (x1.f0.length : Int) ∨ w < 1 ∨ h < 1 ∨ w > x0.f1 - Int.tmod sq x0.f1 ∨ h > x0.f2 - Int.tdiv sq x0.f1
theorem cut_j0t (x0 : S44) (x1 : S47) (a b c : Int) : Ev (fun k => pattern_Cut.j0 k a b c true x0.f0 x0.f1 x0.f2 x0.f3 x0.f4 x0.f5 x0.f6 x0.f7 x0.f8 x0.f9 x0.f10 x1.f0 x1.f1.f0 x1.f1.f1 x1.f2 x1.f3) (0, 0, [], 0, 4) := Ev.step (fun k => by rw [pattern_Cut.j0]) (ite (fun _ => Ev.now _) (fun h => absurd rfl h))
/-- the numbers of a good cut -/
theorem good_nat (x0 : S44) (x1 : S47) (sq w h : Int) (hr : 1 ≤ x0.f1 ∧ x0.f1 ≤ 8 ∧ 1 ≤ x0.f2 ∧ x0.f2 ≤ 8) (hl : (x1.f0.length : Int) = wrap64 (x0.f1 * x0.f2)) (hb : ¬ bad x0 x1 sq w h) :
    ∃ W H s v u : Nat, x0.f1 = (W : Int) ∧ x0.f2 = (H : Int) ∧ sq = (s : Int) ∧ w = (v : Int) ∧ h = (u : Int) ∧ 1 ≤ W ∧ W ≤ 8 ∧ 1 ≤ H ∧ H ≤ 8 ∧ x1.f0.length = W * H ∧ s < W * H ∧ 1 ≤ v ∧ 1 ≤ u ∧ s % W + v ≤ W ∧ s / W + u ≤ H ∧ W * H ≤ 64 ∧ v * u ≤ 64 := by
  unfold bad at hb
  simp only [not_or] at hb
  obtain ⟨h1, h2, h3, h4, h5, h6⟩ := hb
  obtain ⟨W, eW⟩ : ∃ n : Nat, x0.f1 = (n : Int) := ⟨x0.f1.toNat, by omega⟩
  obtain ⟨H, eH⟩ : ∃ n : Nat, x0.f2 = (n : Int) := ⟨x0.f2.toNat, by omega⟩
  obtain ⟨s, rfl⟩ : ∃ n : Nat, sq = (n : Int) := ⟨sq.toNat, by omega⟩
  obtain ⟨v, rfl⟩ : ∃ n : Nat, w = (n : Int) := ⟨w.toNat, by omega⟩
  obtain ⟨u, rfl⟩ : ∃ n : Nat, h = (n : Int) := ⟨h.toNat, by omega⟩
  rw [eW] at h5 h6 hl
  rw [eH] at h6 hl
  have e1 : Int.tmod (s : Int) (W : Int) = ((s % W : Nat) : Int) := rfl
  have e2 : Int.tdiv (s : Int) (W : Int) = ((s / W : Nat) : Int) := rfl
  have e3 : (W : Int) * (H : Int) = ((W * H : Nat) : Int) := by simp
  have b1 : W * H ≤ 8 * 8 := Nat.mul_le_mul (by omega) (by omega)
  rw [e3, w64 (by omega) (by omega)] at hl
  rw [e1] at h5
  rw [e2] at h6
  clear e1 e2
  have c1 : s % W + v ≤ W := by
    generalize s % W = m at *
    omega
  have c2 : s / W + u ≤ H := by
    generalize s / W = m at *
    omega
  have d1 : v ≤ 8 := by
    generalize s % W = m at *
    omega
  have d2 : u ≤ 8 := by
    generalize s / W = m at *
    omega
  have b2 : v * u ≤ 8 * 8 := Nat.mul_le_mul d1 d2
  refine ⟨W, H, s, v, u, eW, eH, rfl, rfl, rfl, by omega, by omega, by omega, by omega, by omega, by omega, by omega, by omega, c1, c2, by omega, by omega⟩
theorem cut_f0 (x0 : S44) (x1 : S47) (sq w h : Int) (hp : Ev (fun k => place_Check.f k x0.f0 x0.f1 x0.f2 x0.f3 x0.f4 x0.f5 x0.f6 x0.f7 x0.f8 x0.f9 x0.f10 x1.f0 x1.f1.f0 x1.f1.f1 x1.f2 x1.f3) 0) (hr : 1 ≤ x0.f1 ∧ x0.f1 ≤ 8 ∧ 1 ≤ x0.f2 ∧ x0.f2 ≤ 8) (hl : (x1.f0.length : Int) = wrap64 (x0.f1 * x0.f2))
    (hsq : -9223372036854775808 ≤ sq ∧ sq ≤ 9223372036854775807) (hw : -9223372036854775808 ≤ w ∧ w ≤ 9223372036854775807) (hh : -9223372036854775808 ≤ h ∧ h ≤ 9223372036854775807) :
    (bad x0 x1 sq w h → Ev (fun k => pattern_Cut.f k x0.f0 x0.f1 x0.f2 x0.f3 x0.f4 x0.f5 x0.f6 x0.f7 x0.f8 x0.f9 x0.f10 x1.f0 x1.f1.f0 x1.f1.f1 x1.f2 x1.f3 sq w h) (0, 0, [], 0, 4)) ∧
    (¬ bad x0 x1 sq w h → ∀ W s v u : Nat, x0.f1 = (W : Int) → sq = (s : Int) → w = (v : Int) → h = (u : Int) → Ev (fun k => pattern_Cut.f k x0.f0 x0.f1 x0.f2 x0.f3 x0.f4 x0.f5 x0.f6 x0.f7 x0.f8 x0.f9 x0.f10 x1.f0 x1.f1.f0 x1.f1.f1 x1.f2 x1.f3 sq w h) (w, h, (List.range (v * u)).map fun j => rd x1.f0 ((s + j / v * W + j % v : Nat) : Int), x1.f2, 0)) := by
  have jt := cut_j0t x0 x1 sq w h
  constructor
  · intro hb
    unfold pattern_Cut.f
    refine Ev.bind hp (ite (fun _ => ?_) (fun h => absurd rfl h))
    refine ite (fun _ => jt) (fun h1 => ite (fun _ => jt) (fun h2 => ite (fun _ => jt) (fun h3 => ite (fun _ => jt) (fun h4 => ite (fun _ => jt) (fun h5 => ite (fun _ => jt) (fun h6 => ?_))))))
    refine ite (fun h => by omega) (fun h7 => ?_)
    have b1 : 0 ≤ Int.tmod sq x0.f1 := Int.tmod_nonneg _ (by omega)
    have b2 : Int.tmod sq x0.f1 < x0.f1 := Int.tmod_lt_of_pos _ (by omega)
    have b3 : 0 ≤ Int.tdiv sq x0.f1 := Int.tdiv_nonneg (by omega) (by omega)
    have b4 : Int.tdiv sq x0.f1 ≤ sq := Int.tdiv_le_self _ (by omega)
    have b5 : sq < 64 := by
      obtain ⟨W, eW⟩ : ∃ n : Nat, x0.f1 = (n : Int) := ⟨x0.f1.toNat, by omega⟩
      obtain ⟨H, eH⟩ : ∃ n : Nat, x0.f2 = (n : Int) := ⟨x0.f2.toNat, by omega⟩
      have b1 : W * H ≤ 8 * 8 := Nat.mul_le_mul (by omega) (by omega)
      rw [eW, eH, show (W : Int) * (H : Int) = ((W * H : Nat) : Int) by simp, w64 (by omega) (by omega)] at hl
      omega
    unfold bad at hb
    rw [w64 (n := Int.tmod sq x0.f1 + w) (by omega) (by omega), w64 (n := Int.tdiv sq x0.f1) (by omega) (by omega), w64 (n := Int.tdiv sq x0.f1 + h) (by omega) (by omega)]
    refine ite (fun _ => jt) (fun h8 => ?_)
    rw [show decide (Int.tdiv sq x0.f1 + h > x0.f2) = true by simp only [decide_eq_true_eq]; omega]
    exact jt
  · intro hb W s v u eW es ev eu
    obtain ⟨W', H, s', v', u', eW', eH, es', ev', eu', g1, g2, g3, g4, g5, g6, g7, g8, g9, g10, g11, g12⟩ := good_nat x0 x1 sq w h hr hl hb
    obtain rfl : W' = W := by omega
    obtain rfl : s' = s := by omega
    obtain rfl : v' = v := by omega
    obtain rfl : u' = u := by omega
    have g9' := g9
    have g10' := g10
    obtain ⟨m, hm⟩ : ∃ m, m = s' % W' := ⟨_, rfl⟩
    obtain ⟨q, hq⟩ : ∃ q, q = s' / W' := ⟨_, rfl⟩
    have hqs : q ≤ s' := by rw [hq]; exact Nat.div_le_self _ _
    rw [← hm] at g9
    rw [← hq] at g10
    unfold pattern_Cut.f
    refine Ev.bind hp (ite (fun _ => ?_) (fun h => absurd rfl h))
    subst es; subst ev; subst eu
    refine ite (fun h => absurd h (by omega)) (fun _ => ite (fun h => absurd h (by omega)) (fun _ => ite (fun h => absurd h (by omega)) (fun _ => ite (fun h => absurd h (by omega)) (fun _ => ite (fun h => absurd h (by omega)) (fun _ => ite (fun h => absurd h (by omega)) (fun _ => ite (fun h => absurd h (by omega)) (fun _ => ?_)))))))
    have t1 : Int.tmod (s' : Int) x0.f1 = (m : Int) := by rw [eW, hm]; rfl
    have t2 : Int.tdiv (s' : Int) x0.f1 = (q : Int) := by rw [eW, hq]; rfl
    rw [t1, t2]
    clear t1 t2 hm hq
    rw [w64 (n := (m : Int) + (v' : Int)) (by omega) (by omega)]
    refine ite (fun h => absurd h (by omega)) (fun _ => ?_)
    rw [w64 (n := (q : Int)) (by omega) (by omega), w64 (n := (q : Int) + (u' : Int)) (by omega) (by omega)]
    rw [show decide ((q : Int) + (u' : Int) > x0.f2) = false by simp only [decide_eq_false_iff_not]; omega]
    refine Ev.step (fun k => by rw [pattern_Cut.j0]) (ite (fun h => absurd h (by decide)) (fun _ => ?_))
    rw [show (v' : Int) * (u' : Int) = ((v' * u' : Nat) : Int) by simp, w64 (n := ((v' * u' : Nat) : Int)) (by omega) (by omega)]
    exact cut_l0 x0 x1 W' s' v' (v' * u') eW (by omega) (by omega) (by omega) (by omega) (fun i hi => by rw [g5]; exact cut_in W' H s' v' u' i g9' g10' hi) _ _ _ (v' * u') 0 (by omega)
/-- a mirrored pattern -/
theorem mir_l0 (x2 : S49) (w n h : Nat) (ew : x2.f0 = (w : Int)) (hw0 : 0 < w) (hw : w ≤ 8) (hn : n = w * h) (h64 : n ≤ 64) (hlen : x2.f2.length = n) (z1 z2 z4 : Int) : ∀ (d i : Nat), i + d = n →
    Ev (fun k => pattern_Mirror.l0 k (n : Int) (i : Int) x2.f0 x2.f1 x2.f2 x2.f3 z1 z2 ((List.range i).map fun j => rd x2.f2 ((mirI w j : Nat) : Int)) z4) (z1, z2, (List.range n).map fun j => rd x2.f2 ((mirI w j : Nat) : Int), z4, 0) := by
  intro d
  induction d with
  | zero =>
    intro i hi
    obtain rfl : i = n := by omega
    exact Ev.step (fun k => by rw [pattern_Mirror.l0]) (ite (fun h => absurd h (by omega)) (fun _ => Ev.now _))
  | succ d ih =>
    intro i hi
    have e := ih (i + 1) (by omega)
    have hin := mir_lt w h i hw0 (by omega)
    refine Ev.step (fun k => by rw [pattern_Mirror.l0]) ?_
    refine ite (fun _ => ?_) (fun h => absurd (show (i : Int) < (n : Int) by omega) h)
    refine ite (fun h => absurd h (by omega)) (fun _ => ?_)
    rw [ew, mir_idx w i hw0 hw (by omega)]
    refine ite (fun _ => ?_) (fun h => absurd (Int.natCast_nonneg _) h)
    refine ite (fun _ => ?_) (fun h => absurd (show ((mirI w i : Nat) : Int) < (x2.f2.length : Int) by omega) h)
    refine ite (fun _ => ?_) (fun h => absurd (show _ < 17592186044416 by rw [List.length_map, List.length_range]; omega) h)
    rw [w64s (by omega) (by omega), ← ew]
    rw [List.range_succ, List.map_append] at e
    exact e
/-- the law's rounds -/
theorem law_l2 (x0 : S44) (x1 : S47) (W H s v u : Nat) (x14 : Int) (eW : x0.f1 = (W : Int)) (hW : W ≤ 8) (hH : H ≤ 8) (g5 : x1.f0.length = W * H) (hs : s < W * H) (hvu : v * u ≤ 64) (g9 : s % W + v ≤ W) (g10 : s / W + u ≤ H) (y1 y2 y4 : Int) (a : Nat) (ha : a < v) (x217 : Int)
    (hk : Ev (fun k => gamehalllaw3_PatternCuts.l1 k (s : Int) (v : Int) (u : Int) x217 (wrap64 ((a : Int) + 1)) x0.f0 x0.f1 x0.f2 x0.f3 x0.f4 x0.f5 x0.f6 x0.f7 x0.f8 x0.f9 x0.f10 x1.f0 x1.f1.f0 x1.f1.f1 x1.f2 x1.f3 y1 y2 ((List.range (v * u)).map fun j => rd x1.f0 ((s + j / v * W + j % v : Nat) : Int)) y4) true) : ∀ (d b : Nat), b + d = u →
    Ev (fun k => gamehalllaw3_PatternCuts.l2 k (s : Int) (v : Int) (u : Int) (a : Int) x217 (a : Int) (u : Int) (b : Int) x0.f0 x0.f1 x0.f2 x0.f3 x0.f4 x0.f5 x0.f6 x0.f7 x0.f8 x0.f9 x0.f10 x1.f0 x1.f1.f0 x1.f1.f1 x1.f2 x1.f3 y1 y2 ((List.range (v * u)).map fun j => rd x1.f0 ((s + j / v * W + j % v : Nat) : Int)) y4) true := by
  have hWH : W * H ≤ 8 * 8 := Nat.mul_le_mul hW hH
  have hu8 : u ≤ 8 := by
    generalize s / W = m at *
    omega
  intro d
  induction d with
  | zero => exact fun b hb => Ev.step (fun k => by rw [gamehalllaw3_PatternCuts.l2]) (ite (fun h => absurd h (by omega)) (fun _ => hk))
  | succ d ih =>
    intro b hb
    have e := ih (b + 1) (by omega)
    have hj : b * v + a < v * u := by
      have m1 : (b + 1) * v ≤ u * v := Nat.mul_le_mul_right v (by omega)
      have m2 : (b + 1) * v = b * v + v := by rw [Nat.add_mul, Nat.one_mul]
      have m3 : u * v = v * u := Nat.mul_comm _ _
      omega
    have hq := qr v b a ha
    have hin := cut_in W H s v u (b * v + a) g9 g10 hj
    rw [hq.1, hq.2] at hin
    have m4 : b * W ≤ 8 * 8 := Nat.mul_le_mul (by omega) hW
    have i1 : wrap64 (wrap64 ((b : Int) * (v : Int)) + (a : Int)) = ((b * v + a : Nat) : Int) := by
      rw [show (b : Int) * (v : Int) = ((b * v : Nat) : Int) by simp]
      generalize b * v = m at *
      rw [w64 (n := (m : Int)) (by omega) (by omega), w64 (by omega) (by omega)]
      omega
    have i2 : wrap64 (wrap64 ((s : Int) + wrap64 ((b : Int) * x0.f1)) + (a : Int)) = ((s + b * W + a : Nat) : Int) := by
      rw [eW, show (b : Int) * (W : Int) = ((b * W : Nat) : Int) by simp]
      generalize b * W = m at *
      rw [w64 (n := (m : Int)) (by omega) (by omega), w64 (n := (s : Int) + (m : Int)) (by omega) (by omega), w64 (by omega) (by omega)]
      omega
    refine Ev.step (fun k => by rw [gamehalllaw3_PatternCuts.l2]) ?_
    refine ite (fun _ => ?_) (fun h => absurd (show (b : Int) < (u : Int) by omega) h)
    rw [i1, i2]
    refine ite (fun _ => ?_) (fun h => absurd (Int.natCast_nonneg _) h)
    have l1 : ((b * v + a : Nat) : Int) < ((((List.range (v * u)).map fun j => rd x1.f0 ((s + j / v * W + j % v : Nat) : Int)).length : Nat) : Int) := by
      rw [List.length_map, List.length_range]; exact Int.ofNat_lt.2 hj
    have l2 : ((s + b * W + a : Nat) : Int) < (x1.f0.length : Int) := by rw [g5]; exact Int.ofNat_lt.2 hin
    have l3 : rd ((List.range (v * u)).map fun j => rd x1.f0 ((s + j / v * W + j % v : Nat) : Int)) ((b * v + a : Nat) : Int) = rd x1.f0 ((s + b * W + a : Nat) : Int) := by rw [rd_map _ _ _ hj, hq.1, hq.2]
    refine ite (fun _ => ?_) (fun h => absurd l1 h)
    refine ite (fun _ => ?_) (fun h => absurd (Int.natCast_nonneg _) h)
    refine ite (fun _ => ?_) (fun h => absurd l2 h)
    refine ite (fun _ => ?_) (fun h => absurd l3 h)
    rw [w64s (by omega) (by omega)]
    exact e
theorem law_l1 (x0 : S44) (x1 : S47) (W H s v u : Nat) (eW : x0.f1 = (W : Int)) (hW : W ≤ 8) (hH : H ≤ 8) (g5 : x1.f0.length = W * H) (hs : s < W * H) (hvu : v * u ≤ 64) (g9 : s % W + v ≤ W) (g10 : s / W + u ≤ H) (y1 y2 y4 : Int) : ∀ (d a : Nat), a + d = v →
    Ev (fun k => gamehalllaw3_PatternCuts.l1 k (s : Int) (v : Int) (u : Int) (v : Int) (a : Int) x0.f0 x0.f1 x0.f2 x0.f3 x0.f4 x0.f5 x0.f6 x0.f7 x0.f8 x0.f9 x0.f10 x1.f0 x1.f1.f0 x1.f1.f1 x1.f2 x1.f3 y1 y2 ((List.range (v * u)).map fun j => rd x1.f0 ((s + j / v * W + j % v : Nat) : Int)) y4) true := by
  intro d
  induction d with
  | zero => exact fun a ha => Ev.step (fun k => by rw [gamehalllaw3_PatternCuts.l1]) (ite (fun h => absurd h (by omega)) (fun _ => Ev.now _))
  | succ d ih =>
    intro a ha
    have e := ih (a + 1) (by omega)
    rw [show ((a + 1 : Nat) : Int) = wrap64 ((a : Int) + 1) by rw [w64s (by omega) (by omega)]; omega] at e
    refine Ev.step (fun k => by rw [gamehalllaw3_PatternCuts.l1]) ?_
    refine ite (fun _ => ?_) (fun h => absurd (show (a : Int) < (v : Int) by omega) h)
    exact law_l2 x0 x1 W H s v u 0 eW hW hH g5 hs hvu g9 g10 y1 y2 y4 a (by omega) (v : Int) e u 0 (by omega)
theorem law_j1 (x0 : S44) (x1 : S47) (h0 : wf44 x0) (h1 : wf47 x1) (sq w h : Int) (hsq : -9223372036854775808 ≤ sq ∧ sq ≤ 9223372036854775807) (hw : -9223372036854775808 ≤ w ∧ w ≤ 9223372036854775807) (hh : -9223372036854775808 ≤ h ∧ h ≤ 9223372036854775807) :
    ∃ y, Ev (fun k => pattern_Cut.f k x0.f0 x0.f1 x0.f2 x0.f3 x0.f4 x0.f5 x0.f6 x0.f7 x0.f8 x0.f9 x0.f10 x1.f0 x1.f1.f0 x1.f1.f1 x1.f2 x1.f3 sq w h) y ∧ Ev (fun k => gamehalllaw3_PatternCuts.j1 k sq w h y.2.2.2.2 x0.f0 x0.f1 x0.f2 x0.f3 x0.f4 x0.f5 x0.f6 x0.f7 x0.f8 x0.f9 x0.f10 x1.f0 x1.f1.f0 x1.f1.f1 x1.f2 x1.f3 y.1 y.2.1 y.2.2.1 y.2.2.2.1) true := by
  obtain ⟨p, hp, hf⟩ := place_ev x0 x1 h0 h1
  by_cases p0 : p = 0
  · subst p0
    obtain ⟨hr, hl⟩ := hf rfl
    obtain ⟨c1, c2⟩ := cut_f0 x0 x1 sq w h hp hr hl hsq hw hh
    by_cases hb : bad x0 x1 sq w h
    · refine ⟨_, c1 hb, ?_⟩
      have jt : Ev (fun k => gamehalllaw3_PatternCuts.j2 k sq w h 4 true x0.f0 x0.f1 x0.f2 x0.f3 x0.f4 x0.f5 x0.f6 x0.f7 x0.f8 x0.f9 x0.f10 x1.f0 x1.f1.f0 x1.f1.f1 x1.f2 x1.f3 0 0 [] 0) true := by
        refine Ev.step (fun k => by rw [gamehalllaw3_PatternCuts.j2]) ?_
        exact ite (fun _ => ite (fun _ => now rfl) (fun h => absurd rfl h)) (fun h => absurd rfl h)
      refine Ev.step (fun k => by rw [gamehalllaw3_PatternCuts.j1]) (Ev.bind hp (ite (fun _ => ?_) (fun h => absurd rfl h)))
      refine ite (fun _ => jt) (fun h1 => ite (fun _ => jt) (fun h2 => ite (fun _ => jt) (fun h3 => ite (fun _ => jt) (fun h4 => ?_))))
      refine ite (fun h => by omega) (fun h7 => ?_)
      have b1 : 0 ≤ Int.tmod sq x0.f1 := Int.tmod_nonneg _ (by omega)
      have b2 : Int.tmod sq x0.f1 < x0.f1 := Int.tmod_lt_of_pos _ (by omega)
      have b3 : 0 ≤ Int.tdiv sq x0.f1 := Int.tdiv_nonneg (by omega) (by omega)
      have b4 : Int.tdiv sq x0.f1 ≤ sq := Int.tdiv_le_self _ (by omega)
      have b5 : sq < 64 := by
        obtain ⟨W, eW⟩ : ∃ n : Nat, x0.f1 = (n : Int) := ⟨x0.f1.toNat, by omega⟩
        obtain ⟨H, eH⟩ : ∃ n : Nat, x0.f2 = (n : Int) := ⟨x0.f2.toNat, by omega⟩
        have b1 : W * H ≤ 8 * 8 := Nat.mul_le_mul (by omega) (by omega)
        rw [eW, eH, show (W : Int) * (H : Int) = ((W * H : Nat) : Int) by simp, w64 (by omega) (by omega)] at hl
        omega
      unfold bad at hb
      rw [w64 (n := x0.f1 - Int.tmod sq x0.f1) (by omega) (by omega), w64 (n := Int.tdiv sq x0.f1) (by omega) (by omega), w64 (n := x0.f2 - Int.tdiv sq x0.f1) (by omega) (by omega)]
      refine ite (fun _ => jt) (fun h8 => ?_)
      rw [show decide (h > x0.f2 - Int.tdiv sq x0.f1) = true by simp only [decide_eq_true_eq]; omega]
      exact jt
    · obtain ⟨W, H, s, v, u, eW, eH, rfl, rfl, rfl, g1, g2, g3, g4, g5, g6, g7, g8, g9, g10, g11, g12⟩ := good_nat x0 x1 sq w h hr hl hb
      refine ⟨_, c2 hb W s v u eW rfl rfl rfl, ?_⟩
      have g9' := g9
      have g10' := g10
      obtain ⟨m, hm⟩ : ∃ m, m = s % W := ⟨_, rfl⟩
      obtain ⟨q, hq⟩ : ∃ q, q = s / W := ⟨_, rfl⟩
      have hqs : q ≤ s := by rw [hq]; exact Nat.div_le_self _ _
      rw [← hm] at g9
      rw [← hq] at g10
      have t1 : Int.tmod (s : Int) x0.f1 = (m : Int) := by rw [eW, hm]; rfl
      have t2 : Int.tdiv (s : Int) x0.f1 = (q : Int) := by rw [eW, hq]; rfl
      refine Ev.step (fun k => by rw [gamehalllaw3_PatternCuts.j1]) (Ev.bind hp (ite (fun _ => ?_) (fun h => absurd rfl h)))
      refine ite (fun h => absurd h (by omega)) (fun _ => ite (fun h => absurd h (by omega)) (fun _ => ite (fun h => absurd h (by omega)) (fun _ => ite (fun h => absurd h (by omega)) (fun _ => ite (fun h => absurd h (by omega)) (fun _ => ?_)))))
      rw [t1, t2]
      clear t1 t2 hm hq
      rw [w64 (n := x0.f1 - (m : Int)) (by omega) (by omega), w64 (n := (q : Int)) (by omega) (by omega), w64 (n := x0.f2 - (q : Int)) (by omega) (by omega)]
      refine ite (fun h => absurd h (by omega)) (fun _ => ?_)
      rw [show decide ((u : Int) > x0.f2 - (q : Int)) = false by simp only [decide_eq_false_iff_not]; omega]
      refine Ev.step (fun k => by rw [gamehalllaw3_PatternCuts.j2]) (ite (fun h => absurd h (by decide)) (fun _ => ?_))
      refine ite (fun _ => ite (fun _ => ite (fun _ => ite (fun _ => ?_) (fun h => absurd rfl h)) (fun h => absurd rfl h)) (fun h => absurd rfl h)) (fun h => absurd rfl h)
      rw [show (((((List.range (v * u)).map fun j => rd x1.f0 ((s + j / v * W + j % v : Nat) : Int)).length : Nat) : Int) != wrap64 ((v : Int) * (u : Int))) = false by
        rw [List.length_map, List.length_range, show (v : Int) * (u : Int) = ((v * u : Nat) : Int) by simp, w64 (by omega) (by omega)]; simp]
      refine Ev.step (fun k => by rw [gamehalllaw3_PatternCuts.j3]) (ite (fun h => absurd h (by decide)) (fun _ => ?_))
      exact law_l1 x0 x1 W H s v u eW g2 g4 g5 g6 g12 g9' g10' _ _ _ v 0 (by omega)
  · refine ⟨(0, 0, [], 0, p), ?_, ?_⟩
    · unfold pattern_Cut.f
      exact Ev.bind hp (ite (fun h => absurd h p0) (fun _ => Ev.now _))
    · refine Ev.step (fun k => by rw [gamehalllaw3_PatternCuts.j1]) (Ev.bind hp (ite (fun h => absurd h p0) (fun _ => ?_)))
      exact ite (fun _ => now rfl) (fun h => absurd rfl h)
theorem law_l0 (x0 : S44) (x1 : S47) (x2 : S49) (w h n : Nat) (ew : x2.f0 = (w : Int)) (hw0 : 0 < w) (hw : w ≤ 8) (hn : n = w * h) (h64 : n ≤ 64) (hlen : x2.f2.length = n) (sq a b x14 y1 y2 y4 : Int) (y3 : List Int)
    (hj : Ev (fun k => gamehalllaw3_PatternCuts.j1 k sq a b x14 x0.f0 x0.f1 x0.f2 x0.f3 x0.f4 x0.f5 x0.f6 x0.f7 x0.f8 x0.f9 x0.f10 x1.f0 x1.f1.f0 x1.f1.f1 x1.f2 x1.f3 y1 y2 y3 y4) true) : ∀ (d i : Nat), i + d = n →
    Ev (fun k => gamehalllaw3_PatternCuts.l0 k sq a b x14 0 (n : Int) (i : Int) x0.f0 x0.f1 x0.f2 x0.f3 x0.f4 x0.f5 x0.f6 x0.f7 x0.f8 x0.f9 x0.f10 x1.f0 x1.f1.f0 x1.f1.f1 x1.f2 x1.f3 x2.f0 x2.f1 x2.f2 x2.f3 y1 y2 y3 y4 x2.f0 x2.f1 ((List.range n).map fun j => rd x2.f2 ((mirI w j : Nat) : Int)) x2.f3) true := by
  intro d
  induction d with
  | zero => exact fun i hi => Ev.step (fun k => by rw [gamehalllaw3_PatternCuts.l0]) (ite (fun h => absurd h (by omega)) (fun _ => hj))
  | succ d ih =>
    intro i hi
    have e := ih (i + 1) (by omega)
    have hin := mir_lt w h i hw0 (by omega)
    refine Ev.step (fun k => by rw [gamehalllaw3_PatternCuts.l0]) ?_
    refine ite (fun _ => ?_) (fun h => absurd (show (i : Int) < (n : Int) by omega) h)
    refine ite (fun h => absurd h (by omega)) (fun _ => ?_)
    refine ite (fun _ => ?_) (fun h => absurd rfl h)
    refine ite (fun _ => ?_) (fun h => absurd (by rw [List.length_map, List.length_range, hlen]) h)
    rw [ew, mir_idx w i hw0 hw (by omega), ← ew]
    refine ite (fun _ => ?_) (fun h => absurd (Int.natCast_nonneg _) h)
    refine ite (fun _ => ?_) (fun h => absurd (show ((mirI w i : Nat) : Int) < _ by rw [List.length_map, List.length_range]; omega) h)
    refine ite (fun _ => ?_) (fun h => absurd (show (0 : Int) ≤ (i : Int) by omega) h)
    refine ite (fun _ => ?_) (fun h => absurd (show (i : Int) < (x2.f2.length : Int) by omega) h)
    refine ite (fun _ => ?_) (fun h => absurd (by rw [rd_map _ _ _ (by omega), mir_mir w i hw0]) h)
    refine ite (fun _ => ite (fun _ => ite (fun _ => ?_) (fun h => absurd rfl h)) (fun h => absurd rfl h)) (fun h => absurd rfl h)
    rw [w64s (by omega) (by omega)]
    exact e
theorem patterns_ev : Ev (fun k => gamehalllaw3_patterns.f k) true := Ev.of (gamehalllaw3_patterns.mono) (k := 60) (by decide +kernel)
end Pc
open Pc Aid
theorem PatternCuts : gamehalllaw3_PatternCuts.Pure := by
  intro x0 x1 x2 a3 a4 a5 h0 h1 h2 h3 h4 h5
  obtain ⟨y, hy, hj⟩ := law_j1 x0 x1 h0 h1 a3 a4 a5 (wf_i64 h3) (wf_i64 h4) (wf_i64 h5)
  obtain ⟨c, hc1, hc2, hcf⟩ := pat_ev x0 x2 h0 h2
  suffices h : Ev (fun k => gamehalllaw3_PatternCuts.f k x0.f0 x0.f1 x0.f2 x0.f3 x0.f4 x0.f5 x0.f6 x0.f7 x0.f8 x0.f9 x0.f10 x1.f0 x1.f1.f0 x1.f1.f1 x1.f2 x1.f3 x2.f0 x2.f1 x2.f2 x2.f3 a3 a4 a5) true by
    obtain ⟨k, hk⟩ := h; exact ⟨k, hk k (Nat.le_refl _)⟩
  unfold gamehalllaw3_PatternCuts.f
  refine Ev.bind patterns_ev (ite (fun _ => ?_) (fun h => absurd rfl h))
  refine bind_now (a := decide ((x0.f4.length : Int) > 20)) rfl ?_
  refine ite (fun _ => Ev.now _) (fun _ => ?_)
  refine Ev.bind hy ?_
  by_cases c0 : c = 0
  · subst c0
    obtain ⟨hr, hl⟩ := hcf rfl
    obtain ⟨w, ew⟩ : ∃ n : Nat, x2.f0 = (n : Int) := ⟨x2.f0.toNat, by omega⟩
    obtain ⟨h, eh⟩ : ∃ n : Nat, x2.f1 = (n : Int) := ⟨x2.f1.toNat, by omega⟩
    have b1 : w * h ≤ 8 * 8 := Nat.mul_le_mul (by omega) (by omega)
    have hlen : x2.f2.length = w * h := by
      rw [ew, eh, show (w : Int) * (h : Int) = ((w * h : Nat) : Int) by simp, w64 (by omega) (by omega)] at hl
      omega
    have hm : Ev (fun k => pattern_Mirror.f k x0.f0 x0.f1 x0.f2 x0.f3 x0.f4 x0.f5 x0.f6 x0.f7 x0.f8 x0.f9 x0.f10 x2.f0 x2.f1 x2.f2 x2.f3) (x2.f0, x2.f1, (List.range (w * h)).map fun j => rd x2.f2 ((mirI w j : Nat) : Int), x2.f3, 0) := by
      unfold pattern_Mirror.f
      refine Ev.bind hc1 (ite (fun _ => ?_) (fun h => absurd rfl h))
      rw [hlen]
      exact mir_l0 x2 w (w * h) h ew (by omega) (by omega) rfl (by omega) hlen _ _ _ (w * h) 0 (by omega)
    refine Ev.bind hm (Ev.bind hc2 (ite (fun _ => ?_) (fun h => absurd rfl h)))
    rw [hlen]
    exact law_l0 x0 x1 x2 w h (w * h) ew (by omega) (by omega) rfl (by omega) hlen _ _ _ _ _ _ _ _ hj (w * h) 0 (by omega)
  · have hm : Ev (fun k => pattern_Mirror.f k x0.f0 x0.f1 x0.f2 x0.f3 x0.f4 x0.f5 x0.f6 x0.f7 x0.f8 x0.f9 x0.f10 x2.f0 x2.f1 x2.f2 x2.f3) (0, 0, [], 0, c) := by
      unfold pattern_Mirror.f
      exact Ev.bind hc1 (ite (fun h => absurd h c0) (fun _ => Ev.now _))
    refine Ev.bind hm (Ev.bind hc2 (ite (fun h => absurd h c0) (fun _ => ?_)))
    refine ite (fun _ => ?_) (fun h => absurd rfl h)
    exact ite (fun h => absurd h (by simp)) (fun _ => hj)
end Go.Proofs.Ytemfkhafkhkffaa.Pure
