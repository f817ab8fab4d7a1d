/- BitsShifts: for every word, all steps and every square the law answers true. No condition. -/
import Derived.Test.YtcncilipmekfhaaPBitsShiftsx2
import Derived.Test.YtcncilipmekfhaaBits
namespace Go.Proofs.Ytcncilipmekfhaa.Pure
open Go.RowKit Go.Proofs.Ytcncilipmekfhaa.PBitsShifts Go.Proofs.YtcncilipmekfhaaW.PrintWords Go.Proofs.YtcncilipmekfhaaW.PrintLast Go.Proofs.YtcncilipmekfhaaW.PrintMore
set_option linter.unusedSimpArgs false
set_option linter.unusedVariables false

namespace Bs
open Bits
theorem in_f (a b c : Int) : gamehallref1_In.f a b c = some (decide (b ≤ a ∧ a ≤ c)) := by
  unfold gamehallref1_In.f
  by_cases h : a ≥ b
  · rw [if_pos h]; simp; omega
  · rw [if_neg h]; simp; omega
theorem in_yes {a b c : Int} (h : b ≤ a ∧ a ≤ c) : Ev (fun _ => gamehallref1_In.f a b c) true := by
  rw [in_f, decide_eq_true h]; exact Ev.now _
theorem in_no {a b c : Int} (h : ¬ (b ≤ a ∧ a ≤ c)) : Ev (fun _ => gamehallref1_In.f a b c) false := by
  rw [in_f, decide_eq_false h]; exact Ev.now _
/-- Where a square goes: the square lies on the board, and so does the place. -/
def Goes (dx dy : Int) (s : Nat) (t : Int) : Prop := -8 < dx ∧ dx < 8 ∧ -8 < dy ∧ dy < 8 ∧ s < 64 ∧ 0 ≤ (s % 8 : Nat) + dx ∧ (s % 8 : Nat) + dx ≤ 7 ∧ 0 ≤ (s / 8 : Nat) + dy ∧ (s / 8 : Nat) + dy ≤ 7 ∧ t = s + dx + 8 * dy
def col : BitVec 64 := 72340172838076673#64
theorem col_bit : ∀ x : Fin 8, ∀ s : Fin 64, (col <<< x.1).getLsbD s.1 = decide (s.1 % 8 = x.1) := by decide +kernel
theorem column_f (x : Nat) : bits_column.f (x : Int) = some ((col <<< x).toNat : Int) := by
  unfold bits_column.f
  rw [if_pos (by omega), show (72340172838076673 : Int) = (col.toNat : Int) from rfl, u_shl]
  simp
/-- The bits of x.. that stay when the columns from x on that leave the board are cleared. -/
def Kept (A M : BitVec 64) (dx : Int) (x : Nat) : Prop := ∀ s, s < 64 → (M.getLsbD s = true ↔ A.getLsbD s = true ∧ (x ≤ s % 8 → 0 ≤ (s % 8 : Nat) + dx ∧ (s % 8 : Nat) + dx < 8))
def Fin' (M : BitVec 64) (n : Int) : BitVec 64 := if 0 ≤ n then M <<< n.toNat else M >>> (-n).toNat
theorem shift_l0 (dx dy : Int) (h1 : -8 < dx) (h2 : dx < 8) (h3 : -8 < dy) (h4 : dy < 8) : ∀ (d x : Nat) (A : BitVec 64), x + d = 8 →
    ∃ M, Kept A M dx x ∧ Ev (fun k => bits_Shift.l0 k (A.toNat : Int) dx dy (x : Int)) ((Fin' M (8 * dy + dx)).toNat : Int) := by
  intro d
  induction d with
  | zero =>
    intro x A hx
    refine ⟨A, fun s hs => ⟨fun h => ⟨h, fun h' => by omega⟩, fun h => h.1⟩, Ev.step (fun k => by rw [bits_Shift.l0]) ?_⟩
    have e1 : wrap64 (8 * dy) = 8 * dy := Aid.w64 (by omega) (by omega)
    have e2 : wrap64 (8 * dy + dx) = 8 * dy + dx := Aid.w64 (by omega) (by omega)
    have e3 : wrap64 (-(8 * dy + dx)) = -(8 * dy + dx) := Aid.w64 (by omega) (by omega)
    simp only [if_neg (show ¬ (x : Int) < 8 by omega), e1, e2, e3]
    unfold Fin'
    by_cases hn : 0 ≤ 8 * dy + dx
    · simp only [ge_iff_le, if_pos hn, u_shl]; exact Ev.now _
    · simp only [ge_iff_le, if_neg hn, if_pos (show 0 ≤ -(8 * dy + dx) by omega), u_shr]; exact Ev.now _
  | succ d ih =>
    intro x A hx
    have e1 : wrap64 ((x : Int) + dx) = (x : Int) + dx := Aid.w64 (by omega) (by omega)
    have e2 : wrap64 ((x : Int) + 1) = ((x + 1 : Nat) : Int) := by rw [Aid.w64s (by omega) (by omega)]; rfl
    by_cases hk : 0 ≤ (x : Int) + dx ∧ (x : Int) + dx < 8
    · obtain ⟨M, hM, hE⟩ := ih (x + 1) A (by omega)
      refine ⟨M, fun s hs => ?_, Ev.step (fun k => by rw [bits_Shift.l0]) ?_⟩
      · rw [hM s hs]
        constructor
        · rintro ⟨a, b⟩
          refine ⟨a, fun hx' => ?_⟩
          by_cases hxs : x = s % 8
          · rw [← hxs]; exact hk
          · exact b (by omega)
        · rintro ⟨a, b⟩
          exact ⟨a, fun hx' => b (by omega)⟩
      · simp only [if_pos (show (x : Int) < 8 by omega), e1, e2, if_neg (show ¬ (x : Int) + dx < 0 by omega), if_neg (show ¬ (x : Int) + dx ≥ 8 by omega)]
        exact hE
    · obtain ⟨M, hM, hE⟩ := ih (x + 1) (A &&& ~~~ (col <<< x)) (by omega)
      refine ⟨M, fun s hs => ?_, Ev.step (fun k => by rw [bits_Shift.l0]) ?_⟩
      · rw [hM s hs]
        have hb := col_bit ⟨x, by omega⟩ ⟨s, hs⟩
        simp only at hb
        simp only [BitVec.getLsbD_and, BitVec.getLsbD_not, hb, hs, decide_true, Bool.true_and, Bool.and_eq_true, Bool.not_eq_true', decide_eq_false_iff_not]
        constructor
        · rintro ⟨⟨a, c⟩, b⟩
          exact ⟨a, fun hx' => b (by omega)⟩
        · rintro ⟨a, b⟩
          refine ⟨⟨a, fun hx' => hk ?_⟩, fun hx' => b (by omega)⟩
          have := b (by omega)
          rw [hx'] at this
          exact this
      · simp only [if_pos (show (x : Int) < 8 by omega), e1, e2, column_f, Option.bind_some, u_andNot]
        by_cases hneg : (x : Int) + dx < 0
        · simp only [if_pos hneg]; exact hE
        · simp only [if_neg hneg, if_pos (show (x : Int) + dx ≥ 8 by omega)]; exact hE

theorem shift_ev (A : BitVec 64) (dx dy : Int) : ∃ R : BitVec 64, Ev (fun k => bits_Shift.f k (A.toNat : Int) dx dy) (R.toNat : Int) ∧
    ∀ t, t < 64 → (R.getLsbD t = true ↔ ∃ s, A.getLsbD s = true ∧ Goes dx dy s (t : Int)) := by
  by_cases hin : -8 < dx ∧ dx < 8 ∧ -8 < dy ∧ dy < 8
  · obtain ⟨h1, h2, h3, h4⟩ := hin
    obtain ⟨M, hM, hE⟩ := shift_l0 dx dy h1 h2 h3 h4 8 0 A (by omega)
    refine ⟨Fin' M (8 * dy + dx), ?_, fun t ht => ?_⟩
    · unfold bits_Shift.f
      simp only [if_neg (show ¬ dx ≤ -8 by omega), if_neg (show ¬ dx ≥ 8 by omega), if_neg (show ¬ dy ≤ -8 by omega), ge_iff_le, show decide (8 ≤ dy) = false from decide_eq_false (by omega)]
      refine Ev.step (fun k => by rw [bits_Shift.j0]) ?_
      simp only [Bool.false_eq_true, if_false]
      exact hE
    · have key : ∀ s : Nat, s < 64 → (t : Int) = s + dx + 8 * dy → (M.getLsbD s = true ↔ ∃ s, A.getLsbD s = true ∧ Goes dx dy s (t : Int)) := by
        intro s hs he
        rw [hM s hs]
        constructor
        · rintro ⟨a, b⟩
          have := b (by omega)
          exact ⟨s, a, h1, h2, h3, h4, hs, by omega, by omega, by omega, by omega, he⟩
        · rintro ⟨s', a, _, _, _, _, hs', g1, g2, g3, g4, g5⟩
          have : s' = s := by omega
          subst this
          exact ⟨a, fun _ => by omega⟩
      have none' : (∀ s : Nat, s < 64 → (t : Int) ≠ s + dx + 8 * dy) → ¬ ∃ s, A.getLsbD s = true ∧ Goes dx dy s (t : Int) := by
        rintro h ⟨s, _, _, _, _, _, hs, _, _, _, _, he⟩
        exact h s hs he
      unfold Fin'
      by_cases hn : 0 ≤ 8 * dy + dx
      · rw [if_pos hn, BitVec.getLsbD_shiftLeft]
        by_cases hlt : t < (8 * dy + dx).toNat
        · simp only [hlt, decide_true, Bool.not_true, Bool.and_false, Bool.false_and, Bool.false_eq_true, false_iff]
          exact none' (fun s hs => by omega)
        · simp only [hlt, ht, decide_true, decide_false, Bool.not_false, Bool.true_and]
          exact key _ (by omega) (by omega)
      · rw [if_neg hn, BitVec.getLsbD_ushiftRight]
        by_cases hlt : (-(8 * dy + dx)).toNat + t < 64
        · exact key _ hlt (by omega)
        · rw [BitVec.getLsbD_of_ge _ _ (by omega)]
          simp only [Bool.false_eq_true, false_iff]
          exact none' (fun s hs => by omega)
  · refine ⟨0#64, ?_, fun t ht => ?_⟩
    · unfold bits_Shift.f
      have hj : Ev (fun k => bits_Shift.j0 k (A.toNat : Int) dx dy true) (((0#64 : BitVec 64).toNat : Nat) : Int) := by
        refine Ev.step (fun k => by rw [bits_Shift.j0]) ?_
        simp only [if_true]
        exact Ev.now _
      by_cases c1 : dx ≤ -8
      · simp only [if_pos c1]; exact hj
      · by_cases c2 : dx ≥ 8
        · simp only [if_neg c1, if_pos c2]; exact hj
        · by_cases c3 : dy ≤ -8
          · simp only [if_neg c1, if_neg c2, if_pos c3]; exact hj
          · simp only [if_neg c1, if_neg c2, if_neg c3, show decide (dy ≥ 8) = true from decide_eq_true (by omega)]; exact hj
    · simp only [BitVec.getLsbD_zero, Bool.false_eq_true, false_iff]
      rintro ⟨s, _, g1, g2, g3, g4, _⟩
      exact hin ⟨g1, g2, g3, g4⟩

theorem goes_lt {dx dy : Int} {s : Nat} {t : Int} (h : Goes dx dy s t) : 0 ≤ t ∧ t < 64 := by
  obtain ⟨_, _, _, _, _, _, _, _, _, he⟩ := h
  omega
/-- One square, moved. -/
theorem shift_one (s : Nat) (hs : s < 64) (dx dy : Int) (t : Nat) (h : Goes dx dy s (t : Int)) : Ev (fun k => bits_Shift.f k (((1#64 : BitVec 64) <<< s).toNat : Int) dx dy) (((1#64 : BitVec 64) <<< t).toNat : Int) := by
  obtain ⟨R, hE, hR⟩ := shift_ev ((1#64 : BitVec 64) <<< s) dx dy
  have : R = (1#64 : BitVec 64) <<< t := by
    apply BitVec.eq_of_getLsbD_eq
    intro i hi
    rw [one_bit t i hi, Bool.eq_iff_iff, hR i hi]
    constructor
    · rintro ⟨s', a, g⟩
      rw [one_bit s s' g.2.2.2.2.1, decide_eq_true_eq] at a
      subst a
      obtain ⟨_, _, _, _, _, _, _, _, _, he⟩ := g
      obtain ⟨_, _, _, _, _, _, _, _, _, he'⟩ := h
      simp only [decide_eq_true_eq]; omega
    · intro e
      rw [decide_eq_true_eq] at e
      subst e
      exact ⟨s, by rw [one_bit s s hs]; simp, h⟩
  rw [this] at hE
  exact hE
theorem shift_none (s : Nat) (hs : s < 64) (dx dy : Int) (h : ∀ t, ¬ Goes dx dy s t) : Ev (fun k => bits_Shift.f k (((1#64 : BitVec 64) <<< s).toNat : Int) dx dy) 0 := by
  obtain ⟨R, hE, hR⟩ := shift_ev ((1#64 : BitVec 64) <<< s) dx dy
  have : R = 0#64 := by
    apply BitVec.eq_of_getLsbD_eq
    intro i hi
    rw [BitVec.getLsbD_zero, Bool.eq_iff_iff, hR i hi]
    constructor
    · rintro ⟨s', a, g⟩
      rw [one_bit s s' g.2.2.2.2.1, decide_eq_true_eq] at a
      subst a
      exact absurd g (h _)
    · intro e; cases e
  rw [this] at hE
  exact hE

/-- The two walks along a ray, side by side. -/
theorem ray_sim (B : BitVec 64) (dx dy : Int) (hx : -1 ≤ dx ∧ dx ≤ 1) (hy : -1 ≤ dy ∧ dy ≤ 1) (h0 : ¬ (dx = 0 ∧ dy = 0)) : ∀ (d : Nat) (x y : Int) (O : BitVec 64),
    -1 ≤ x → x ≤ 8 → -1 ≤ y → y ≤ 8 → ((if dx = 1 then 9 - x else if dx = -1 then x + 2 else if dy = 1 then 9 - y else y + 2) ≤ (d : Int)) →
    ∃ r : Int × Int, Ev (fun k => bits_Ray.l0 k dx dy (B.toNat : Int) (O.toNat : Int) (if 0 ≤ x ∧ x ≤ 7 ∧ 0 ≤ y ∧ y ≤ 7 then (((1#64 : BitVec 64) <<< (x + 8 * y).toNat).toNat : Int) else 0)) r ∧
      Ev (fun k => gamehalllaw1_BitsShifts.l1 k (B.toNat : Int) dx dy r.1 r.2 (O.toNat : Int) x y) true := by
  intro d
  induction d with
  | zero => intro x y O h1 h2 h3 h4 hm; exfalso; split at hm <;> (try split at hm) <;> (try split at hm) <;> omega
  | succ d ih =>
    intro x y O h1 h2 h3 h4 hm
    by_cases hon : 0 ≤ x ∧ x ≤ 7 ∧ 0 ≤ y ∧ y ≤ 7
    · have e1 : wrap64 (8 * y) = 8 * y := Aid.w64 (by omega) (by omega)
      have e3 : wrap64 (x + dx) = x + dx := Aid.w64 (by omega) (by omega)
      have e4 : wrap64 (y + dy) = y + dy := Aid.w64 (by omega) (by omega)
      obtain ⟨s, hs⟩ : ∃ s : Nat, (s : Int) = x + 8 * y := ⟨(x + 8 * y).toNat, by omega⟩
      have hs' : (x + 8 * y).toNat = s := by omega
      have hlt : s < 64 := by omega
      have e2 : wrap64 (x + 8 * y) = (s : Int) := by rw [hs]; exact Aid.w64 (by omega) (by omega)
      have hm8 : ((s % 8 : Nat) : Int) = x := by omega
      have hd8 : ((s / 8 : Nat) : Int) = y := by omega
      have hne : ¬ (((1#64 : BitVec 64) <<< s).toNat : Int) = 0 := by
        rw [cast_zero]
        intro h
        have := congrArg (fun v : BitVec 64 => v.getLsbD s) h
        simp only [one_bit s s hlt, BitVec.getLsbD_zero] at this
        simp at this
      have hin : ∀ a : Int, 0 ≤ a → a ≤ 7 → gamehallref1_In.f a 0 7 = some true := fun a p q => by rw [in_f]; simp [p, q]
      have hand : (Go.bits .and .u64 (((1#64 : BitVec 64) <<< s).toNat : Int) (B.toNat : Int) = 0) ↔ ¬ B.getLsbD s = true := by
        rw [u_and, cast_zero]
        constructor
        · intro h hb
          have := congrArg (fun v : BitVec 64 => v.getLsbD s) h
          simp only [BitVec.getLsbD_and, one_bit s s hlt, hb, BitVec.getLsbD_zero] at this
          simp at this
        · intro hb
          apply BitVec.eq_of_getLsbD_eq
          intro i hi
          rw [BitVec.getLsbD_and, one_bit s i hi, BitVec.getLsbD_zero]
          by_cases hi' : i = s
          · subst hi'; simp [Bool.eq_false_iff.mpr hb]
          · simp [hi']
      rw [if_pos hon, hs']
      by_cases hb : B.getLsbD s = true
      · refine ⟨(((O ||| ((1#64 : BitVec 64) <<< s)).toNat : Int), 0), Ev.step (fun k => by rw [bits_Ray.l0]) ?_, Ev.step (fun k => by rw [gamehalllaw1_BitsShifts.l1]) ?_⟩
        · simp only [if_neg hne, if_neg (show ¬ (Go.bits .and .u64 (((1#64 : BitVec 64) <<< s).toNat : Int) (B.toNat : Int) = 0) from fun h => hand.1 h hb), u_or]
          exact Ev.now _
        · simp only [hin x hon.1 hon.2.1, hin y hon.2.2.1 hon.2.2.2, Option.bind_some, if_true]
          refine Ev.step (fun k => by rw [gamehalllaw1_BitsShifts.j5]) ?_
          simp only [if_true, e1, e2, if_pos (show (0 : Int) ≤ (s : Int) by omega), (bit_test B s).2 hb, one_shl, Int.toNat_natCast, u_or, beq_self_eq_true]
          exact Ev.now _
      · obtain ⟨r, hr1, hr2⟩ := ih (x + dx) (y + dy) (O ||| ((1#64 : BitVec 64) <<< s)) (by omega) (by omega) (by omega) (by omega) (by
          split at hm
          · rename_i c; rw [if_pos c]; omega
          · split at hm
            · rename_i c c'; rw [if_neg c, if_pos c']; omega
            · split at hm
              · rename_i c c' c''; rw [if_neg c, if_neg c', if_pos c'']; omega
              · rename_i c c' c''; rw [if_neg c, if_neg c', if_neg c'']; omega)
        refine ⟨r, Ev.step (fun k => by rw [bits_Ray.l0]) ?_, Ev.step (fun k => by rw [gamehalllaw1_BitsShifts.l1]) ?_⟩
        · simp only [if_neg hne, if_pos (hand.2 hb), u_or]
          refine Ev.bind (a := if 0 ≤ x + dx ∧ x + dx ≤ 7 ∧ 0 ≤ y + dy ∧ y + dy ≤ 7 then (((1#64 : BitVec 64) <<< (x + dx + 8 * (y + dy)).toNat).toNat : Int) else 0) ?_ hr1
          by_cases hon' : 0 ≤ x + dx ∧ x + dx ≤ 7 ∧ 0 ≤ y + dy ∧ y + dy ≤ 7
          · rw [if_pos hon']
            exact shift_one s hlt dx dy _ ⟨by omega, by omega, by omega, by omega, hlt, by omega, by omega, by omega, by omega, by omega⟩
          · rw [if_neg hon']
            exact shift_none s hlt dx dy (fun t g => hon' ⟨by have := g.2.2.2.2.2.1; omega, by have := g.2.2.2.2.2.2.1; omega, by have := g.2.2.2.2.2.2.2.1; omega, by have := g.2.2.2.2.2.2.2.2.1; omega⟩)
        · simp only [hin x hon.1 hon.2.1, hin y hon.2.2.1 hon.2.2.2, Option.bind_some, if_true]
          refine Ev.step (fun k => by rw [gamehalllaw1_BitsShifts.j5]) ?_
          simp only [if_true, e1, e2, e3, e4, if_pos (show (0 : Int) ≤ (s : Int) by omega), if_neg (show ¬ Go.bits .and .u64 (shr .u64 (B.toNat : Int) (s : Int)) 1 = 1 from fun h => hb ((bit_test B s).1 h)), one_shl, Int.toNat_natCast, u_or]
          exact hr2
    · rw [if_neg hon]
      refine ⟨((O.toNat : Int), 0), Ev.step (fun k => by rw [bits_Ray.l0]) ?_, Ev.step (fun k => by rw [gamehalllaw1_BitsShifts.l1]) ?_⟩
      · simp only [if_true]; exact Ev.now _
      · have hj : Ev (fun k => gamehalllaw1_BitsShifts.j5 k (B.toNat : Int) dx dy (O.toNat : Int) 0 (O.toNat : Int) x y false) true := by
          refine Ev.step (fun k => by rw [gamehalllaw1_BitsShifts.j5]) ?_
          simp only [Bool.false_eq_true, if_false, if_true, beq_self_eq_true]
          exact Ev.now _
        simp only [in_f, Option.bind_some]
        by_cases c : 0 ≤ x ∧ x ≤ 7
        · have c' : ¬ (0 ≤ y ∧ y ≤ 7) := fun h => hon ⟨c.1, c.2, h.1, h.2⟩
          simp only [c, c', and_self, decide_true, decide_false, if_true]; exact hj
        · simp only [c, decide_false, Bool.false_eq_true, if_false]; exact hj

/-- What is behind the first loop. -/
theorem rest (B : BitVec 64) (dx dy sq : Int) (hdx : (Lit.int .i64 dx).wf = true) (hdy : (Lit.int .i64 dy).wf = true) :
    ∃ r : Int × Int, Ev (fun k => bits_Ray.f k sq dx dy (B.toNat : Int)) r ∧
      Ev (fun k => (gamehallref1_In.f sq 0 63).bind fun t116 => (if t116 = true then ((gamehallref1_In.f dx (-1) 1).bind fun t117 => (if t117 = true then ((gamehallref1_In.f dy (-1) 1).bind fun t118 => (if t118 = true then (if dx = 0 then (gamehalllaw1_BitsShifts.j3 k (B.toNat : Int) dx dy sq r.1 r.2 (dy == 0)) else (gamehalllaw1_BitsShifts.j3 k (B.toNat : Int) dx dy sq r.1 r.2 false)) else (gamehalllaw1_BitsShifts.j3 k (B.toNat : Int) dx dy sq r.1 r.2 true))) else (gamehalllaw1_BitsShifts.j3 k (B.toNat : Int) dx dy sq r.1 r.2 true))) else (if r.2 = 4 then (some (r.1 == 0)) else (some false)))) true := by
  simp only [in_f, Option.bind_some]
  by_cases hs : 0 ≤ sq ∧ sq ≤ 63
  · simp only [hs, and_self, decide_true, if_true]
    have hf : Ev (fun k => bits_Ray.f k sq dx dy (B.toNat : Int)) = Ev (fun k => bits_Ray.j0 k sq dx dy (B.toNat : Int) false) := by
      unfold bits_Ray.f
      simp only [if_neg (show ¬ sq < 0 by omega), show decide (sq ≥ 64) = false from decide_eq_false (by omega)]
    rw [hf]
    by_cases hd : (-1 ≤ dx ∧ dx ≤ 1) ∧ (-1 ≤ dy ∧ dy ≤ 1) ∧ ¬ (dx = 0 ∧ dy = 0)
    · obtain ⟨hx, hy, h0⟩ := hd
      obtain ⟨s, rfl⟩ : ∃ s : Nat, sq = (s : Int) := ⟨sq.toNat, by omega⟩
      have hlt : s < 64 := by omega
      have em : Int.tmod (s : Int) 8 = ((s % 8 : Nat) : Int) := rfl
      have ed : Int.tdiv (s : Int) 8 = ((s / 8 : Nat) : Int) := rfl
      have e1 : wrap64 (Int.tmod (s : Int) 8 + dx) = ((s % 8 : Nat) : Int) + dx := by rw [em]; exact Aid.w64 (by omega) (by omega)
      have e2 : wrap64 (wrap64 (Int.tdiv (s : Int) 8) + dy) = ((s / 8 : Nat) : Int) + dy := by rw [ed, Aid.w64 (n := ((s / 8 : Nat) : Int)) (by omega) (by omega)]; exact Aid.w64 (by omega) (by omega)
      obtain ⟨r, h1, h2⟩ := ray_sim B dx dy hx hy h0 12 (((s % 8 : Nat) : Int) + dx) (((s / 8 : Nat) : Int) + dy) 0#64 (by omega) (by omega) (by omega) (by omega) (by
        split
        · omega
        · split
          · omega
          · split <;> omega)
      refine ⟨r, ?_, ?_⟩
      · have hj1 : Ev (fun k => bits_Ray.j1 k (s : Int) dx dy (B.toNat : Int)) r := by
          refine Ev.step (fun k => by rw [bits_Ray.j1]) ?_
          simp only [if_pos (show (0 : Int) ≤ (s : Int) by omega), one_shl, Int.toNat_natCast]
          refine Ev.bind ?_ h1
          by_cases hon' : 0 ≤ ((s % 8 : Nat) : Int) + dx ∧ ((s % 8 : Nat) : Int) + dx ≤ 7 ∧ 0 ≤ ((s / 8 : Nat) : Int) + dy ∧ ((s / 8 : Nat) : Int) + dy ≤ 7
          · rw [if_pos hon']
            exact shift_one s hlt dx dy _ ⟨by omega, by omega, by omega, by omega, hlt, by omega, by omega, by omega, by omega, by omega⟩
          · rw [if_neg hon']
            exact shift_none s hlt dx dy (fun t g => hon' ⟨g.2.2.2.2.2.1, g.2.2.2.2.2.2.1, g.2.2.2.2.2.2.2.1, g.2.2.2.2.2.2.2.2.1⟩)
        refine Ev.step (fun k => by rw [bits_Ray.j0]) ?_
        simp only [Bool.false_eq_true, if_false, if_neg (show ¬ dx < -1 by omega), if_neg (show ¬ dx > 1 by omega), if_neg (show ¬ dy < -1 by omega), if_neg (show ¬ dy > 1 by omega)]
        by_cases c : dx = 0
        · have c' : ¬ dy = 0 := fun h => h0 ⟨c, h⟩
          simp only [if_pos c, if_neg c']; exact hj1
        · simp only [if_neg c]; exact hj1
      · have hj3 : Ev (fun k => gamehalllaw1_BitsShifts.j3 k (B.toNat : Int) dx dy (s : Int) r.1 r.2 false) true := by
          refine Ev.step (fun k => by rw [gamehalllaw1_BitsShifts.j3]) ?_
          simp only [Bool.false_eq_true, if_false, e1, e2]
          exact h2
        simp only [hx, hy, and_self, decide_true, if_true]
        by_cases c : dx = 0
        · have c' : (dy == 0) = false := beq_eq_false_iff_ne.2 (fun h => h0 ⟨c, h⟩)
          simp only [if_pos c, c']; exact hj3
        · simp only [if_neg c]; exact hj3
    · have hj3 : Ev (fun k => gamehalllaw1_BitsShifts.j3 k (B.toNat : Int) dx dy sq 0 1 true) true := by
        refine Ev.step (fun k => by rw [gamehalllaw1_BitsShifts.j3]) ?_
        simp only [if_true, beq_self_eq_true]
        exact Ev.now _
      refine ⟨(0, 1), ?_, ?_⟩
      · refine Ev.step (fun k => by rw [bits_Ray.j0]) ?_
        simp only [Bool.false_eq_true, if_false]
        by_cases c1 : dx < -1
        · simp only [if_pos c1]; exact Ev.now _
        · by_cases c2 : dx > 1
          · simp only [if_neg c1, if_pos c2]; exact Ev.now _
          · by_cases c3 : dy < -1
            · simp only [if_neg c1, if_neg c2, if_pos c3]; exact Ev.now _
            · by_cases c4 : dy > 1
              · simp only [if_neg c1, if_neg c2, if_neg c3, if_pos c4]; exact Ev.now _
              · have c5 : dx = 0 ∧ dy = 0 := by
                  by_cases c : dx = 0 ∧ dy = 0
                  · exact c
                  · exact absurd ⟨⟨by omega, by omega⟩, ⟨by omega, by omega⟩, c⟩ hd
                simp only [if_neg c1, if_neg c2, if_neg c3, if_neg c4, if_pos c5.1, if_pos c5.2]; exact Ev.now _
      · by_cases c : -1 ≤ dx ∧ dx ≤ 1
        · by_cases c' : -1 ≤ dy ∧ dy ≤ 1
          · have c5 : dx = 0 ∧ dy = 0 := by
              by_cases c5 : dx = 0 ∧ dy = 0
              · exact c5
              · exact absurd ⟨c, c', c5⟩ hd
            simp only [c, c', and_self, decide_true, if_true, if_pos c5.1, c5.2, beq_self_eq_true]
            rw [c5.2] at hj3
            exact hj3
          · simp only [c, c', and_self, decide_true, if_true, decide_false, Bool.false_eq_true, if_false]; exact hj3
        · simp only [c, decide_false, Bool.false_eq_true, if_false]; exact hj3
  · refine ⟨(0, 4), ?_, ?_⟩
    · have hj : Ev (fun k => bits_Ray.j0 k sq dx dy (B.toNat : Int) true) ((0 : Int), (4 : Int)) := by
        refine Ev.step (fun k => by rw [bits_Ray.j0]) ?_
        simp only [if_true]
        exact Ev.now _
      unfold bits_Ray.f
      by_cases c : sq < 0
      · simp only [if_pos c]; exact hj
      · simp only [if_neg c, show decide (sq ≥ 64) = true from decide_eq_true (by omega)]; exact hj
    · simp only [hs, decide_false, Bool.false_eq_true, if_false, if_true, beq_self_eq_true]
      exact Ev.now _

theorem w_facts (i : Nat) (hi : i < 64) (dx dy : Int) (c1 : -8 ≤ dx ∧ dx ≤ 8) (c2 : -8 ≤ dy ∧ dy ≤ 8) : wrap64 (Int.tmod (i : Int) 8 + dx) = ((i % 8 : Nat) : Int) + dx ∧ wrap64 (wrap64 (Int.tdiv (i : Int) 8) + dy) = ((i / 8 : Nat) : Int) + dy ∧
    wrap64 (wrap64 ((i : Int) + dx) + wrap64 (8 * dy)) = (i : Int) + dx + 8 * dy := by
  have em : Int.tmod (i : Int) 8 = ((i % 8 : Nat) : Int) := rfl
  have ed : Int.tdiv (i : Int) 8 = ((i / 8 : Nat) : Int) := rfl
  rw [em, ed]
  clear em ed
  refine ⟨Aid.w64 (by omega) (by omega), ?_, ?_⟩
  · rw [Aid.w64 (n := ((i / 8 : Nat) : Int)) (by omega) (by omega)]; exact Aid.w64 (by omega) (by omega)
  · rw [Aid.w64 (n := (i : Int) + dx) (by omega) (by omega), Aid.w64 (n := 8 * dy) (by omega) (by omega)]; exact Aid.w64 (by omega) (by omega)
theorem goes_mk (i : Nat) (hi : i < 64) (dx dy : Int) (c3 : 0 ≤ ((i % 8 : Nat) : Int) + dx ∧ ((i % 8 : Nat) : Int) + dx ≤ 7) (c4 : 0 ≤ ((i / 8 : Nat) : Int) + dy ∧ ((i / 8 : Nat) : Int) + dy ≤ 7) : Goes dx dy i ((i : Int) + dx + 8 * dy) :=
  ⟨by omega, by omega, by omega, by omega, hi, c3.1, c3.2, c4.1, c4.2, rfl⟩
/-- What the word so far has. -/
def Sofar (B W : BitVec 64) (dx dy : Int) (i : Nat) : Prop := ∀ t, t < 64 → (W.getLsbD t = true ↔ ∃ s, s < i ∧ B.getLsbD s = true ∧ Goes dx dy s (t : Int))
theorem sofar_same {B W : BitVec 64} {dx dy : Int} {i : Nat} (hW : Sofar B W dx dy i) (hno : ¬ (B.getLsbD i = true ∧ ∃ t, Goes dx dy i t)) : Sofar B W dx dy (i + 1) := by
  intro t ht
  rw [hW t ht]
  constructor
  · rintro ⟨s, a, b, c⟩; exact ⟨s, Nat.lt_succ_of_lt a, b, c⟩
  · rintro ⟨s, a, b, c⟩
    by_cases hsi : s = i
    · subst hsi; exact absurd ⟨b, _, c⟩ hno
    · exact ⟨s, Nat.lt_of_le_of_ne (Nat.lt_succ_iff.1 a) hsi, b, c⟩
theorem sofar_hit {B W : BitVec 64} {dx dy : Int} {i : Nat} (hW : Sofar B W dx dy i) (hb : B.getLsbD i = true) (g : Goes dx dy i ((i : Int) + dx + 8 * dy)) : Sofar B (W ||| ((1#64 : BitVec 64) <<< ((i : Int) + dx + 8 * dy).toNat)) dx dy (i + 1) := by
  intro t ht
  rw [BitVec.getLsbD_or, one_bit _ t ht, Bool.or_eq_true, hW t ht, decide_eq_true_eq]
  constructor
  · rintro (⟨s, a, b, c⟩ | h)
    · exact ⟨s, Nat.lt_succ_of_lt a, b, c⟩
    · refine ⟨i, Nat.lt_succ_self i, hb, ?_⟩
      have ht' : (t : Int) = (i : Int) + dx + 8 * dy := by rw [h]; exact Int.toNat_of_nonneg (goes_lt g).1
      rw [ht']
      exact g
  · rintro ⟨s, a, b, c⟩
    by_cases hsi : s = i
    · subst hsi
      right
      rw [← c.2.2.2.2.2.2.2.2.2]
      exact (Int.toNat_natCast t).symm
    · exact .inl ⟨s, Nat.lt_of_le_of_ne (Nat.lt_succ_iff.1 a) hsi, b, c⟩
theorem sofar_all {B W : BitVec 64} {dx dy : Int} (hW : Sofar B W dx dy 64) : Ev (fun k => bits_Shift.f k (B.toNat : Int) dx dy) (W.toNat : Int) := by
  obtain ⟨R, hE, hR⟩ := shift_ev B dx dy
  have hRW : R = W := by
    apply BitVec.eq_of_getLsbD_eq
    intro t ht
    rw [Bool.eq_iff_iff, hR t ht, hW t ht]
    constructor
    · rintro ⟨s, a, g⟩; exact ⟨s, g.2.2.2.2.1, a, g⟩
    · rintro ⟨s, _, a, g⟩; exact ⟨s, a, g⟩
  rw [hRW] at hE
  exact hE

theorem first_loop (B : BitVec 64) (dx dy sq : Int) (hdx : (Lit.int .i64 dx).wf = true) (hdy : (Lit.int .i64 dy).wf = true) : ∀ (d i : Nat) (W : BitVec 64), i + d = 64 → Sofar B W dx dy i →
    Ev (fun k => gamehalllaw1_BitsShifts.l0 k (B.toNat : Int) dx dy sq (W.toNat : Int) (i : Int)) true := by
  intro d
  induction d with
  | zero =>
    intro i W hi hW
    refine Ev.step (fun k => by rw [gamehalllaw1_BitsShifts.l0]) ?_
    simp only [if_neg (show ¬ (i : Int) < 64 by omega)]
    obtain rfl : i = 64 := by omega
    refine Ev.bind (sofar_all hW) ?_
    simp only [if_true]
    obtain ⟨r, h1, h2⟩ := rest B dx dy sq hdx hdy
    exact Ev.bind h1 h2
  | succ d ih =>
    intro i W hi hW
    refine Ev.step (fun k => by rw [gamehalllaw1_BitsShifts.l0]) ?_
    have e1 : wrap64 ((i : Int) + 1) = ((i + 1 : Nat) : Int) := by rw [Aid.w64s (by omega) (by omega)]; rfl
    have hlt : i < 64 := by omega
    have hi' : i + 1 + d = 64 := by omega
    simp only [if_pos (show (i : Int) < 64 by omega), if_pos (show (0 : Int) ≤ (i : Int) by omega), e1]
    clear e1 hi
    have same : ¬ (B.getLsbD i = true ∧ ∃ t, Goes dx dy i t) → Ev (fun k => gamehalllaw1_BitsShifts.l0 k (B.toNat : Int) dx dy sq (W.toNat : Int) ((i + 1 : Nat) : Int)) true := fun hno => ih (i + 1) W hi' (sofar_same hW hno)
    by_cases hb : B.getLsbD i = true
    · simp only [if_pos ((bit_test B i).2 hb)]
      by_cases c1 : -8 ≤ dx ∧ dx ≤ 8
      · refine Ev.bind (in_yes c1) ?_
        simp only [if_true]
        by_cases c2 : -8 ≤ dy ∧ dy ≤ 8
        · refine Ev.bind (in_yes c2) ?_
          simp only [if_true]
          obtain ⟨w1, w2, w3⟩ := w_facts i hlt dx dy c1 c2
          rw [w1]
          by_cases c3 : 0 ≤ ((i % 8 : Nat) : Int) + dx ∧ ((i % 8 : Nat) : Int) + dx ≤ 7
          · refine Ev.bind (in_yes c3) ?_
            simp only [if_true]
            rw [w2]
            by_cases c4 : 0 ≤ ((i / 8 : Nat) : Int) + dy ∧ ((i / 8 : Nat) : Int) + dy ≤ 7
            · refine Ev.bind (in_yes c4) ?_
              have g := goes_mk i hlt dx dy c3 c4
              rw [w3]
              simp only [if_true, if_pos (goes_lt g).1, one_shl, u_or]
              exact ih (i + 1) _ hi' (sofar_hit hW hb g)
            · refine Ev.bind (in_no c4) ?_
              simp only [Bool.false_eq_true, if_false]
              exact same (fun ⟨_, t, g⟩ => c4 ⟨g.2.2.2.2.2.2.2.1, g.2.2.2.2.2.2.2.2.1⟩)
          · refine Ev.bind (in_no c3) ?_
            simp only [Bool.false_eq_true, if_false]
            exact same (fun ⟨_, t, g⟩ => c3 ⟨g.2.2.2.2.2.1, g.2.2.2.2.2.2.1⟩)
        · refine Ev.bind (in_no c2) ?_
          simp only [Bool.false_eq_true, if_false]
          exact same (fun ⟨_, t, g⟩ => c2 ⟨by have := g.2.2.1; omega, by have := g.2.2.2.1; omega⟩)
      · refine Ev.bind (in_no c1) ?_
        simp only [Bool.false_eq_true, if_false]
        exact same (fun ⟨_, t, g⟩ => c1 ⟨by have := g.1; omega, by have := g.2.1; omega⟩)
    · simp only [if_neg (show ¬ Go.bits .and .u64 (shr .u64 (B.toNat : Int) (i : Int)) 1 = 1 from fun h => hb ((bit_test B i).1 h))]
      exact same (fun h => hb h.1)
end Bs
open Bs Bits

theorem BitsShifts : gamehalllaw1_BitsShifts.Pure := by
  intro b dx dy sq hb hdx hdy hsq
  obtain ⟨B, rfl⟩ := of_nat hb
  refine Ev.rounds (g := fun k => gamehalllaw1_BitsShifts.f k (B.toNat : Int) dx dy sq) ?_
  unfold gamehalllaw1_BitsShifts.f
  have e1 : Ev (fun k => bits_Shift.f k 128 1 0) 0 := Ev.of (bits_Shift.mono _ _ _) (k := 20) (by decide +kernel)
  have e2 : Ev (fun k => bits_Shift.f k 1 1 1) 512 := Ev.of (bits_Shift.mono _ _ _) (k := 20) (by decide +kernel)
  have e3 : Ev (fun k => bits_Ray.f k 0 1 0 4) (6, 0) := Ev.of (bits_Ray.mono _ _ _ _) (k := 40) (by decide +kernel)
  refine Ev.bind e1 ?_
  simp only [if_true]
  refine Ev.bind e2 ?_
  refine Ev.step (fun k => by rw [gamehalllaw1_BitsShifts.j0]) ?_
  simp only [bne_self_eq_false, Bool.false_eq_true, if_false]
  refine Ev.bind e3 ?_
  simp only [if_true]
  refine Ev.step (fun k => by rw [gamehalllaw1_BitsShifts.j1]) ?_
  simp only [bne_self_eq_false, Bool.false_eq_true, if_false]
  exact first_loop B dx dy sq hdx hdy 64 0 0#64 (by omega) (show Sofar B 0#64 dx dy 0 from fun t ht => by
    simp only [BitVec.getLsbD_zero, Bool.false_eq_true, false_iff]
    rintro ⟨s, h, _⟩
    omega)

end Go.Proofs.Ytcncilipmekfhaa.Pure
