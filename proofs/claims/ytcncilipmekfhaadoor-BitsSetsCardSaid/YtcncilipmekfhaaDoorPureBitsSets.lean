/- BitsSets: for all squares and every word the law answers true. No condition. -/
import Derived.Test.YtcncilipmekfhaaDoorPBitsSetsx2
import Derived.Test.YtcncilipmekfhaaDoorBits
namespace Go.Proofs.YtcncilipmekfhaaDoor.Pure
open Go.RowKit Go.Proofs.YtcncilipmekfhaaDoor.PBitsSets Go.Proofs.YtcncilipmekfhaaDoorW.PrintWords Go.Proofs.YtcncilipmekfhaaDoorW.PrintLast Go.Proofs.YtcncilipmekfhaaDoorW.PrintMore
set_option linter.unusedSimpArgs false
set_option linter.unusedVariables false
namespace Bt
open Bits Aid
theorem same_ev (B : List Int) (hl : B.length ≤ 64) : ∀ (d j : Nat), j + d = B.length → Ev (fun k => gamehallref1_SameInts.l0 k B B (B.length : Int) (j : Int)) true := by
  intro d
  induction d with
  | zero =>
    intro j hj
    refine Ev.step (fun k => by rw [gamehallref1_SameInts.l0]) ?_
    exact Aid.ite (fun hh => absurd hh (by omega)) (fun _ => Ev.now _)
  | succ d ih =>
    intro j hj
    have hw := Aside0.mk (show wrap64 ((j : Int) + 1) = ((j + 1 : Nat) : Int) from by rw [w64s (by omega) (by omega)]; omega)
    refine Ev.step (fun k => by rw [gamehallref1_SameInts.l0]) ?_
    rw [hw.out]
    refine Aid.ite (fun _ => ?_) (fun hh => absurd (show (j : Int) < (B.length : Int) by omega) hh)
    refine Aid.ite (fun _ => ?_) (fun hh => absurd (show (0 : Int) ≤ (j : Int) by omega) hh)
    refine Aid.ite (fun _ => ?_) (fun hh => absurd (show (j : Int) < (B.length : Int) by omega) hh)
    refine Aid.ite (fun _ => ?_) (fun hh => absurd (show (j : Int) < (B.length : Int) by omega) hh)
    exact Aid.ite (fun _ => ih (j + 1) (by omega)) (fun hh => absurd rfl hh)
theorem same_f (B : List Int) (hl : B.length ≤ 64) : Ev (fun k => gamehallref1_SameInts.f k B B) true := by
  unfold gamehallref1_SameInts.f
  exact Aid.ite (fun _ => same_ev B hl B.length 0 (by omega)) (fun hh => absurd rfl hh)
/-- what Of is to return: the word, the fault -/
def ofS (M : BitVec 64) : List Int → Int × Int
  | [] => ((M.toNat : Int), 0)
  | s :: t => if s < 0 ∨ s ≥ 64 then (0, 4) else if M.getLsbD s.toNat = true then (0, 7) else ofS (M ||| (1#64 <<< s.toNat)) t
theorem rd_drop (l : List Int) (i : Nat) (h : i < l.length) : l.drop i = rd l (i : Int) :: l.drop (i + 1) := by
  rw [List.drop_eq_getElem_cons h]
  congr 1
  simp [rd, List.getD_eq_getElem?_getD, h]
theorem of_l0 (l : List Int) (hl : l.length ≤ 17592186044416) : ∀ (d i : Nat) (M : BitVec 64), i + d = l.length → Ev (fun k => bits_Of.l0 k (M.toNat : Int) l (l.length : Int) (i : Int)) (ofS M (l.drop i)) := by
  intro d
  induction d with
  | zero =>
    intro i M hi
    rw [List.drop_eq_nil_of_le (by omega)]
    refine Ev.step (fun k => by rw [bits_Of.l0]) ?_
    exact Aid.ite (fun hh => absurd hh (by omega)) (fun _ => Ev.now _)
  | succ d ih =>
    intro i M hi
    rw [rd_drop l i (by omega)]
    have hw := Aside0.mk (show wrap64 ((i : Int) + 1) = ((i + 1 : Nat) : Int) from by rw [w64s (by omega) (by omega)]; omega)
    refine Ev.step (fun k => by rw [bits_Of.l0]) ?_
    generalize rd l (i : Int) = s
    refine Aid.ite (fun _ => ?_) (fun hh => absurd (show (i : Int) < (l.length : Int) by omega) hh)
    refine Aid.ite (fun _ => ?_) (fun hh => absurd (show (0 : Int) ≤ (i : Int) by omega) hh)
    refine Aid.ite (fun _ => ?_) (fun hh => absurd (show (i : Int) < (l.length : Int) by omega) hh)
    have bad : (s < 0 ∨ s ≥ 64) → Ev (fun k => bits_Of.j1 k (M.toNat : Int) s l (l.length : Int) (i : Int) true) (ofS M (s :: l.drop (i + 1))) := fun h => by
      rw [ofS, if_pos h]
      refine Ev.step (fun k => by rw [bits_Of.j1]) ?_
      simp only [if_true]
      exact Ev.now _
    refine Aid.ite (fun h => bad (.inl h)) (fun h => ?_)
    by_cases h2 : s ≥ 64
    · simp only [decide_eq_true h2]; exact bad (.inr h2)
    · simp only [decide_eq_false h2]
      refine Ev.step (fun k => by rw [bits_Of.j1]) ?_
      simp only [Bool.false_eq_true, if_false]
      rw [ofS, if_neg (by omega)]
      obtain ⟨n, rfl⟩ : ∃ n : Nat, s = (n : Int) := ⟨s.toNat, by omega⟩
      refine Aid.ite (fun _ => ?_) (fun hh => absurd (show (0 : Int) ≤ (n : Int) by omega) hh)
      simp only [Int.toNat_natCast]
      by_cases hb : M.getLsbD n = true
      · rw [if_pos hb]
        exact Aid.ite (fun _ => Ev.now _) (fun hh => absurd ((bit_test M n).2 hb) hh)
      · rw [if_neg hb]
        refine Aid.ite (fun hh => absurd ((bit_test M n).1 hh) hb) (fun _ => ?_)
        rw [hw.out, one_shl, u_or]
        exact ih (i + 1) _ (by omega)
theorem of_f (l : List Int) (hl : l.length ≤ 17592186044416) : Ev (fun k => bits_Of.f k l) (ofS 0#64 l) := by
  unfold bits_Of.f
  exact of_l0 l hl l.length 0 0#64 (by omega)
theorem in_f (a b c : Int) : gamehallref1_In.f a b c = some (decide (b ≤ a ∧ a ≤ c)) := by
  unfold gamehallref1_In.f
  by_cases h : a ≥ b
  · rw [if_pos h]; simp; omega
  · rw [if_neg h]; simp; omega
theorem u_add (A B : BitVec 64) : IntKind.u64.wrap ((A.toNat : Int) + (B.toNat : Int)) = ((A + B).toNat : Int) := by
  rw [show ((A.toNat : Int) + (B.toNat : Int)) = ((A.toNat + B.toNat : Nat) : Int) by push_cast; rfl, wrap_u, BitVec.toNat_add]
theorem add_bit (M : BitVec 64) (n : Nat) (hn : n < 64) (hb : ¬ M.getLsbD n = true) : M + (1#64 <<< n) = M ||| (1#64 <<< n) := by
  apply BitVec.add_eq_or_of_and_eq_zero
  apply BitVec.eq_of_getLsbD_eq
  intro i hi
  rw [BitVec.getLsbD_and, one_bit n i hi]
  by_cases e : i = n
  · subst e; simp at hb; simp [hb]
  · simp [e]
section
variable (l : List Int) (b : Int)
/-- a fault has been met: the rest of the list changes nothing -/
theorem rest (hl : l.length ≤ 17592186044416) (w : Int) (hw0 : w ≠ 0) (hK : Ev (fun k => gamehalllaw1_BitsSets.j6 k l b w 0) true) : ∀ (d i : Nat) (met : List Int) (sum : Int), i + d = l.length →
    Ev (fun k => gamehalllaw1_BitsSets.l0 k l b met w sum l (l.length : Int) (i : Int)) true := by
  intro d
  induction d with
  | zero =>
    intro i met sum hi
    refine Ev.step (fun k => by rw [gamehalllaw1_BitsSets.l0]) ?_
    refine Aid.ite (fun hh => absurd hh (by omega)) (fun _ => ?_)
    exact Aid.ite (fun hh => absurd hh hw0) (fun _ => hK)
  | succ d ih =>
    intro i met sum hi
    have hw := Aside0.mk (show wrap64 ((i : Int) + 1) = ((i + 1 : Nat) : Int) from by rw [w64s (by omega) (by omega)]; omega)
    refine Ev.step (fun k => by rw [gamehalllaw1_BitsSets.l0]) ?_
    refine Aid.ite (fun _ => ?_) (fun hh => absurd (show (i : Int) < (l.length : Int) by omega) hh)
    refine Aid.ite (fun _ => ?_) (fun hh => absurd (show (0 : Int) ≤ (i : Int) by omega) hh)
    refine Aid.ite (fun _ => ?_) (fun hh => absurd (show (i : Int) < (l.length : Int) by omega) hh)
    refine Aid.ite (fun hh => absurd hh hw0) (fun _ => ?_)
    refine Ev.step (fun k => by rw [gamehalllaw1_BitsSets.j3]) ?_
    simp only [Bool.false_eq_true, if_false]
    refine Ev.step (fun k => by rw [gamehalllaw1_BitsSets.j4]) ?_
    refine Aid.ite (fun hh => absurd hh hw0) (fun _ => ?_)
    refine Ev.step (fun k => by rw [gamehalllaw1_BitsSets.j5]) ?_
    simp only [Bool.false_eq_true, if_false]
    refine Aid.ite (fun hh => absurd hh hw0) (fun _ => ?_)
    rw [hw.out]
    exact ih (i + 1) _ _ (by omega)
theorem run (hl : l.length ≤ 17592186044416) : ∀ (d i : Nat) (met : List Int) (M : BitVec 64), i + d = l.length → met.length = 64 → (∀ s : Nat, s < 64 → (rd met (s : Int) > 0 ↔ M.getLsbD s = true)) → (∀ s : Nat, s < 64 → 0 ≤ rd met (s : Int) ∧ rd met (s : Int) ≤ 1) →
    Ev (fun k => gamehalllaw1_BitsSets.j6 k l b (ofS M (l.drop i)).2 (ofS M (l.drop i)).1) true →
    Ev (fun k => gamehalllaw1_BitsSets.l0 k l b met 0 (M.toNat : Int) l (l.length : Int) (i : Int)) true := by
  intro d
  induction d with
  | zero =>
    intro i met M hi hm h1 h2 hK
    rw [List.drop_eq_nil_of_le (by omega)] at hK
    refine Ev.step (fun k => by rw [gamehalllaw1_BitsSets.l0]) ?_
    refine Aid.ite (fun hh => absurd hh (by omega)) (fun _ => ?_)
    exact Aid.ite (fun _ => hK) (fun hh => absurd rfl hh)
  | succ d ih =>
    intro i met M hi hm h1 h2 hK
    rw [rd_drop l i (by omega)] at hK
    have hw := Aside0.mk (show wrap64 ((i : Int) + 1) = ((i + 1 : Nat) : Int) from by rw [w64s (by omega) (by omega)]; omega)
    refine Ev.step (fun k => by rw [gamehalllaw1_BitsSets.l0]) ?_
    generalize rd l (i : Int) = s at hK
    refine Aid.ite (fun _ => ?_) (fun hh => absurd (show (i : Int) < (l.length : Int) by omega) hh)
    refine Aid.ite (fun _ => ?_) (fun hh => absurd (show (0 : Int) ≤ (i : Int) by omega) hh)
    refine Aid.ite (fun _ => ?_) (fun hh => absurd (show (i : Int) < (l.length : Int) by omega) hh)
    refine Aid.ite (fun _ => ?_) (fun hh => absurd rfl hh)
    refine Aid.bind_now (in_f s 0 63) ?_
    refine Ev.step (fun k => by rw [gamehalllaw1_BitsSets.j3]) ?_
    by_cases hr : 0 ≤ s ∧ s ≤ 63
    · simp only [decide_eq_true hr, Bool.not_true, Bool.false_eq_true, if_false]
      obtain ⟨n, rfl⟩ : ∃ n : Nat, s = (n : Int) := ⟨s.toNat, by omega⟩
      have hn : n < 64 := by omega
      rw [ofS, if_neg (by omega)] at hK
      simp only [Int.toNat_natCast] at hK
      have hlen : ∀ (A : Nat → Option Bool), Ev A true → Ev (fun k => if (0 : Int) ≤ (n : Int) then (if (n : Int) < (met.length : Int) then A k else none) else none) true := fun A hA =>
        Aid.ite (fun _ => Aid.ite (fun _ => hA) (fun hh => absurd (show (n : Int) < (met.length : Int) by omega) hh)) (fun hh => absurd (show (0 : Int) ≤ (n : Int) by omega) hh)
      refine Ev.step (fun k => by rw [gamehalllaw1_BitsSets.j4]) ?_
      refine Aid.ite (fun _ => ?_) (fun hh => absurd rfl hh)
      refine hlen _ ?_
      refine Ev.step (fun k => by rw [gamehalllaw1_BitsSets.j5]) ?_
      rw [hw.out]
      by_cases hb : M.getLsbD n = true
      · simp only [decide_eq_true ((h1 n hn).2 hb), if_true]
        rw [if_pos hb] at hK
        refine Aid.ite (fun hh => absurd hh (by decide)) (fun _ => ?_)
        exact rest l b hl 7 (by decide) hK d (i + 1) _ _ (by omega)
      · have h3 : ¬ rd met (n : Int) > 0 := fun h => hb ((h1 n hn).1 h)
        simp only [decide_eq_false h3, Bool.false_eq_true, if_false]
        rw [if_neg hb] at hK
        refine Aid.ite (fun _ => ?_) (fun hh => absurd (by first | rfl | trivial) hh)
        refine hlen _ ?_
        have h4 := h2 n hn
        have e0 : rd met (n : Int) = 0 := by omega
        rw [e0, show wrap64 ((0 : Int) + 1) = 1 from by rw [w64 (by omega) (by omega)]; rfl, one_shl, Int.toNat_natCast, u_add, add_bit M n hn hb]
        have hs : ∀ t : Nat, t < 64 → rd (met.set n 1) (t : Int) = if t = n then 1 else rd met (t : Int) := fun t ht => by
          by_cases e : t = n
          · subst e; simp [rd, List.getD_eq_getElem?_getD, hm, ht]
          · rw [if_neg e]
            simp only [rd, List.getD_eq_getElem?_getD, Int.toNat_natCast, List.getElem?_set_ne (Ne.symm e)]
        refine ih (i + 1) (met.set n 1) _ (by omega) (by simp [hm]) (fun t ht => ?_) (fun t ht => ?_) hK
        · rw [hs t ht, BitVec.getLsbD_or, one_bit n t ht]
          by_cases e : t = n
          · rw [if_pos e]; simp [e]
          · rw [if_neg e, h1 t ht]; simp [e]
        · rw [hs t ht]
          by_cases e : t = n
          · rw [if_pos e]; omega
          · rw [if_neg e]; exact h2 t ht
    · simp only [decide_eq_false hr, Bool.not_false, if_true]
      rw [ofS, if_pos (by omega)] at hK
      refine Ev.step (fun k => by rw [gamehalllaw1_BitsSets.j4]) ?_
      refine Aid.ite (fun hh => absurd hh (by decide)) (fun _ => ?_)
      refine Ev.step (fun k => by rw [gamehalllaw1_BitsSets.j5]) ?_
      simp only [Bool.false_eq_true, if_false]
      refine Aid.ite (fun hh => absurd hh (by decide)) (fun _ => ?_)
      rw [hw.out]
      exact rest l b hl 4 (by decide) hK d (i + 1) _ _ (by omega)
end
theorem pow_one (n : Nat) (hn : n < 64) : ((1#64 : BitVec 64) <<< n).toNat = 2 ^ n := by
  rw [BitVec.toNat_shiftLeft, Nat.shiftLeft_eq]
  simp only [BitVec.toNat_ofNat]
  rw [show 1 % 2 ^ 64 = 1 from rfl, Nat.one_mul, Nat.mod_eq_of_lt (Nat.pow_lt_pow_right (by decide) hn)]
theorem div_bit (B : BitVec 64) (n : Nat) (hn : n < 64) : Int.tmod (IntKind.u64.wrap (Int.tdiv (B.toNat : Int) (shl .u64 1 (n : Int)))) 2 = 1 ↔ B.getLsbD n = true := by
  rw [one_shl, Int.toNat_natCast, pow_one n hn]
  have e1 : Int.tdiv (B.toNat : Int) ((2 ^ n : Nat) : Int) = ((B.toNat / 2 ^ n : Nat) : Int) := by
    rw [Int.tdiv_eq_ediv_of_nonneg (by omega)]; push_cast; rfl
  rw [e1, wrap_u, BitVec.getLsbD, Nat.testBit_eq_decide_div_mod_eq, decide_eq_true_eq]
  have h1 : B.toNat / 2 ^ n ≤ B.toNat := Nat.div_le_self _ _
  have h2 := B.isLt
  generalize B.toNat / 2 ^ n = q at *
  rw [Nat.mod_eq_of_lt (by omega), Int.tmod_eq_emod_of_nonneg (by omega)]
  omega
theorem one_ne (n : Nat) (hn : n < 64) : ¬ shl .u64 1 (n : Int) = 0 := by
  rw [one_shl, Int.toNat_natCast, pow_one n hn]
  have := Nat.two_pow_pos n
  omega
theorem count_f (B : BitVec 64) (k : Nat) : bits_Count.f k (B.toNat : Int) = some ((Tz.sqs B).length : Int) := by
  have := B.isLt
  unfold bits_Count.f
  rw [if_pos (by omega), ofInt_u]
theorem list_f (B : BitVec 64) (k : Nat) : bits_List.f k (B.toNat : Int) = some (sqI (Tz.sqs B)) := by
  have := B.isLt
  unfold bits_List.f
  rw [if_pos (by omega), ofInt_u]
theorem first_f (B : BitVec 64) (k : Nat) : bits_First.f k (B.toNat : Int) = some (firstV (Tz.sqs B), firstE (Tz.sqs B)) := by
  have := B.isLt
  unfold bits_First.f
  rw [if_pos (by omega), ofInt_u]
theorem bind_ev {α β : Type} {g : Nat → Option α} {f : Nat → α → Option β} {a : α} {r : β} (h : ∀ k, g k = some a) (k : Ev (fun n => f n a) r) : Ev (fun n => (g n).bind (f n)) r :=
  Ev.bind ⟨0, fun n _ => h n⟩ k
/-- the squares so far -/
def upto (B : BitVec 64) (i : Nat) : List Int := sqI ((List.range i).filter fun j => B.getLsbD j)
theorem upto_len (B : BitVec 64) (i : Nat) : (upto B i).length ≤ i := by
  have := List.length_filter_le (fun j => B.getLsbD j) (List.range i)
  simpa [upto, sqI] using this
theorem upto_succ (B : BitVec 64) (i : Nat) : upto B (i + 1) = if B.getLsbD i = true then upto B i ++ [(i : Int)] else upto B i := by
  unfold upto sqI
  rw [List.range_succ, List.filter_append, List.map_append]
  by_cases h : B.getLsbD i = true
  · rw [if_pos h]; simp [h]
  · rw [if_neg h]; simp [h]
theorem squares (B : BitVec 64) (w sum : Int) : ∀ (d i : Nat), i + d = 64 → Ev (fun k => gamehalllaw1_BitsSets.l1 k (B.toNat : Int) w sum sum w (upto B i) (i : Int)) true := by
  intro d
  induction d with
  | zero =>
    intro i hi
    obtain rfl : i = 64 := by omega
    refine Ev.step (fun k => by rw [gamehalllaw1_BitsSets.l1]) ?_
    refine Aid.ite (fun hh => absurd hh (by decide)) (fun _ => ?_)
    refine bind_ev (fun k => first_f B k) ?_
    rw [show upto B 64 = sqI (Tz.sqs B) from rfl]
    have hle := Tz.le B
    have hlen : (sqI (Tz.sqs B)).length = (Tz.sqs B).length := by simp [sqI]
    refine Aid.ite (fun h0 => ?_) (fun h0 => ?_)
    · have hn : Tz.sqs B = [] := List.eq_nil_of_length_eq_zero (by omega)
      refine Aid.ite (fun _ => ?_) (fun hh => absurd rfl hh)
      refine Aid.ite (fun _ => ?_) (fun hh => absurd rfl hh)
      refine Aid.ite (fun _ => ?_) (fun hh => absurd (by rw [hn]; rfl) hh)
      refine Aid.ite (fun _ => ?_) (fun hh => absurd (by rw [hn]; rfl) hh)
      refine bind_ev (fun k => count_f B k) ?_
      refine Aid.ite (fun _ => ?_) (fun hh => absurd (by rw [hn]; rfl) hh)
      refine bind_ev (fun k => list_f B k) ?_
      exact Aid.now (by rw [hn]; rfl)
    · obtain ⟨x, t, hx⟩ : ∃ x t, Tz.sqs B = x :: t := by
        cases h : Tz.sqs B with
        | nil => rw [h] at h0; exact absurd rfl h0
        | cons x t => exact ⟨x, t, rfl⟩
      refine Aid.ite (fun _ => ?_) (fun hh => absurd rfl hh)
      refine Aid.ite (fun _ => ?_) (fun hh => absurd rfl hh)
      refine Aid.ite (fun _ => ?_) (fun hh => absurd (by rw [hx]; rfl) hh)
      refine Aid.ite (fun _ => ?_) (fun hh => absurd (by omega) hh)
      refine Aid.ite (fun _ => ?_) (fun hh => absurd (by rw [hx]; rfl) hh)
      refine bind_ev (fun k => count_f B k) ?_
      refine Aid.ite (fun _ => ?_) (fun hh => absurd (by rw [hlen]) hh)
      refine bind_ev (fun k => list_f B k) ?_
      refine Ev.bind (same_f _ (by omega)) ?_
      exact Ev.now _
  | succ d ih =>
    intro i hi
    have hw := Aside0.mk (show wrap64 ((i : Int) + 1) = ((i + 1 : Nat) : Int) from by rw [w64s (by omega) (by omega)]; omega)
    refine Ev.step (fun k => by rw [gamehalllaw1_BitsSets.l1]) ?_
    refine Aid.ite (fun _ => ?_) (fun hh => absurd (show (i : Int) < 64 by omega) hh)
    refine Aid.ite (fun _ => ?_) (fun hh => absurd (show (0 : Int) ≤ (i : Int) by omega) hh)
    refine Aid.ite (fun hh => absurd hh (one_ne i (by omega))) (fun _ => ?_)
    rw [hw.out]
    have h1 := ih (i + 1) (by omega)
    rw [upto_succ] at h1
    refine Aid.ite (fun h => ?_) (fun h => ?_)
    · have hb := (div_bit B i (by omega)).1 h
      rw [if_pos hb] at h1
      have := upto_len B i
      exact Aid.ite (fun _ => h1) (fun hh => absurd (by omega) hh)
    · have hb : ¬ B.getLsbD i = true := fun e => h ((div_bit B i (by omega)).2 e)
      rw [if_neg hb] at h1
      exact h1
theorem ev_j6 (l : List Int) (hl : l.length ≤ 17592186044416) (B : BitVec 64) : Ev (fun k => gamehalllaw1_BitsSets.j6 k l (B.toNat : Int) (ofS 0#64 l).2 (ofS 0#64 l).1) true := by
  refine Ev.step (fun k => by rw [gamehalllaw1_BitsSets.j6]) ?_
  refine Ev.bind (of_f l hl) ?_
  exact squares B _ _ 64 0 (by omega)
theorem c1 : bits_Count.f 0 513 = some 2 := by decide +kernel
theorem c2 : bits_List.f 0 513 = some [0, 9] := by decide +kernel
theorem c3 : bits_First.f 0 512 = some (9, 0) := by decide +kernel
end Bt
open Bt in
theorem BitsSets : gamehalllaw1_BitsSets.Pure := by
  intro l a1 hw0 hw1
  have hl : l.length ≤ 17592186044416 := by have := hw0.1; omega
  obtain ⟨B, rfl⟩ := Bits.of_nat hw1
  refine Ev.rounds (g := fun k => gamehalllaw1_BitsSets.f k l (B.toNat : Int)) ?_
  unfold gamehalllaw1_BitsSets.f
  refine Ev.bind (a := ((513 : Int), (0 : Int))) (Ev.of (bits_Of.mono _) (k := 20) (by decide +kernel)) ?_
  refine Aid.ite (fun _ => ?_) (fun hh => absurd rfl hh)
  refine Aid.ite (fun _ => ?_) (fun hh => absurd rfl hh)
  refine bind_ev (fun _ => c1) ?_
  refine Aid.ite (fun _ => ?_) (fun hh => absurd rfl hh)
  refine bind_ev (fun _ => c2) ?_
  refine Ev.bind (same_f [0, 9] (by decide)) ?_
  refine Ev.step (fun k => by rw [gamehalllaw1_BitsSets.j0]) ?_
  refine Aid.ite (fun hh => absurd hh (by decide)) (fun _ => ?_)
  refine bind_ev (fun _ => c3) ?_
  refine Aid.ite (fun _ => ?_) (fun hh => absurd rfl hh)
  refine Ev.step (fun k => by rw [gamehalllaw1_BitsSets.j1]) ?_
  refine Aid.ite (fun hh => absurd hh (by decide)) (fun _ => ?_)
  refine Aid.ite (fun _ => ?_) (fun hh => absurd (by decide) hh)
  have h0 : ∀ s : Nat, s < 64 → rd (List.replicate 64 (0 : Int)) (s : Int) = 0 := fun s hs => by
    simp only [rd, Int.toNat_natCast, List.getD_eq_getElem?_getD, List.getElem?_replicate, hs, if_true, Option.getD_some]
  refine run l _ hl l.length 0 (List.replicate 64 0) 0#64 (by omega) (by simp) (fun s hs => ?_) (fun s hs => ?_) (ev_j6 l hl B)
  · rw [h0 s hs]; simp
  · rw [h0 s hs]; omega
end Go.Proofs.YtcncilipmekfhaaDoor.Pure
