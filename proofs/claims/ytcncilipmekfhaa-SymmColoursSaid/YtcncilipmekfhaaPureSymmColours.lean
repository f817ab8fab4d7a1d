/- SymmColours: for every input the law answers true. The loops of the law give a count over numbers; the counts are in the finite facts (ScFacts). -/
import Derived.Test.YtcncilipmekfhaaScFacts
namespace Go.Proofs.Ytcncilipmekfhaa.Pure
open Go.RowKit Go.Proofs.Ytcncilipmekfhaa.PSymmColours Go.Proofs.YtcncilipmekfhaaW.PrintWords Go.Proofs.YtcncilipmekfhaaW.PrintLast

set_option linter.unusedSimpArgs false
set_option linter.unusedVariables false
set_option linter.unusedSectionVars false
namespace Sc
open Aid
theorem wn (m : Nat) (h : m ≤ 6561) : wrap64 (m : Int) = (m : Int) := w64 (by omega) (by omega)
def ivf (ivs : List (List Nat)) (i k : Nat) : Nat := (ivs.getD i []).getD k 0
structure Sh (w h n : Nat) (ivs : List (List Nat)) : Prop where
  len : ivs.length = nS w h
  mv : ∀ i, i < nS w h → ∀ q, q < n → ∃ m : Nat, m < n ∧ gamehallref1_Moved.f 10 (w : Int) (h : Int) (i : Int) (q : Int) = some (m : Int) ∧ ivf ivs i m = q
  iv : ∀ i, i < nS w h → ∀ k, k < n → ivf ivs i k < n ∧ gamehallref1_Moved.f 10 (w : Int) (h : Int) (i : Int) ((ivf ivs i k : Nat) : Int) = some (k : Int)
theorem sh_of (w h : Nat) (ivs : List (List Nat)) (e : okS w h ivs = true) : Sh w h (w * h) ivs := by
  unfold okS at e
  rw [Bool.and_eq_true] at e
  have key : ∀ i, i < nS w h → ∀ q, q < w * h → (match gamehallref1_Moved.f 10 (w : Int) (h : Int) (i : Int) (q : Int) with | some m => decide (0 ≤ m) && decide (m < ((w * h : Nat) : Int)) && ((ivs.getD i []).getD m.toNat 0 == q) | none => false) = true
      ∧ (ivs.getD i []).getD q 0 < w * h ∧ gamehallref1_Moved.f 10 (w : Int) (h : Int) (i : Int) (((ivs.getD i []).getD q 0 : Nat) : Int) = some (q : Int) := by
    intro i hi q hq
    have := List.all_eq_true.mp (List.all_eq_true.mp e.2 i (List.mem_range.mpr hi)) q (List.mem_range.mpr hq)
    rw [Bool.and_eq_true, Bool.and_eq_true] at this
    exact ⟨this.1.1, of_decide_eq_true this.1.2, eq_of_beq this.2⟩
  refine ⟨eq_of_beq e.1, fun i hi q hq => ?_, fun i hi k hk => ⟨(key i hi k hk).2.1, (key i hi k hk).2.2⟩⟩
  have h1 := (key i hi q hq).1
  split at h1
  · rename_i m hm
    rw [Bool.and_eq_true, Bool.and_eq_true] at h1
    have a := of_decide_eq_true h1.1.1
    have b := of_decide_eq_true h1.1.2
    have c := eq_of_beq h1.2
    exact ⟨m.toNat, by omega, by rw [hm, Int.toNat_of_nonneg a], c⟩
  · exact absurd h1 (by decide)
theorem rd_set (xs : List Int) (a b : Nat) (v : Int) (h : a < xs.length) : rd (xs.set a v) (b : Int) = if a = b then v else rd xs (b : Int) := by
  unfold rd
  rw [Int.toNat_natCast, List.getD_eq_getElem?_getD, List.getD_eq_getElem?_getD, List.getElem?_set]
  by_cases e : a = b
  · subst e; simp [h]
  · simp [e]
section
variable (w h n : Nat) (ivs : List (List Nat)) (c : Nat) (sh : Sh w h n ivs) (hn : n ≤ 8)
include sh hn
theorem l5_ev (x : Nat) (i : Nat) (hi : i < nS w h) (x9 x10 x12 x76 x77 x102 x103 : Int) (X M : List Int) (hX : X.length = n) (hM : M.length = n) (fX : ∀ k, k < n → rd X (k : Int) = ((dg c x k : Nat) : Int)) (fM : ∀ k, k < n → rd M (k : Int) = ((dg c x (ivf ivs i k) : Nat) : Int)) (b : Bool) :
    ∀ (d k : Nat), k + d = n → Ev (fun r => gamehalllaw1_SymmColours.l3 r (w : Int) (h : Int) (c : Int) x9 x10 x12 X (b && lx c x (ivs.getD i []) d k) x76 x77 x102 (wrap64 (x103 + 1))) true →
    Ev (fun r => gamehalllaw1_SymmColours.l5 r (w : Int) (h : Int) (c : Int) x9 x10 x12 X b M x76 x77 x102 x103 (n : Int) (k : Int)) true := by
  intro d
  induction d with
  | zero =>
    intro k hk e
    refine Ev.step (fun r => by rw [gamehalllaw1_SymmColours.l5]) ?_
    refine Aid.ite (fun hh => absurd hh (by omega)) (fun _ => ?_)
    rw [lx, Bool.and_true] at e
    exact e
  | succ d ih =>
    intro k hk e
    have hw := Aside0.mk (show wrap64 ((k : Int) + 1) = ((k + 1 : Nat) : Int) from by rw [w64s (by omega) (by omega)]; omega)
    rw [lx] at e
    have a1 := fX k (by omega)
    have a2 := fM k (by omega)
    unfold ivf at a2
    refine Ev.step (fun r => by rw [gamehalllaw1_SymmColours.l5]) ?_
    refine Aid.ite (fun _ => ?_) (fun hh => absurd (show (k : Int) < (n : Int) by omega) hh)
    refine Aid.ite (fun _ => ?_) (fun hh => absurd (show (0 : Int) ≤ (k : Int) by omega) hh)
    refine Aid.ite (fun _ => ?_) (fun hh => absurd (show (k : Int) < (M.length : Int) by omega) hh)
    refine Aid.ite (fun _ => ?_) (fun hh => absurd (show (k : Int) < (X.length : Int) by omega) hh)
    simp only [a1, a2]
    generalize dg c x k = u at e ⊢
    generalize dg c x ((ivs.getD i []).getD k 0) = v at e ⊢
    refine Aid.ite (fun he => ?_) (fun he => ?_)
    · rw [show Nat.beq v u = true by rw [Nat.beq_eq]; omega, cond_true] at e
      rw [hw.out]
      exact ih (k + 1) (by omega) e
    · have hvu : ¬ v = u := fun hh => he (by rw [hh])
      rw [show Nat.beq v u = false by rw [Bool.eq_false_iff, ne_eq, Nat.beq_eq]; exact hvu, cond_false] at e
      refine Aid.ite (fun hb => ?_) (fun hb => ?_)
      · rw [hb, Bool.true_and] at e
        rw [show decide ((v : Int) > (u : Int)) = Nat.blt u v by rw [Bool.eq_iff_iff, decide_eq_true_eq, Nat.blt_eq]; omega]
        exact e
      · rw [show b = false by simpa using hb, Bool.false_and] at e
        exact e
theorem l4_ev (i : Nat) (hi : i < nS w h) (x9 x10 x12 x76 x77 x102 : Int) (b : Bool) (X : List Int) (hX : X.length = n)
    (K : ∀ M : List Int, M.length = n → (∀ k, k < n → rd M (k : Int) = rd X ((ivf ivs i k : Nat) : Int)) → Ev (fun r => gamehalllaw1_SymmColours.l5 r (w : Int) (h : Int) (c : Int) x9 x10 x12 X b M x76 x77 x102 (i : Int) (n : Int) 0) true) :
    ∀ (d j : Nat) (M : List Int), j + d = n → M.length = n → (∀ k, k < n → ivf ivs i k < j → rd M (k : Int) = rd X ((ivf ivs i k : Nat) : Int)) →
    Ev (fun r => gamehalllaw1_SymmColours.l4 r (w : Int) (h : Int) (c : Int) x9 x10 x12 X b (i : Int) M x76 x77 x102 (i : Int) (n : Int) (j : Int)) true := by
  intro d
  induction d with
  | zero =>
    intro j M hj hM f
    refine Ev.step (fun r => by rw [gamehalllaw1_SymmColours.l4]) ?_
    refine Aid.ite (fun hh => absurd hh (by omega)) (fun _ => ?_)
    rw [hM]
    exact K M hM (fun k hk => f k hk (by have := (sh.iv i hi k hk).1; omega))
  | succ d ih =>
    intro j M hj hM f
    have hw := Aside0.mk (show wrap64 ((j : Int) + 1) = ((j + 1 : Nat) : Int) from by rw [w64s (by omega) (by omega)]; omega)
    obtain ⟨m, hm, em, vm⟩ := sh.mv i hi j (by omega)
    refine Ev.step (fun r => by rw [gamehalllaw1_SymmColours.l4]) ?_
    refine Aid.ite (fun _ => ?_) (fun hh => absurd (show (j : Int) < (n : Int) by omega) hh)
    refine Aid.ite (fun _ => ?_) (fun hh => absurd (show (0 : Int) ≤ (j : Int) by omega) hh)
    refine Aid.ite (fun _ => ?_) (fun hh => absurd (show (j : Int) < (X.length : Int) by omega) hh)
    refine Ev.bind (Ev.of (gamehallref1_Moved.mono _ _ _ _) em) ?_
    refine Aid.ite (fun _ => ?_) (fun hh => absurd (show (0 : Int) ≤ (m : Int) by omega) hh)
    refine Aid.ite (fun _ => ?_) (fun hh => absurd (show (m : Int) < (M.length : Int) by omega) hh)
    rw [hw.out, Int.toNat_natCast]
    refine ih (j + 1) _ (by omega) (by rw [List.length_set]; exact hM) (fun k hk hlt => ?_)
    rw [rd_set M m k _ (by omega)]
    by_cases e : m = k
    · rw [if_pos e, ← e, vm]
    · rw [if_neg e]
      refine f k hk ?_
      have h2 := (sh.iv i hi k hk).2
      have : ivf ivs i k ≠ j := by
        intro hh
        rw [hh, em] at h2
        injection h2 with h2
        exact e (by omega)
      omega
theorem l3_ev (hc : 1 ≤ c) (x : Nat) (x9 x10 x12 x76 x77 : Int) (X : List Int) (hX : X.length = n) (fX : ∀ k, k < n → rd X (k : Int) = ((dg c x k : Nat) : Int)) :
    ∀ (d i : Nat) (b : Bool), i + d = nS w h → Ev (fun r => gamehalllaw1_SymmColours.l1 r (w : Int) (h : Int) (c : Int) x9 x10 (if (b && (ivs.drop i).all (fun iv => lx c x iv n 0)) = true then wrap64 (x12 + 1) else x12) x76 (wrap64 (x77 + 1))) true →
    Ev (fun r => gamehalllaw1_SymmColours.l3 r (w : Int) (h : Int) (c : Int) x9 x10 x12 X b x76 x77 ((nS w h : Nat) : Int) (i : Int)) true := by
  have h8 := nS_or w h
  intro d
  induction d with
  | zero =>
    intro i b hi e
    rw [List.drop_of_length_le (by rw [sh.len]; omega), List.all_nil, Bool.and_true] at e
    refine Ev.step (fun r => by rw [gamehalllaw1_SymmColours.l3]) ?_
    refine Aid.ite (fun hh => absurd hh (by omega)) (fun _ => ?_)
    refine Aid.ite (fun hb => ?_) (fun hb => ?_)
    · rw [if_pos hb] at e; exact e
    · rw [if_neg hb] at e; exact e
  | succ d ih =>
    intro i b hi e
    have hw := Aside0.mk (show wrap64 ((i : Int) + 1) = ((i + 1 : Nat) : Int) from by rw [w64s (by omega) (by omega)]; omega)
    have hlt : i < ivs.length := by rw [sh.len]; omega
    rw [List.drop_eq_getElem_cons hlt, List.all_cons, ← Bool.and_assoc] at e
    have hg : ivs[i] = ivs.getD i [] := by simp [List.getD_eq_getElem?_getD, hlt]
    rw [hg] at e
    have e1 := ih (i + 1) _ (by omega) e
    refine Ev.step (fun r => by rw [gamehalllaw1_SymmColours.l3]) ?_
    rw [hX, Int.toNat_natCast]
    refine Aid.ite (fun _ => ?_) (fun hh => absurd (show (i : Int) < ((nS w h : Nat) : Int) by omega) hh)
    refine Aid.ite (fun _ => ?_) (fun hh => absurd (show (0 : Int) ≤ (n : Int) by omega) hh)
    refine Aid.ite (fun _ => ?_) (fun hh => absurd (show n ≤ 35184372088832 by omega) hh)
    refine l4_ev w h n ivs c sh hn i (by omega) x9 x10 x12 x76 x77 ((nS w h : Nat) : Int) b X hX (fun M hM fM => ?_) n 0 _ (by omega) (by simp) (fun k _ hk => absurd hk (by omega))
    refine l5_ev w h n ivs c sh hn x i (by omega) x9 x10 x12 x76 x77 ((nS w h : Nat) : Int) (i : Int) X M hX hM fX (fun k hk => ?_) b n 0 (by omega) ?_
    · rw [fM k hk, fX _ (sh.iv i (by omega) k hk).1]
    · rw [hw.out]; exact e1
theorem l2_ev (hc : 1 ≤ c) (x : Nat) (x9 x10 x12 x76 x77 : Int)
    (K : ∀ X : List Int, X.length = n → (∀ k, k < n → rd X (k : Int) = ((dg c x k : Nat) : Int)) → Ev (fun r => gamehalllaw1_SymmColours.l3 r (w : Int) (h : Int) (c : Int) x9 x10 x12 X true x76 x77 ((nS w h : Nat) : Int) 0) true)
    (hS : Ev (fun r => gamehallref1_Symmetries.f r (w : Int) (h : Int)) ((nS w h : Nat) : Int)) (hx : x ≤ 6561) :
    ∀ (d i : Nat) (X : List Int), i + d = n → X.length = n → (∀ k, k < i → rd X (k : Int) = ((dg c x k : Nat) : Int)) →
    Ev (fun r => gamehalllaw1_SymmColours.l2 r (w : Int) (h : Int) (c : Int) x9 x10 x12 X (i : Int) ((x / c ^ i : Nat) : Int) x76 x77) true := by
  intro d
  induction d with
  | zero =>
    intro i X hi hX f
    refine Ev.step (fun r => by rw [gamehalllaw1_SymmColours.l2]) ?_
    refine Aid.ite (fun hh => absurd hh (by omega)) (fun _ => ?_)
    exact Ev.bind hS (K X hX (fun k hk => f k (by omega)))
  | succ d ih =>
    intro i X hi hX f
    have hw := Aside0.mk (show wrap64 ((i : Int) + 1) = ((i + 1 : Nat) : Int) from by rw [w64s (by omega) (by omega)]; omega)
    have hq : x / c ^ i / c ≤ 6561 := Nat.le_trans (Nat.div_le_self _ _) (Nat.le_trans (Nat.div_le_self _ _) hx)
    have hd := Aside0.mk (show wrap64 (Int.tdiv ((x / c ^ i : Nat) : Int) (c : Int)) = ((x / c ^ (i + 1) : Nat) : Int) from by
      rw [show Int.tdiv ((x / c ^ i : Nat) : Int) (c : Int) = ((x / c ^ i / c : Nat) : Int) from rfl, wn _ hq, Nat.div_div_eq_div_mul, ← Nat.pow_succ])
    have ht := Aside0.mk (show Int.tmod ((x / c ^ i : Nat) : Int) (c : Int) = ((dg c x i : Nat) : Int) from rfl)
    clear hq
    refine Ev.step (fun r => by rw [gamehalllaw1_SymmColours.l2]) ?_
    refine Aid.ite (fun _ => ?_) (fun hh => absurd (show (i : Int) < (X.length : Int) by omega) hh)
    refine Aid.ite (fun hh => absurd hh (by omega)) (fun _ => ?_)
    refine Aid.ite (fun _ => ?_) (fun hh => absurd (show (0 : Int) ≤ (i : Int) by omega) hh)
    rw [hw.out, hd.out, ht.out, Int.toNat_natCast]
    refine ih (i + 1) _ (by omega) (by rw [List.length_set]; exact hX) (fun k hk => ?_)
    rw [rd_set X i k _ (by omega)]
    by_cases e : i = k
    · rw [if_pos e, e]
    · rw [if_neg e]; exact f k (by omega)
theorem l1_ev (hwh : n = w * h) (hc : c ≤ 3) (hn1 : 1 ≤ n) (N : Nat) (hN : N = c ^ n) (hN2 : N ≤ 6561) (res : Nat)
    (hS : Ev (fun r => gamehallref1_Symmetries.f r (w : Int) (h : Int)) ((nS w h : Nat) : Int)) :
    ∀ (d x acc : Nat), x + d = N → acc ≤ x → acc + lin (one c n N ivs) d x = res →
    Ev (fun r => gamehalllaw1_SymmColours.l1 r (w : Int) (h : Int) (c : Int) (res : Int) 0 (acc : Int) (N : Int) (x : Int)) true := by
  have hwn := Aside0.mk (show wrap64 ((w : Int) * (h : Int)) = (n : Int) from by rw [← Int.natCast_mul, ← hwh, w64 (by omega) (by omega)])
  intro d
  induction d with
  | zero =>
    intro x acc hx ha hr
    refine Ev.step (fun r => by rw [gamehalllaw1_SymmColours.l1]) ?_
    refine Aid.ite (fun hh => absurd hh (by omega)) (fun _ => ?_)
    refine Aid.ite (fun _ => ?_) (fun hh => absurd rfl hh)
    rw [lin] at hr
    exact now (by rw [show res = acc by omega]; simp)
  | succ d ih =>
    intro x acc hx ha hr
    have hw := Aside0.mk (show wrap64 ((x : Int) + 1) = ((x + 1 : Nat) : Int) from by rw [w64s (by omega) (by omega)]; omega)
    have hw2 := Aside0.mk (show wrap64 ((acc : Int) + 1) = ((acc + 1 : Nat) : Int) from by rw [w64s (by omega) (by omega)]; omega)
    have hc1 : 1 ≤ c := by
      rcases Nat.eq_zero_or_pos c with h0 | h0
      · rw [h0, Nat.zero_pow (by omega)] at hN; omega
      · exact h0
    rw [lin] at hr
    have h1 : one c n N ivs x = cond (least c n ivs x) 1 0 := by
      unfold one
      rw [show Nat.blt x N = true by rw [Nat.blt_eq]; omega]; rfl
    rw [h1] at hr
    have e1 : Ev (fun r => gamehalllaw1_SymmColours.l1 r (w : Int) (h : Int) (c : Int) (res : Int) 0 (if (true && (ivs.drop 0).all (fun iv => lx c x iv n 0)) = true then wrap64 ((acc : Int) + 1) else (acc : Int)) (N : Int) (wrap64 ((x : Int) + 1))) true := by
      rw [hw.out, hw2.out, Bool.true_and, List.drop_zero]
      change Ev (fun r => gamehalllaw1_SymmColours.l1 r (w : Int) (h : Int) (c : Int) (res : Int) 0 (if least c n ivs x = true then ((acc + 1 : Nat) : Int) else (acc : Int)) (N : Int) ((x + 1 : Nat) : Int)) true
      cases hb : least c n ivs x with
      | true =>
        rw [hb] at hr
        exact ih (x + 1) (acc + 1) (by omega) (by omega) (by rw [← hr, cond_true]; omega)
      | false =>
        rw [hb] at hr
        exact ih (x + 1) acc (by omega) (by omega) (by rw [← hr, cond_false]; omega)
    refine Ev.step (fun r => by rw [gamehalllaw1_SymmColours.l1]) ?_
    rw [hwn.out, Int.toNat_natCast]
    refine Aid.ite (fun _ => ?_) (fun hh => absurd (show (x : Int) < (N : Int) by omega) hh)
    refine Aid.ite (fun _ => ?_) (fun hh => absurd (show (0 : Int) ≤ (n : Int) by omega) hh)
    refine Aid.ite (fun _ => ?_) (fun hh => absurd (show n ≤ 35184372088832 by omega) hh)
    have e2 := l2_ev w h n ivs c sh hn hc1 x (res : Int) 0 (acc : Int) (N : Int) (x : Int)
      (fun X hX fX => l3_ev w h n ivs c sh hn hc1 x (res : Int) 0 (acc : Int) (N : Int) (x : Int) X hX fX (nS w h) 0 true (by omega) e1) hS (by omega) n 0 (List.replicate n 0) (by omega) (by simp) (fun k hk => absurd hk (by omega))
    rw [Nat.pow_zero, Nat.div_one] at e2
    exact e2
theorem l0_ev (hc : c ≤ 3) (res : Nat) (e : Ev (fun r => gamehalllaw1_SymmColours.l1 r (w : Int) (h : Int) (c : Int) (res : Int) 0 0 ((c ^ n : Nat) : Int) 0) true) : ∀ (d i : Nat), i + d = n →
    Ev (fun r => gamehalllaw1_SymmColours.l0 r (w : Int) (h : Int) (c : Int) (res : Int) 0 ((c ^ i : Nat) : Int) (n : Int) (i : Int)) true := by
  intro d
  induction d with
  | zero =>
    intro i hi
    obtain rfl : i = n := by omega
    refine Ev.step (fun r => by rw [gamehalllaw1_SymmColours.l0]) ?_
    exact Aid.ite (fun hh => absurd hh (by omega)) (fun _ => e)
  | succ d ih =>
    intro i hi
    have hw := Aside0.mk (show wrap64 ((i : Int) + 1) = ((i + 1 : Nat) : Int) from by rw [w64s (by omega) (by omega)]; omega)
    have hp : c ^ (i + 1) ≤ 6561 := Nat.le_trans (Nat.pow_le_pow_left hc (i + 1)) (Nat.le_trans (Nat.pow_le_pow_right (by decide) (show i + 1 ≤ 8 by omega)) (by decide))
    have hm := Aside0.mk (show wrap64 (((c ^ i : Nat) : Int) * (c : Int)) = ((c ^ (i + 1) : Nat) : Int) from by rw [← Int.natCast_mul, ← Nat.pow_succ]; exact wn _ hp)
    clear hp
    refine Ev.step (fun r => by rw [gamehalllaw1_SymmColours.l0]) ?_
    refine Aid.ite (fun _ => ?_) (fun hh => absurd (show (i : Int) < (n : Int) by omega) hh)
    rw [hw.out, hm.out]
    exact ih (i + 1) (by omega)
end
theorem sym_ev (w h : Nat) (hw : 1 ≤ w ∧ w ≤ 8) (hh : 1 ≤ h ∧ h ≤ 8) : Ev (fun r => gamehallref1_Symmetries.f r (w : Int) (h : Int)) ((nS w h : Nat) : Int) := by
  unfold gamehallref1_Symmetries.f
  refine bind_now (in_f _ _ _) ?_
  rw [decide_eq_true (show 1 ≤ (w : Int) ∧ (w : Int) ≤ 8 by omega)]
  refine Aid.ite (fun _ => ?_) (fun hh => absurd rfl hh)
  refine bind_now (in_f _ _ _) ?_
  rw [decide_eq_true (show 1 ≤ (h : Int) ∧ (h : Int) ≤ 8 by omega)]
  refine Ev.step (fun r => by rw [gamehallref1_Symmetries.j0]) ?_
  refine Aid.ite (fun hh => absurd hh (by decide)) (fun _ => ?_)
  unfold nS
  refine Aid.ite (fun e => now ?_) (fun e => now ?_)
  · rw [if_pos (show w = h by omega)]; rfl
  · rw [if_neg (show ¬ w = h by omega)]; rfl
theorem check_f (a b : Int) : symm_Check.f a b = some (if (1 ≤ a ∧ a ≤ 8) ∧ (1 ≤ b ∧ b ≤ 8) then 0 else 4) := by
  unfold symm_Check.f
  repeat' split
  all_goals first | rfl | (exfalso; omega)
end Sc
open Sc Aid

theorem SymmColours : gamehalllaw1_SymmColours.Pure := by
  intro a0 a1 a2 hw0 hw1 hw2
  refine Ev.rounds (g := fun k => gamehalllaw1_SymmColours.f k a0 a1 a2) ?_
  unfold gamehalllaw1_SymmColours.f
  have e1 : Ev (fun k => symm_Colours.f k 2 2 2) (6, 0) := Ev.of (symm_Colours.mono _ _ _) (k := 400) (by decide +kernel)
  refine Ev.bind e1 ?_
  refine Aid.ite (fun _ => ?_) (fun hh => absurd rfl hh)
  refine Ev.step (fun k => by rw [gamehalllaw1_SymmColours.j0]) ?_
  refine Aid.ite (fun hh => absurd hh (by decide)) (fun _ => ?_)
  clear e1
  by_cases hv : (1 ≤ a0 ∧ a0 ≤ 8) ∧ (1 ≤ a1 ∧ a1 ≤ 8)
  · obtain ⟨w, rfl⟩ : ∃ w : Nat, a0 = (w : Int) := ⟨a0.toNat, by omega⟩
    obtain ⟨h, rfl⟩ : ∃ h : Nat, a1 = (h : Int) := ⟨a1.toNat, by omega⟩
    have vw : 1 ≤ w ∧ w ≤ 8 := by omega
    have vh : 1 ≤ h ∧ h ≤ 8 := by omega
    have hS := sym_ev w h vw vh
    have h8 := nS_or w h
    by_cases hc : 0 ≤ a2 ∧ a2 ≤ 16
    · have eC : ∃ r, Ev (fun k => symm_Colours.f k (w : Int) (h : Int) a2) r := by
        obtain ⟨r, e⟩ := term_l0 w h vw vh a2 (nS w h) 0 0 (by omega)
        refine ⟨r, ?_⟩
        unfold symm_Colours.f
        refine bind_now (check_f _ _) ?_
        rw [if_pos hv]
        refine Aid.ite (fun _ => ?_) (fun hh => absurd rfl hh)
        refine Aid.ite (fun hh => absurd hh (by omega)) (fun _ => ?_)
        rw [decide_eq_false (show ¬ a2 > 16 by omega)]
        refine Ev.step (fun k => by rw [symm_Colours.j0]) ?_
        refine Aid.ite (fun hh => absurd hh (by decide)) (fun _ => ?_)
        refine bind_now (many w h) ?_
        exact e
      have rest : ∀ r : Int × Int, Ev (fun k => symm_Colours.f k (w : Int) (h : Int) a2) r → (¬ (wrap64 ((w : Int) * (h : Int)) > 8) → ¬ a2 > 3 → Ev (fun k => gamehalllaw1_SymmColours.j1 k (w : Int) (h : Int) a2 r.1 r.2 false) true) →
          Ev (fun k => (symm_Colours.f k (w : Int) (h : Int) a2).bind fun bt116 => ((gamehallref1_Symmetries.f k (w : Int) (h : Int)).bind fun t118 => (if t118 = 0 then (if bt116.2 = 4 then (some (bt116.1 == 0)) else (some false)) else ((gamehallref1_In.f a2 0 16).bind fun t119 => (if t119 = true then (if (wrap64 ((w : Int) * (h : Int))) > 8 then (gamehalllaw1_SymmColours.j1 k (w : Int) (h : Int) a2 bt116.1 bt116.2 true) else (gamehalllaw1_SymmColours.j1 k (w : Int) (h : Int) a2 bt116.1 bt116.2 (decide (a2 > 3)))) else (if bt116.2 = 1 then (some (bt116.1 == 0)) else (some false))))))) true := by
        intro r er hr
        have jt : Ev (fun k => gamehalllaw1_SymmColours.j1 k (w : Int) (h : Int) a2 r.1 r.2 true) true := Ev.step (fun k => by rw [gamehalllaw1_SymmColours.j1]) (Aid.ite (fun _ => Ev.now _) (fun hh => absurd rfl hh))
        refine Ev.bind er ?_
        refine Ev.bind hS ?_
        refine Aid.ite (fun hh => absurd hh (by omega)) (fun _ => ?_)
        refine bind_now (in_f _ _ _) ?_
        rw [decide_eq_true hc]
        refine Aid.ite (fun _ => ?_) (fun hh => absurd rfl hh)
        refine Aid.ite (fun _ => jt) (fun hh => ?_)
        by_cases h3 : a2 > 3
        · rw [decide_eq_true h3]; exact jt
        · rw [decide_eq_false h3]; exact hr hh h3
      by_cases hsm : w * h ≤ 8 ∧ a2 ≤ 3
      · obtain ⟨c, rfl⟩ : ∃ c : Nat, a2 = (c : Int) := ⟨a2.toNat, by omega⟩
        have hc3 : c ≤ 3 := by omega
        have hn1 : 1 ≤ w * h := Nat.mul_pos (by omega) (by omega)
        have t1 := List.all_eq_true.mp (List.all_eq_true.mp there w (List.mem_range.mpr (by omega))) h (List.mem_range.mpr (by omega))
        rw [show (w == 0) = false from beq_eq_false_iff_ne.mpr (by omega), show (h == 0) = false from beq_eq_false_iff_ne.mpr (by omega), decide_eq_false (by omega), Bool.false_or, Bool.false_or, Bool.false_or] at t1
        obtain ⟨⟨w', h', ivs⟩, hm, he⟩ := List.any_eq_true.mp t1
        rw [Bool.and_eq_true] at he
        obtain rfl : w' = w := eq_of_beq he.1
        obtain rfl : h' = h := eq_of_beq he.2
        have sh := sh_of w' h' ivs (List.all_eq_true.mp shapes _ hm)
        have ct := eq_of_beq (List.all_eq_true.mp (List.all_eq_true.mp counts _ hm) c (List.mem_range.mpr (by omega)))
        have hp : c ^ (w' * h') ≤ 6561 := Nat.le_trans (Nat.pow_le_pow_left hc3 _) (Nat.le_trans (Nat.pow_le_pow_right (by decide) hsm.1) (by decide))
        have ct2 : symm_Colours.f 3000 (w' : Int) (h' : Int) (c : Int) = some (((lin (one c (w' * h') (c ^ (w' * h')) ivs) (c ^ (w' * h')) 0 : Nat) : Int), 0) := by
          rw [← bin_cut c (w' * h') (c ^ (w' * h')) ivs (Nat.le_trans hp (by decide))]; exact ct
        refine rest _ (Ev.of (symm_Colours.mono _ _ _) ct2) (fun _ _ => ?_)
        refine Ev.step (fun k => by rw [gamehalllaw1_SymmColours.j1]) ?_
        refine Aid.ite (fun hh => absurd hh (by decide)) (fun _ => ?_)
        have hwn : wrap64 ((w' : Int) * (h' : Int)) = ((w' * h' : Nat) : Int) := by rw [← Int.natCast_mul, w64 (by omega) (by omega)]
        rw [hwn]
        have e1 := l1_ev w' h' (w' * h') ivs c sh hsm.1 rfl hc3 hn1 (c ^ (w' * h')) rfl hp _ hS (c ^ (w' * h')) 0 0 (by omega) (by omega) (Nat.zero_add _)
        exact l0_ev w' h' (w' * h') ivs c sh hsm.1 hc3 _ e1 (w' * h') 0 (by omega)
      · obtain ⟨r, er⟩ := eC
        refine rest r er (fun g1 g2 => ?_)
        exfalso
        have hb : w * h ≤ 64 := Nat.mul_le_mul vw.2 vh.2
        rw [← Int.natCast_mul, w64 (by omega) (by omega)] at g1
        omega
    · have eC : Ev (fun k => symm_Colours.f k (w : Int) (h : Int) a2) (0, 1) := by
        have jt : Ev (fun k => symm_Colours.j0 k (w : Int) (h : Int) a2 true) (0, 1) := Ev.step (fun k => by rw [symm_Colours.j0]) (Aid.ite (fun _ => Ev.now _) (fun hh => absurd rfl hh))
        unfold symm_Colours.f
        refine bind_now (check_f _ _) ?_
        rw [if_pos hv]
        refine Aid.ite (fun _ => ?_) (fun hh => absurd rfl hh)
        refine Aid.ite (fun _ => jt) (fun hh => ?_)
        rw [decide_eq_true (show a2 > 16 by omega)]
        exact jt
      refine Ev.bind eC ?_
      refine Ev.bind hS ?_
      refine Aid.ite (fun hh => absurd hh (by omega)) (fun _ => ?_)
      refine bind_now (in_f _ _ _) ?_
      rw [decide_eq_false hc]
      refine Aid.ite (fun hh => absurd hh (by decide)) (fun _ => ?_)
      exact Aid.ite (fun _ => now rfl) (fun hh => absurd rfl hh)
  · have eC : Ev (fun k => symm_Colours.f k a0 a1 a2) (0, 4) := by
      unfold symm_Colours.f
      refine bind_now (check_f _ _) ?_
      rw [if_neg hv]
      exact Aid.ite (fun hh => absurd hh (by decide)) (fun _ => Ev.now _)
    have eS : Ev (fun k => gamehallref1_Symmetries.f k a0 a1) 0 := by
      have jt : Ev (fun k => gamehallref1_Symmetries.j0 k a0 a1 true) 0 := Ev.step (fun k => by rw [gamehallref1_Symmetries.j0]) (Aid.ite (fun _ => Ev.now _) (fun hh => absurd rfl hh))
      unfold gamehallref1_Symmetries.f
      refine bind_now (in_f _ _ _) ?_
      by_cases h1 : 1 ≤ a0 ∧ a0 ≤ 8
      · rw [decide_eq_true h1]
        refine Aid.ite (fun _ => ?_) (fun hh => absurd rfl hh)
        refine bind_now (in_f _ _ _) ?_
        rw [decide_eq_false (show ¬ (1 ≤ a1 ∧ a1 ≤ 8) by omega)]
        exact jt
      · rw [decide_eq_false h1]
        exact Aid.ite (fun hh => absurd hh (by decide)) (fun _ => jt)
    refine Ev.bind eC ?_
    refine Ev.bind eS ?_
    refine Aid.ite (fun _ => ?_) (fun hh => absurd rfl hh)
    exact Aid.ite (fun _ => now rfl) (fun hh => absurd rfl hh)

end Go.Proofs.Ytcncilipmekfhaa.Pure
