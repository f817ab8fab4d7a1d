/- SymmColours, the finite facts: for every input the law answers true. The cycles of each symmetry are finite facts; where the law counts the colourings itself (at most 8 squares, at most 3 colours), its loops are shown to give a count over numbers, and the counts are computed. -/
import Derived.Test.YtcncilipmekfhaaPSymmColoursx3
import Derived.Test.YtcncilipmekfhaaAid
namespace Go.Proofs.Ytcncilipmekfhaa.Pure
open Go.RowKit Go.Proofs.Ytcncilipmekfhaa.PSymmColours Go.Proofs.YtcncilipmekfhaaW.PrintWords Go.Proofs.YtcncilipmekfhaaW.PrintLast

set_option linter.unusedSimpArgs false
set_option linter.unusedVariables false
namespace Sc
open Aid
theorem in_f (a b c : Int) : gamehallref1_In.f a b c = some (decide (b ≤ a ∧ a ≤ c)) := by
  unfold gamehallref1_In.f
  by_cases h : a ≥ b
  · rw [if_pos h]; simp; omega
  · rw [if_neg h]; simp; omega
theorem rd_at (xs : List Int) (i : Nat) (h : i < xs.length) : rd xs (i : Int) = xs[i] := by simp [rd, List.getD_eq_getElem?_getD, h]
/-! the program's count answers -/
def nS (w h : Nat) : Nat := if w = h then 8 else 4
theorem all_cyc : (List.range 9).all (fun w => (List.range 9).all (fun h => w == 0 || h == 0 || (List.range (nS w h)).all (fun s => match symm_cycles.f 600 (w : Int) (h : Int) (s : Int) with | some v => decide (0 ≤ v) && decide (v ≤ 64) | none => false))) = true := by decide +kernel
theorem cyc (w h : Nat) (hw : 1 ≤ w ∧ w ≤ 8) (hh : 1 ≤ h ∧ h ≤ 8) (s : Nat) (hs : s < nS w h) : ∃ v : Nat, v ≤ 64 ∧ symm_cycles.f 600 (w : Int) (h : Int) (s : Int) = some (v : Int) := by
  have h1 := List.all_eq_true.mp (List.all_eq_true.mp all_cyc w (List.mem_range.mpr (by omega))) h (List.mem_range.mpr (by omega))
  rw [show (w == 0) = false from beq_eq_false_iff_ne.mpr (by omega), show (h == 0) = false from beq_eq_false_iff_ne.mpr (by omega), Bool.false_or, Bool.false_or] at h1
  have h2 := List.all_eq_true.mp h1 s (List.mem_range.mpr hs)
  split at h2
  · rename_i v hv
    rw [Bool.and_eq_true] at h2
    have a := of_decide_eq_true h2.1
    have b := of_decide_eq_true h2.2
    exact ⟨v.toNat, by omega, by rw [hv, Int.toNat_of_nonneg a]⟩
  · exact absurd h2 (by decide)
theorem term_l1 (x0 x1 x2 x26 x27 : Int) (v : Nat) (hv : v ≤ 64) (hn : ∀ x9, ∃ r, Ev (fun k => symm_Colours.l0 k x0 x1 x2 x9 x26 (wrap64 (x27 + 1))) r) : ∀ (d i : Nat) (x9 x11 : Int), i + d = v →
    ∃ r, Ev (fun k => symm_Colours.l1 k x0 x1 x2 x9 x11 x26 x27 (v : Int) (i : Int)) r := by
  intro d
  induction d with
  | zero =>
    intro i x9 x11 hi
    obtain ⟨r, e⟩ := hn (wrap64 (x9 + x11))
    exact ⟨r, Ev.step (fun k => by rw [symm_Colours.l1]) (Aid.ite (fun h => absurd h (by omega)) (fun _ => e))⟩
  | succ d ih =>
    intro i x9 x11 hi
    obtain ⟨r, e⟩ := ih (i + 1) x9 (wrap64 (x11 * x2)) (by omega)
    have hw := Aside0.mk (show ((i + 1 : Nat) : Int) = wrap64 ((i : Int) + 1) from by rw [w64s (by omega) (by omega)]; omega)
    rw [hw.out] at e
    by_cases hc : wrap64 (x11 * x2) > 281474976710656
    · refine ⟨(0, 2), Ev.step (fun k => by rw [symm_Colours.l1]) ?_⟩
      refine Aid.ite (fun _ => ?_) (fun h => absurd (show (i : Int) < (v : Int) by omega) h)
      exact Aid.ite (fun _ => Ev.now _) (fun h => absurd hc h)
    · refine ⟨r, Ev.step (fun k => by rw [symm_Colours.l1]) ?_⟩
      refine Aid.ite (fun _ => ?_) (fun h => absurd (show (i : Int) < (v : Int) by omega) h)
      exact Aid.ite (fun h => absurd h hc) (fun _ => e)
theorem many (w h : Nat) : symm_many.f (w : Int) (h : Int) = some ((nS w h : Nat) : Int) := by
  unfold symm_many.f nS
  by_cases e : w = h
  · rw [if_pos (by omega), if_pos e]; rfl
  · rw [if_neg (by omega), if_neg e]; rfl
theorem nS_or (w h : Nat) : nS w h = 8 ∨ nS w h = 4 := by unfold nS; split <;> simp
theorem term_l0 (w h : Nat) (hw : 1 ≤ w ∧ w ≤ 8) (hh : 1 ≤ h ∧ h ≤ 8) (x2 : Int) : ∀ (d t : Nat) (x9 : Int), t + d = nS w h → ∃ r, Ev (fun k => symm_Colours.l0 k (w : Int) (h : Int) x2 x9 ((nS w h : Nat) : Int) (t : Int)) r := by
  have h8 := nS_or w h
  intro d
  induction d with
  | zero =>
    intro t x9 ht
    refine ⟨(wrap64 (Int.tdiv x9 ((nS w h : Nat) : Int)), 0), Ev.step (fun k => by rw [symm_Colours.l0]) ?_⟩
    refine Aid.ite (fun h => absurd h (by omega)) (fun _ => ?_)
    refine bind_now (many w h) ?_
    exact Aid.ite (fun h => absurd h (by omega)) (fun _ => Ev.now _)
  | succ d ih =>
    intro t x9 ht
    obtain ⟨v, hv, ev⟩ := cyc w h hw hh t (by omega)
    have hwt := Aside0.mk (show ((t + 1 : Nat) : Int) = wrap64 ((t : Int) + 1) from by rw [w64s (by omega) (by omega)]; omega)
    obtain ⟨r, e⟩ := term_l1 (w : Int) (h : Int) x2 ((nS w h : Nat) : Int) (t : Int) v hv (fun x9 => by rw [← hwt.out]; exact ih (t + 1) x9 (by omega)) v 0 x9 1 (by omega)
    refine ⟨r, Ev.step (fun k => by rw [symm_Colours.l0]) ?_⟩
    refine Aid.ite (fun _ => ?_) (fun h' => absurd (show (t : Int) < ((nS w h : Nat) : Int) by omega) h')
    exact Ev.bind (Ev.of (symm_cycles.mono _ _ _) ev) e

/-! the count of the law, told by numbers -/
def dg (c x k : Nat) : Nat := x / c ^ k % c
def lx (c x : Nat) (iv : List Nat) : Nat → Nat → Bool
  | 0, _ => true
  | d + 1, k => cond (Nat.beq (dg c x (iv.getD k 0)) (dg c x k)) (lx c x iv d (k + 1)) (Nat.blt (dg c x k) (dg c x (iv.getD k 0)))
def least (c n : Nat) (ivs : List (List Nat)) (x : Nat) : Bool := ivs.all (fun iv => lx c x iv n 0)
def one (c n N : Nat) (ivs : List (List Nat)) (x : Nat) : Nat := cond (Nat.blt x N) (cond (least c n ivs x) 1 0) 0
def lin (f : Nat → Nat) : Nat → Nat → Nat
  | 0, _ => 0
  | d + 1, x => f x + lin f d (x + 1)
def bin (f : Nat → Nat) : Nat → Nat → Nat
  | 0, x => f x
  | k + 1, x => bin f k x + bin f k (x + 2 ^ k)
theorem lin_add (f : Nat → Nat) : ∀ a b x, lin f (a + b) x = lin f a x + lin f b (x + a) := by
  intro a
  induction a with
  | zero => intro b x; simp [lin]
  | succ a ih =>
    intro b x
    rw [show a + 1 + b = (a + b) + 1 by omega, lin, ih, lin, show x + 1 + a = x + (a + 1) by omega]; omega
theorem bin_lin (f : Nat → Nat) : ∀ k x, bin f k x = lin f (2 ^ k) x := by
  intro k
  induction k with
  | zero => intro x; simp [bin, lin]
  | succ k ih => intro x; rw [bin, ih, ih, show 2 ^ (k + 1) = 2 ^ k + 2 ^ k by omega, lin_add]
theorem lin_zero (f : Nat → Nat) : ∀ d x, (∀ y, x ≤ y → f y = 0) → lin f d x = 0 := by
  intro d
  induction d with
  | zero => intro x _; rfl
  | succ d ih => intro x h; rw [lin, h x (by omega), ih (x + 1) (fun y hy => h y (by omega))]
theorem bin_cut (c n N : Nat) (ivs : List (List Nat)) (hN : N ≤ 2 ^ 13) : bin (one c n N ivs) 13 0 = lin (one c n N ivs) N 0 := by
  rw [bin_lin]
  obtain ⟨m, hm⟩ : ∃ m, 2 ^ 13 = N + m := ⟨2 ^ 13 - N, by omega⟩
  rw [hm, lin_add, lin_zero _ m]
  · rfl
  · intro y hy
    unfold one
    rw [show Nat.blt y N = false by rw [Bool.eq_false_iff, ne_eq, Nat.blt_eq]; omega]
    rfl
def data : List (Nat × Nat × List (List Nat)) := [(1, 1, [[0], [0], [0], [0], [0], [0], [0], [0]]), (1, 2, [[0, 1], [0, 1], [1, 0], [1, 0]]), (1, 3, [[0, 1, 2], [0, 1, 2], [2, 1, 0], [2, 1, 0]]), (1, 4, [[0, 1, 2, 3], [0, 1, 2, 3], [3, 2, 1, 0], [3, 2, 1, 0]]), (1, 5, [[0, 1, 2, 3, 4], [0, 1, 2, 3, 4], [4, 3, 2, 1, 0], [4, 3, 2, 1, 0]]), (1, 6, [[0, 1, 2, 3, 4, 5], [0, 1, 2, 3, 4, 5], [5, 4, 3, 2, 1, 0], [5, 4, 3, 2, 1, 0]]), (1, 7, [[0, 1, 2, 3, 4, 5, 6], [0, 1, 2, 3, 4, 5, 6], [6, 5, 4, 3, 2, 1, 0], [6, 5, 4, 3, 2, 1, 0]]), (1, 8, [[0, 1, 2, 3, 4, 5, 6, 7], [0, 1, 2, 3, 4, 5, 6, 7], [7, 6, 5, 4, 3, 2, 1, 0], [7, 6, 5, 4, 3, 2, 1, 0]]), (2, 1, [[0, 1], [1, 0], [0, 1], [1, 0]]), (2, 2, [[0, 1, 2, 3], [1, 0, 3, 2], [2, 3, 0, 1], [3, 2, 1, 0], [0, 2, 1, 3], [2, 0, 3, 1], [1, 3, 0, 2], [3, 1, 2, 0]]), (2, 3, [[0, 1, 2, 3, 4, 5], [1, 0, 3, 2, 5, 4], [4, 5, 2, 3, 0, 1], [5, 4, 3, 2, 1, 0]]), (2, 4, [[0, 1, 2, 3, 4, 5, 6, 7], [1, 0, 3, 2, 5, 4, 7, 6], [6, 7, 4, 5, 2, 3, 0, 1], [7, 6, 5, 4, 3, 2, 1, 0]]), (3, 1, [[0, 1, 2], [2, 1, 0], [0, 1, 2], [2, 1, 0]]), (3, 2, [[0, 1, 2, 3, 4, 5], [2, 1, 0, 5, 4, 3], [3, 4, 5, 0, 1, 2], [5, 4, 3, 2, 1, 0]]), (4, 1, [[0, 1, 2, 3], [3, 2, 1, 0], [0, 1, 2, 3], [3, 2, 1, 0]]), (4, 2, [[0, 1, 2, 3, 4, 5, 6, 7], [3, 2, 1, 0, 7, 6, 5, 4], [4, 5, 6, 7, 0, 1, 2, 3], [7, 6, 5, 4, 3, 2, 1, 0]]), (5, 1, [[0, 1, 2, 3, 4], [4, 3, 2, 1, 0], [0, 1, 2, 3, 4], [4, 3, 2, 1, 0]]), (6, 1, [[0, 1, 2, 3, 4, 5], [5, 4, 3, 2, 1, 0], [0, 1, 2, 3, 4, 5], [5, 4, 3, 2, 1, 0]]), (7, 1, [[0, 1, 2, 3, 4, 5, 6], [6, 5, 4, 3, 2, 1, 0], [0, 1, 2, 3, 4, 5, 6], [6, 5, 4, 3, 2, 1, 0]]), (8, 1, [[0, 1, 2, 3, 4, 5, 6, 7], [7, 6, 5, 4, 3, 2, 1, 0], [0, 1, 2, 3, 4, 5, 6, 7], [7, 6, 5, 4, 3, 2, 1, 0]])]
def okS (w h : Nat) (ivs : List (List Nat)) : Bool :=
  (ivs.length == nS w h) && (List.range (nS w h)).all (fun i => (List.range (w * h)).all (fun q =>
    (match gamehallref1_Moved.f 10 (w : Int) (h : Int) (i : Int) (q : Int) with | some m => decide (0 ≤ m) && decide (m < ((w * h : Nat) : Int)) && ((ivs.getD i []).getD m.toNat 0 == q) | none => false)
      && decide ((ivs.getD i []).getD q 0 < w * h) && (gamehallref1_Moved.f 10 (w : Int) (h : Int) (i : Int) (((ivs.getD i []).getD q 0 : Nat) : Int) == some (q : Int))))
theorem shapes : data.all (fun e => okS e.1 e.2.1 e.2.2) = true := by decide +kernel
theorem there : (List.range 9).all (fun w => (List.range 9).all (fun h => w == 0 || h == 0 || decide (w * h > 8) || data.any (fun e => e.1 == w && e.2.1 == h))) = true := by decide +kernel
theorem counts : data.all (fun e => (List.range 4).all (fun c => symm_Colours.f 3000 (e.1 : Int) (e.2.1 : Int) (c : Int) == some (((bin (one c (e.1 * e.2.1) (c ^ (e.1 * e.2.1)) e.2.2) 13 0 : Nat) : Int), 0))) = true := by decide +kernel
end Sc
end Go.Proofs.Ytcncilipmekfhaa.Pure
