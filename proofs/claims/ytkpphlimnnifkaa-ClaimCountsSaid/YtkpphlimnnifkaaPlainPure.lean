/- Package plain's game, refmatch's list of positions: one and the same (no program in sight but what the walks say). -/
import Derived.Test.YtkpphlimnnifkaaCoreDo
import Derived.Test.YtkpphlimnnifkaaCoreWin
import Derived.Test.YtkpphlimnnifkaaGivenPlain
namespace Go.Proofs.Ytkpphlimnnifkaa.Pure
open Go.RowKit Go.Proofs.Ytkpphlimnnifkaa.PClaimCounts Go.Proofs.YtkpphlimnnifkaaW.PrintWords Go.Proofs.YtkpphlimnnifkaaW.PrintLast
set_option linter.unusedSimpArgs false
set_option linter.unusedVariables false
namespace Co
open Aid
theorem wn1 (i : Nat) (h : i ≤ 100000) : wrap64 ((i : Int) + 1) = ((i + 1 : Nat) : Int) := by rw [w64s (by omega) (by omega)]; omega
theorem rdP (l : List S104) (i : Nat) (h : i < l.length) : rd_T104 l (i : Int) = l[i] := by simp [rd_T104, List.getD_eq_getElem?_getD, h]
theorem rdO (l : List S41) (i : Nat) (h : i < l.length) : rd_T41 l (i : Int) = l[i] := by simp [rd_T41, List.getD_eq_getElem?_getD, h]
def HD (r : S26) : List Int := r.f3.map (·.f1)
theorem hd_drop (r : S26) (i : Nat) (h : i < r.f3.length) (a : List Int) (e : HD r = a ++ (r.f3.drop i).map (·.f1)) : HD r = (a ++ [(rd_T104 r.f3 (i : Int)).f1]) ++ (r.f3.drop (i + 1)).map (·.f1) := by
  rw [e, List.drop_eq_getElem_cons h, rdP r.f3 i h, List.map_cons, List.append_assoc]; rfl
theorem hd_end (r : S26) (i : Nat) (h : i + 0 = r.f3.length) (a : List Int) (e : HD r = a ++ (r.f3.drop i).map (·.f1)) : a = HD r := by
  rw [e, List.drop_of_length_le (by omega), List.map_nil, List.append_nil]
theorem fr_l1_0 (r : S26) (hr : VR r) (c b : List Int) (res : List Int × List Int × List Int × Int × Int) (kont : Ev (fun k => place_Fresh.l0 k (wrap64 (0 + 1)) r.f0 r.f1 r.f2 r.f3 r.f4 r.f5 r.f6 r.f7 r.f8 r.f9 r.f10 c (HD r) b 0 0) res) :
    ∀ (d i : Nat) (a : List Int), i + d = r.f3.length → a.length ≤ i → HD r = a ++ (r.f3.drop i).map (·.f1) → Ev (fun k => place_Fresh.l1 k 0 0 r.f3 (r.f3.length : Int) (i : Int) r.f0 r.f1 r.f2 r.f3 r.f4 r.f5 r.f6 r.f7 r.f8 r.f9 r.f10 c a b 0 0) res := by
  have ht := hr.t
  intro d
  induction d with
  | zero =>
    intro i a hi ha he
    obtain rfl := hd_end r i hi a he
    refine Ev.step (fun k => by rw [place_Fresh.l1]) ?_
    exact ite (fun h => absurd h (by omega)) (fun _ => kont)
  | succ d ih =>
    intro i a hi ha he
    have hi1 : i < r.f3.length := by omega
    have hi2 : (i : Int) < (r.f3.length : Int) := by omega
    have n1 : i + 1 + d = r.f3.length := by omega
    have hwn := wn1 i (by omega)
    have la : a.length < 17592186044416 := by omega
    refine Ev.step (fun k => by rw [place_Fresh.l1]) ?_
    rw [hwn]
    refine ite (fun _ => ?_) (fun h => absurd hi2 h)
    refine ite (fun _ => ?_) (fun h => absurd (Int.natCast_nonneg _) h)
    refine ite (fun _ => ?_) (fun h => absurd hi2 h)
    refine ite (fun _ => ?_) (fun h => absurd (by decide) h)
    refine ite (fun _ => ?_) (fun h => absurd (by decide) h)
    refine ite (fun _ => ?_) (fun h => absurd rfl h)
    refine ite (fun _ => ?_) (fun h => absurd la h)
    exact ih (i + 1) _ n1 (by rw [List.length_append, List.length_cons, List.length_nil]; omega) (hd_drop r i hi1 a he)
theorem fr_l1_1 (r : S26) (hr : VR r) (c b : List Int) (res : List Int × List Int × List Int × Int × Int) (kont : Ev (fun k => place_Fresh.l0 k (wrap64 (1 + 1)) r.f0 r.f1 r.f2 r.f3 r.f4 r.f5 r.f6 r.f7 r.f8 r.f9 r.f10 c b (HD r) 0 0) res) :
    ∀ (d i : Nat) (a : List Int), i + d = r.f3.length → a.length ≤ i → HD r = a ++ (r.f3.drop i).map (·.f1) → Ev (fun k => place_Fresh.l1 k 1 1 r.f3 (r.f3.length : Int) (i : Int) r.f0 r.f1 r.f2 r.f3 r.f4 r.f5 r.f6 r.f7 r.f8 r.f9 r.f10 c b a 0 0) res := by
  have ht := hr.t
  intro d
  induction d with
  | zero =>
    intro i a hi ha he
    obtain rfl := hd_end r i hi a he
    refine Ev.step (fun k => by rw [place_Fresh.l1]) ?_
    exact ite (fun h => absurd h (by omega)) (fun _ => kont)
  | succ d ih =>
    intro i a hi ha he
    have hi1 : i < r.f3.length := by omega
    have hi2 : (i : Int) < (r.f3.length : Int) := by omega
    have n1 : i + 1 + d = r.f3.length := by omega
    have hwn := wn1 i (by omega)
    have la : a.length < 17592186044416 := by omega
    refine Ev.step (fun k => by rw [place_Fresh.l1]) ?_
    rw [hwn]
    refine ite (fun _ => ?_) (fun h => absurd hi2 h)
    refine ite (fun _ => ?_) (fun h => absurd (Int.natCast_nonneg _) h)
    refine ite (fun _ => ?_) (fun h => absurd hi2 h)
    refine ite (fun _ => ?_) (fun h => absurd (by decide) h)
    refine ite (fun _ => ?_) (fun h => absurd (by decide) h)
    refine ite (fun h => absurd h (by decide)) (fun _ => ?_)
    refine ite (fun _ => ?_) (fun h => absurd la h)
    exact ih (i + 1) _ n1 (by rw [List.length_append, List.length_cons, List.length_nil]; omega) (hd_drop r i hi1 a he)
theorem fr_f (r : S26) (hr : VR r) : Ev (fun k => place_Fresh.f k r.f0 r.f1 r.f2 r.f3 r.f4 r.f5 r.f6 r.f7 r.f8 r.f9 r.f10) (r.f4, HD r, HD r, 0, 0) := by
  have ht := hr.t
  have ha := area hr
  have hs := hr.st.1
  have hcl : slices_Clone_int_int.f r.f4 = some r.f4 := by
    unfold slices_Clone_int_int.f
    show (if ([] : List Int).length + r.f4.length < 17592186044416 then some ([] ++ r.f4) else none) = some r.f4
    rw [if_pos (by simp; omega), List.nil_append]
  unfold place_Fresh.f
  refine bind_now hcl ?_
  refine Ev.step (fun k => by rw [place_Fresh.l0]) ?_
  refine ite (fun _ => ?_) (fun h => absurd (by decide) h)
  refine fr_l1_0 r hr r.f4 [] _ ?_ r.f3.length 0 [] (Nat.zero_add _) (Nat.le_refl 0) (by rw [List.drop_zero]; rfl)
  rw [show wrap64 (0 + 1) = 1 by decide +kernel]
  refine Ev.step (fun k => by rw [place_Fresh.l0]) ?_
  refine ite (fun _ => ?_) (fun h => absurd (by decide) h)
  refine fr_l1_1 r hr r.f4 (HD r) _ ?_ r.f3.length 0 [] (Nat.zero_add _) (Nat.le_refl 0) (by rw [List.drop_zero]; rfl)
  rw [show wrap64 (1 + 1) = 2 by decide +kernel]
  refine Ev.step (fun k => by rw [place_Fresh.l0]) ?_
  exact ite (fun h => absurd h (by decide)) (fun _ => now rfl)
theorem begin_f (r : S26) (hr : VR r) (hc : Ev (fun k => rules_Check.f k r.f0 r.f1 r.f2 r.f3 r.f4 r.f5 r.f6 r.f7 r.f8 r.f9 r.f10) 0) : Ev (fun k => place_Begin.f k r.f0 r.f1 r.f2 r.f3 r.f4 r.f5 r.f6 r.f7 r.f8 r.f9 r.f10) (r.f4, HD r, HD r, 0, 0, 0) := by
  unfold place_Begin.f
  refine Ev.bind hc ?_
  refine ite (fun _ => ?_) (fun h => absurd rfl h)
  exact Ev.bind (fr_f r hr) (now rfl)
theorem begin_no (r : S26) (e : Int) (he : e ≠ 0) (hc : Ev (fun k => rules_Check.f k r.f0 r.f1 r.f2 r.f3 r.f4 r.f5 r.f6 r.f7 r.f8 r.f9 r.f10) e) : Ev (fun k => place_Begin.f k r.f0 r.f1 r.f2 r.f3 r.f4 r.f5 r.f6 r.f7 r.f8 r.f9 r.f10) ([], [], [], 0, 0, e) := by
  unfold place_Begin.f
  refine Ev.bind hc ?_
  exact ite (fun h => absurd h he) (fun _ => now rfl)
/-! a copy of rules -/
theorem copy_set (l z : List S104) (i : Nat) (h : i < l.length) (hz : z.length = l.length) (e : ∀ j, j < i → z[j]? = l[j]?) : ∀ j, j < i + 1 → (z.set i l[i])[j]? = l[j]? := by
  intro j hj
  rw [List.getElem?_set]
  split
  · rename_i h2; subst h2; rw [if_pos (by omega)]; simp [h]
  · exact e j (by omega)
theorem copied_f (r : S26) (hr : VR r) : Ev (fun k => copied k r) r := by
  have ht := hr.t
  have ha := area hr
  have hs := hr.st.1
  have he := hr.e.1
  have l0 : ∀ (d i : Nat) (z : List S104), i + d = r.f3.length → z.length = r.f3.length → (∀ j, j < i → z[j]? = r.f3[j]?) → Ev (fun k => rules_Copy.l0 k r.f3 (r.f3.length : Int) (i : Int) r.f0 r.f1 r.f2 r.f3 r.f4 r.f5 r.f6 r.f7 r.f8 r.f9 r.f10 r.f0 r.f1 r.f2 z r.f4 r.f5 r.f6 r.f7 r.f8 r.f9 r.f10) (r.f0, r.f1, r.f2, r.f3, r.f4, r.f5, r.f6, r.f7, r.f8, r.f9, r.f10) := by
    intro d
    induction d with
    | zero =>
      intro i z hi hz e
      have hzz : z = r.f3 := List.ext_getElem? (fun j => by
        by_cases hj : j < i
        · exact e j hj
        · rw [List.getElem?_eq_none (by omega), List.getElem?_eq_none (by omega)])
      subst hzz
      refine Ev.step (fun k => by rw [rules_Copy.l0]) ?_
      refine ite (fun h => absurd h (by omega)) (fun _ => ?_)
      refine ite (fun _ => ?_) (fun h => absurd (by simp; omega) h)
      exact ite (fun _ => now rfl) (fun h => absurd (by simp; omega) h)
    | succ d ih =>
      intro i z hi hz e
      have hi1 : i < r.f3.length := by omega
      have hi2 : (i : Int) < (r.f3.length : Int) := by omega
      have hp := hr.pc _ (rdP_mem r.f3 (i : Int) (by omega) hi2)
      refine Ev.step (fun k => by rw [rules_Copy.l0]) ?_
      refine ite (fun _ => ?_) (fun h => absurd hi2 h)
      refine ite (fun _ => ?_) (fun h => absurd (Int.natCast_nonneg _) h)
      refine ite (fun _ => ?_) (fun h => absurd hi2 h)
      refine ite (fun _ => ?_) (fun h => absurd (by simp; omega) h)
      refine ite (fun _ => ?_) (fun h => absurd (by omega) h)
      rw [wn1 i (by omega)]
      refine ih (i + 1) _ (by omega) (by rw [List.length_set]; exact hz) ?_
      have hv : (⟨(rd_T104 r.f3 (i : Int)).f0, (rd_T104 r.f3 (i : Int)).f1, (rd_T104 r.f3 (i : Int)).f2, ([] : List S106) ++ (rd_T104 r.f3 (i : Int)).f3⟩ : S104) = r.f3[i] := by rw [List.nil_append, ← rdP r.f3 i hi1]
      rw [hv, Int.toNat_natCast]
      exact copy_set r.f3 z i hi1 hz e
  unfold copied
  refine Ev.bind (a := (r.f0, r.f1, r.f2, r.f3, r.f4, r.f5, r.f6, r.f7, r.f8, r.f9, r.f10)) ?_ (now rfl)
  unfold rules_Copy.f
  refine ite (fun _ => ?_) (fun h => absurd (Int.natCast_nonneg _) h)
  refine ite (fun _ => ?_) (fun h => absurd (by omega) h)
  refine l0 r.f3.length 0 _ (Nat.zero_add _) (by simp) (fun j h => absurd h (by omega))
/-! equal positions -/
theorem eq_l0 (a b : List Int) (hl : a.length = b.length) (ha : a.length ≤ 100000) : ∀ d i, i + d = a.length → Ev (fun k => slices_Equal_int_int.l0 k a b (a.length : Int) (i : Int)) (decide (a.drop i = b.drop i)) := by
  intro d
  induction d with
  | zero =>
    intro i hi
    refine Ev.step (fun k => by rw [slices_Equal_int_int.l0]) ?_
    refine ite (fun h => absurd h (by omega)) (fun _ => now ?_)
    rw [List.drop_of_length_le (by omega), List.drop_of_length_le (by omega)]; rfl
  | succ d ih =>
    intro i hi
    have hi1 : i < a.length := by omega
    have hi3 : i < b.length := by omega
    have e := ih (i + 1) (by omega)
    refine Ev.step (fun k => by rw [slices_Equal_int_int.l0]) ?_
    rw [wn1 i (by omega), List.drop_eq_getElem_cons hi1, List.drop_eq_getElem_cons hi3, rd_nat a i hi1, rd_nat b i hi3]
    refine ite (fun _ => ?_) (fun h => absurd (by omega) h)
    refine ite (fun _ => ?_) (fun h => absurd (Int.natCast_nonneg _) h)
    refine ite (fun _ => ?_) (fun h => absurd (by omega) h)
    refine ite (fun _ => ?_) (fun h => absurd (by omega) h)
    refine ite (fun h => ev_eq e ?_) (fun h => now ?_)
    · rw [h]; exact decide_eq_decide.2 (by rw [List.cons.injEq]; exact ⟨fun h => ⟨rfl, h⟩, fun h => h.2⟩)
    · exact (decide_eq_false (fun e => h (List.cons.inj e).1)).symm
theorem eq_f (a b : List Int) (ha : a.length ≤ 100000) : Ev (fun k => slices_Equal_int_int.f k a b) (decide (a = b)) := by
  unfold slices_Equal_int_int.f
  refine ite (fun h => ?_) (fun h => now ?_)
  · have := eq_l0 a b (by omega) ha a.length 0 (by omega)
    simpa using this
  · symm; rw [decide_eq_false_iff_not]; intro e; rw [e] at h; exact h rfl
def sameB (p q : S41) : Bool := decide (p.f2 = q.f2) && (decide (p.f0 = q.f0) && (decide (p.f1.f0 = q.f1.f0) && decide (p.f1.f1 = q.f1.f1)))
theorem sameB_self (p : S41) : sameB p p = true := by simp [sameB]
theorem same_ev (r : S26) (hr : VR r) (p q : S41) (hp : VP r p) : Ev (fun k => place_Same.f k p.f0 p.f1.f0 p.f1.f1 p.f2 p.f3 q.f0 q.f1.f0 q.f1.f1 q.f2 q.f3) (sameB p q) := by
  have hl := hp.len hr
  have ht := hr.t
  have h0 := hp.h0
  have h1 := hp.h1
  unfold place_Same.f sameB
  refine ite (fun h => ?_) (fun h => now (by simp [h]))
  refine Ev.bind (eq_f p.f0 q.f0 (by omega)) ?_
  refine ite (fun h2 => ?_) (fun h2 => now (by simp [h, of_decide_eq_false (Bool.eq_false_iff.2 h2)]))
  refine Ev.bind (eq_f p.f1.f0 q.f1.f0 (by omega)) ?_
  refine ite (fun h3 => ?_) (fun h3 => now (by simp [h, of_decide_eq_true h2, of_decide_eq_false (Bool.eq_false_iff.2 h3)]))
  refine Ev.bind (eq_f p.f1.f1 q.f1.f1 (by omega)) (now ?_)
  simp [h, of_decide_eq_true h2, of_decide_eq_true h3]
/-! how often a position is there -/
def cntP (q : S41) (xs : List S41) : Int := ((xs.countP (fun p => sameB p q) : Nat) : Int)
theorem cntP_cons (q p : S41) (xs : List S41) : cntP q (p :: xs) = (if sameB p q = true then 1 else 0) + cntP q xs := by
  unfold cntP
  rw [List.countP_cons]
  split <;> simp <;> omega
theorem count_ev (r : S26) (hr : VR r) (q : S41) : ∀ (xs : List S41) (n : Int), (∀ p ∈ xs, VP r p) → 0 ≤ n → n + (xs.length : Int) ≤ 1000 → Ev (fun k => pl_count k q xs n) (n + cntP q xs)
  | [], n, _, _, _ => now (by simp [cntP])
  | p :: xs, n, hv, h0, h1 => by
    simp only [List.length_cons] at h1
    unfold pl_count
    refine Ev.bind (same_ev r hr p q (hv p List.mem_cons_self)) ?_
    have hx : ∀ y ∈ xs, VP r y := fun y hy => hv y (List.mem_cons_of_mem _ hy)
    rw [cntP_cons]
    refine ite (fun h => ?_) (fun h => ?_)
    · rw [w64 (n := n + 1) (by omega) (by omega), if_pos h]
      exact ev_eq (count_ev r hr q xs (n + 1) hx (by omega) (by omega)) (by omega)
    · rw [if_neg h]
      exact ev_eq (count_ev r hr q xs n hx h0 (by omega)) (by omega)
theorem last_at (ps : List S41) (i : Nat) (h : ps.length = i + 1) : PClaimCounts.lastP ps = rd_T41 ps (i : Int) := by
  unfold PClaimCounts.lastP
  rw [show (ps.length : Int) - 1 = (i : Int) by omega]
theorem last_mem (ps : List S41) (h : 0 < ps.length) : PClaimCounts.lastP ps ∈ ps := by
  rw [last_at ps (ps.length - 1) (by omega), rdO ps _ (by omega)]; exact List.getElem_mem _
theorem last_app (ps : List S41) (q : S41) : PClaimCounts.lastP (ps ++ [q]) = q := by
  rw [last_at _ ps.length (by simp), rdO _ _ (by simp)]; simp
theorem times_ev (r : S26) (hr : VR r) (ps : List S41) (hv : ∀ p ∈ ps, VP r p) (h0 : 0 < ps.length) (h1 : ps.length ≤ 401) : Ev (fun k => gamehallref3_Times.f k ps) (cntP (PClaimCounts.lastP ps) ps) := by
  have hw : wrap64 ((ps.length : Int) - 1) = (ps.length : Int) - 1 := w64 (by omega) (by omega)
  have l0 : ∀ (d i : Nat) (n : Int), i + d = ps.length → 0 ≤ n → n ≤ i → Ev (fun k => gamehallref3_Times.l0 k ps n ps (ps.length : Int) (i : Int)) (n + cntP (PClaimCounts.lastP ps) (ps.drop i)) := by
    intro d
    induction d with
    | zero =>
      intro i n hi n0 n1
      rw [List.drop_of_length_le (by omega)]
      refine Ev.step (fun k => by rw [gamehallref3_Times.l0]) ?_
      exact ite (fun h => absurd h (by omega)) (fun _ => now (by simp [cntP]))
    | succ d ih =>
      intro i n hi n0 n1
      have hi1 : i < ps.length := by omega
      have e1 := ih (i + 1) (n + 1) (by omega) (by omega) (by omega)
      have e2 := ih (i + 1) n (by omega) (by omega) (by omega)
      rw [List.drop_eq_getElem_cons hi1, cntP_cons, ← rdO ps i hi1]
      refine Ev.step (fun k => by rw [gamehallref3_Times.l0]) ?_
      rw [wn1 i (by omega), hw, w64 (n := n + 1) (by omega) (by omega)]
      refine ite (fun _ => ?_) (fun h => absurd (by omega) h)
      refine ite (fun _ => ?_) (fun h => absurd (Int.natCast_nonneg _) h)
      refine ite (fun _ => ?_) (fun h => absurd (by omega) h)
      refine ite (fun _ => ?_) (fun h => absurd (by omega) h)
      refine ite (fun _ => ?_) (fun h => absurd (by omega) h)
      refine Ev.bind (same_ev r hr _ (PClaimCounts.lastP ps) (hv _ (by rw [rdO ps i hi1]; exact List.getElem_mem _))) ?_
      refine ite (fun h => ?_) (fun h => ?_)
      · rw [if_pos h]; exact ev_eq e1 (by omega)
      · rw [if_neg h]; exact ev_eq e2 (by omega)
  unfold gamehallref3_Times.f
  exact ev_eq (l0 ps.length 0 0 (by omega) (by omega) (by omega)) (by simp)
/-! the result -/
def resB (r : S26) (ps : List S41) : Int := if resL r (PClaimCounts.lastP ps) (tailR r (PClaimCounts.lastP ps)) r.f7 = 0 then (if r.f10 > 0 then (if cntP (PClaimCounts.lastP ps) ps ≥ r.f10 then 3 else resL r (PClaimCounts.lastP ps) (tailR r (PClaimCounts.lastP ps)) r.f7) else resL r (PClaimCounts.lastP ps) (tailR r (PClaimCounts.lastP ps)) r.f7) else resL r (PClaimCounts.lastP ps) (tailR r (PClaimCounts.lastP ps)) r.f7
theorem res_ev (r : S26) (hr : VR r) (ps : List S41) (hv : ∀ p ∈ ps, VP r p) (h0 : 0 < ps.length) (h1 : ps.length ≤ 401) : Ev (fun k => pl_result k r ps) (resB r ps) := by
  unfold pl_result resB
  refine Ev.bind (eres_f r _ hr (hv _ (last_mem ps h0))) ?_
  refine ite (fun h => ?_) (fun h => now (by rw [if_neg h]))
  rw [if_pos h]
  refine ite (fun h2 => ?_) (fun h2 => now (by rw [if_neg h2]))
  rw [if_pos h2]
  refine Ev.bind (count_ev r hr _ ps 0 hv (by omega) (by omega)) ?_
  rw [Int.zero_add]
  exact ite (fun h3 => now (by rw [if_pos h3])) (fun h3 => now (by rw [if_neg h3]))
theorem ref_ev (r : S26) (hr : VR r) (hc : Ev (fun k => rules_Check.f k r.f0 r.f1 r.f2 r.f3 r.f4 r.f5 r.f6 r.f7 r.f8 r.f9 r.f10) 0) (ps : List S41) (hv : ∀ p ∈ ps, VP r p) (h0 : 0 < ps.length) (h1 : ps.length ≤ 401) : Ev (fun k => gamehallref3_Result.f k r.f0 r.f1 r.f2 r.f3 r.f4 r.f5 r.f6 r.f7 r.f8 r.f9 r.f10 ps) (resB r ps) := by
  have hw : wrap64 ((ps.length : Int) - 1) = (ps.length : Int) - 1 := w64 (by omega) (by omega)
  have hl := hv _ (last_mem ps h0)
  unfold gamehallref3_Result.f resB
  rw [hw]
  refine ite (fun _ => ?_) (fun h => absurd (by omega) h)
  refine ite (fun _ => ?_) (fun h => absurd (by omega) h)
  refine Ev.bind (a := (resL r (PClaimCounts.lastP ps) (tailR r (PClaimCounts.lastP ps)) r.f7, 0)) ?_ ?_
  · unfold ends_Of.f
    refine Ev.bind (check_ok r _ hr hc hl) ?_
    refine ite (fun _ => ?_) (fun h => absurd rfl h)
    exact Ev.bind (eres_f r _ hr hl) (now rfl)
  · refine ite (fun _ => ?_) (fun h => absurd rfl h)
    refine ite (fun h => ?_) (fun h => now (by rw [if_neg h]))
    rw [if_pos h]
    refine ite (fun h2 => ?_) (fun h2 => now (by rw [if_neg h2]))
    rw [if_pos h2]
    refine Ev.bind (times_ev r hr ps hv h0 h1) ?_
    exact ite (fun h3 => now (by rw [if_pos h3])) (fun h3 => now (by rw [if_neg h3]))
/-! the moves, one by one -/
def Steps (r : S26) : S41 → List S38 → List S41 → Prop
  | _, [], qs => qs = []
  | p, m :: l, qs => ∃ q qs', qs = q :: qs' ∧ LM r p m ∧ q = aftP r p m ∧ Steps r q l qs'
theorem both (r : S26) (hr : VR r) (hc : Ev (fun k => rules_Check.f k r.f0 r.f1 r.f2 r.f3 r.f4 r.f5 r.f6 r.f7 r.f8 r.f9 r.f10) 0) : ∀ (l : List S38) (ps : List S41), 0 < ps.length → ps.length + l.length ≤ 401 → (∀ p ∈ ps, VP r p) →
    (∃ e, e ≠ 0 ∧ Ev (fun k => pl_run k r l ps) ([], e) ∧ Ev (fun k => pl_loop k r l ps) ([], e)) ∨ (∃ qs, qs.length = l.length ∧ (∀ p ∈ ps ++ qs, VP r p) ∧ Steps r (PClaimCounts.lastP ps) l qs ∧ Ev (fun k => pl_run k r l ps) (ps ++ qs, 0) ∧ Ev (fun k => pl_loop k r l ps) (ps ++ qs, 0))
  | [], ps, h0, h1, hv => .inr ⟨[], rfl, by simpa using hv, rfl, by unfold pl_run; exact now (by simp), by unfold pl_loop; exact now (by simp)⟩
  | m :: l, ps, h0, h1, hv => by
    simp only [List.length_cons] at h1
    have hl := hv _ (last_mem ps h0)
    have e1 := res_ev r hr ps hv h0 (by omega)
    have e2 := ref_ev r hr hc ps hv h0 (by omega)
    by_cases hx : resB r ps = 0
    rotate_left
    · refine .inl ⟨14, by decide, ?_, ?_⟩
      · unfold pl_run pl_play
        refine Ev.bind (a := (14, posQ [] [] [] 0 0)) (Ev.bind e1 ?_) ?_
        · exact ite (fun h => absurd h hx) (fun _ => now rfl)
        · exact ite (fun h => absurd h (by decide)) (fun _ => now rfl)
      · unfold pl_loop
        refine Ev.bind e2 ?_
        exact ite (fun h => absurd h hx) (fun _ => now rfl)
    rcases after_f r _ hr hc hl m with ha | ⟨lm, hv2, ha⟩
    · refine .inl ⟨13, by decide, ?_, ?_⟩
      · unfold pl_run pl_play
        refine Ev.bind (a := (13, posQ [] [] [] 0 0)) (Ev.bind e1 ?_) ?_
        · refine ite (fun _ => Ev.bind ha ?_) (fun h => absurd hx h)
          exact ite (fun h => absurd h (by decide)) (fun _ => now rfl)
        · exact ite (fun h => absurd h (by decide)) (fun _ => now rfl)
      · unfold pl_loop
        refine Ev.bind e2 ?_
        refine ite (fun _ => Ev.bind ha ?_) (fun h => absurd hx h)
        exact ite (fun h => absurd h (by decide)) (fun _ => now rfl)
    have hv3 : ∀ p ∈ ps ++ [aftP r (PClaimCounts.lastP ps) m], VP r p := by
      intro p hp
      rcases List.mem_append.1 hp with hp | hp
      · exact hv p hp
      · rw [List.mem_singleton.1 hp]; exact hv2
    have ih := both r hr hc l (ps ++ [aftP r (PClaimCounts.lastP ps) m]) (by simp) (by simp; omega) hv3
    have run : ∀ z, Ev (fun k => pl_run k r l (ps ++ [aftP r (PClaimCounts.lastP ps) m])) z → Ev (fun k => pl_run k r (m :: l) ps) z := by
      intro z e
      unfold pl_run pl_play
      refine Ev.bind (a := (0, aftP r (PClaimCounts.lastP ps) m)) (Ev.bind e1 ?_) ?_
      · refine ite (fun _ => Ev.bind ha ?_) (fun h => absurd hx h)
        refine ite (fun _ => ?_) (fun h => absurd rfl h)
        exact ite (fun h => absurd h (by omega)) (fun _ => now rfl)
      · exact ite (fun _ => e) (fun h => absurd rfl h)
    have loop : ∀ z, Ev (fun k => pl_loop k r l (ps ++ [aftP r (PClaimCounts.lastP ps) m])) z → Ev (fun k => pl_loop k r (m :: l) ps) z := by
      intro z e
      unfold pl_loop
      refine Ev.bind e2 ?_
      refine ite (fun _ => Ev.bind ha ?_) (fun h => absurd hx h)
      refine ite (fun _ => ?_) (fun h => absurd rfl h)
      exact ite (fun _ => e) (fun h => absurd (by omega) h)
    rcases ih with ⟨e, he, a, b⟩ | ⟨qs, hq, hvq, st, a, b⟩
    · exact .inl ⟨e, he, run _ a, loop _ b⟩
    · refine .inr ⟨aftP r (PClaimCounts.lastP ps) m :: qs, by simp [hq], by simpa using hvq, ⟨_, qs, rfl, lm, rfl, by rw [last_app] at st; exact st⟩, ?_, ?_⟩
      · have := run _ a; simpa using this
      · have := loop _ b; simpa using this
theorem end_ev (r : S26) (hr : VR r) (ps : List S41) (hv : ∀ p ∈ ps, VP r p) (h0 : 0 < ps.length) (h1 : ps.length ≤ 401) : Ev (fun k => pl_end k r (ps, 0)) ((PClaimCounts.lastP ps).f0, (PClaimCounts.lastP ps).f1.f0, (PClaimCounts.lastP ps).f1.f1, (PClaimCounts.lastP ps).f2, (PClaimCounts.lastP ps).f3, resB r ps, 0) := by
  have hp := hv _ (last_mem ps h0)
  have hl := hp.len hr
  have ht := hr.t
  have a0 := hp.h0
  have a1 := hp.h1
  unfold pl_end
  refine ite (fun _ => ?_) (fun h => absurd rfl h)
  refine bind_now (a := ((PClaimCounts.lastP ps).f0, (PClaimCounts.lastP ps).f1.f0, (PClaimCounts.lastP ps).f1.f1, (PClaimCounts.lastP ps).f2, (PClaimCounts.lastP ps).f3)) ?_ ?_
  · show place_Copy.f (PClaimCounts.lastP ps).f0 (PClaimCounts.lastP ps).f1.f0 (PClaimCounts.lastP ps).f1.f1 (PClaimCounts.lastP ps).f2 (PClaimCounts.lastP ps).f3 = _
    unfold place_Copy.f
    rw [clone_f _ (by omega), clone_f _ (by omega), clone_f _ (by omega)]; rfl
  · exact Ev.bind (res_ev r hr ps hv h0 h1) (now rfl)
/-- the first position -/
def p0 (r : S26) : S41 := ⟨r.f4, ⟨HD r, HD r⟩, 0, 0⟩
theorem p0_v (r : S26) (hr : VR r) : VP r (p0 r) := by
  have hh : ∀ c ∈ HD r, 0 ≤ c ∧ c ≤ 1000 := by
    intro c hc
    obtain ⟨q, hq, rfl⟩ := List.mem_map.1 hc
    have := hr.pc q hq; omega
  exact ⟨hr.st.1, hr.st.2, by simp [p0, HD], by simp [p0, HD], hh, hh, .inl rfl, by show (0 : Int) ≤ 0 ∧ (0 : Int) ≤ 200; omega⟩
/-- what a game's record has: an errno for both, or the positions -/
theorem game_ev (r : S26) (hw : wf26 r) (l : List S38) (hl : l.length ≤ 400) :
    (∃ e, e ≠ 0 ∧ Ev (fun k => plain_Run.f k r.f0 r.f1 r.f2 r.f3 r.f4 r.f5 r.f6 r.f7 r.f8 r.f9 r.f10 l) ([], [], [], 0, 0, 0, e) ∧ Ev (fun k => gamehallref3_Places.f k r.f0 r.f1 r.f2 r.f3 r.f4 r.f5 r.f6 r.f7 r.f8 r.f9 r.f10 l) ([], e)) ∨
    (VR r ∧ Ev (fun k => rules_Check.f k r.f0 r.f1 r.f2 r.f3 r.f4 r.f5 r.f6 r.f7 r.f8 r.f9 r.f10) 0 ∧ ∃ qs, qs.length = l.length ∧ (∀ p ∈ p0 r :: qs, VP r p) ∧ Steps r (p0 r) l qs ∧ Ev (fun k => plain_Run.f k r.f0 r.f1 r.f2 r.f3 r.f4 r.f5 r.f6 r.f7 r.f8 r.f9 r.f10 l) ((PClaimCounts.lastP (p0 r :: qs)).f0, (PClaimCounts.lastP (p0 r :: qs)).f1.f0, (PClaimCounts.lastP (p0 r :: qs)).f1.f1, (PClaimCounts.lastP (p0 r :: qs)).f2, (PClaimCounts.lastP (p0 r :: qs)).f3, resB r (p0 r :: qs), 0) ∧ Ev (fun k => gamehallref3_Places.f k r.f0 r.f1 r.f2 r.f3 r.f4 r.f5 r.f6 r.f7 r.f8 r.f9 r.f10 l) (p0 r :: qs, 0)) := by
  obtain ⟨e, h1, h2⟩ := rules_one r hw
  by_cases he : e = 0
  rotate_left
  · refine .inl ⟨e, he, ?_, ?_⟩
    · unfold plain_Run.f pl_all
      refine Ev.bind (begin_no r e he h1) ?_
      exact ite (fun h => absurd h he) (fun _ => now rfl)
    · unfold gamehallref3_Places.f PClaimCounts.places
      refine Ev.bind (begin_no r e he h1) ?_
      exact ite (fun h => absurd h he) (fun _ => now rfl)
  subst he
  have hr := h2 rfl
  have hb := begin_f r hr h1
  have hv : ∀ p ∈ [p0 r], VP r p := fun p hp => by rw [List.mem_singleton.1 hp]; exact p0_v r hr
  rcases both r hr h1 l [p0 r] (by simp) (by simp; omega) hv with ⟨e, he, a, b⟩ | ⟨qs, hq, hvq, st, a, b⟩
  · refine .inl ⟨e, he, ?_, ?_⟩
    · unfold plain_Run.f pl_all
      refine Ev.bind hb ?_
      refine ite (fun _ => ?_) (fun h => absurd rfl h)
      refine Ev.bind (copied_f r hr) ?_
      refine Ev.bind a ?_
      unfold pl_end
      exact ite (fun h => absurd h he) (fun _ => now rfl)
    · unfold gamehallref3_Places.f PClaimCounts.places
      refine Ev.bind hb ?_
      exact ite (fun _ => b) (fun h => absurd rfl h)
  · refine .inr ⟨hr, h1, qs, hq, hvq, st, ?_, ?_⟩
    · unfold plain_Run.f pl_all
      refine Ev.bind hb ?_
      refine ite (fun _ => ?_) (fun h => absurd rfl h)
      refine Ev.bind (copied_f r hr) ?_
      refine Ev.bind a ?_
      exact end_ev r hr (p0 r :: qs) hvq (by simp) (by simp; omega)
    · unfold gamehallref3_Places.f PClaimCounts.places
      refine Ev.bind hb ?_
      exact ite (fun _ => b) (fun h => absurd rfl h)
end Co
end Go.Proofs.Ytkpphlimnnifkaa.Pure
