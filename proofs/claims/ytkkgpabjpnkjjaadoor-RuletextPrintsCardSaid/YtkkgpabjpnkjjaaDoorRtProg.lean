/- RuletextPrints: what the program's functions return. -/
import Derived.Test.YtkkgpabjpnkjjaaDoorRtWords
namespace Go.Proofs.YtkkgpabjpnkjjaaDoor.Pure
open Go.RowKit Go.Proofs.YtkkgpabjpnkjjaaDoor.PRuletextPrints Go.Proofs.YtkkgpabjpnkjjaaDoorW.PrintWords Go.Proofs.YtkkgpabjpnkjjaaDoorW.PrintLast
set_option linter.unusedSimpArgs false
set_option linter.unusedVariables false
namespace Co
open Aid
theorem pl_l0 (ws : List S47) (hn : ws.length ≤ 16) (hw : ∀ w ∈ ws, -7 ≤ w.f0 ∧ w.f0 ≤ 7 ∧ -7 ≤ w.f1 ∧ w.f1 ≤ 7 ∧ 1 ≤ w.f2 ∧ w.f2 ≤ 7 ∧ 0 ≤ w.f3 ∧ w.f3 ≤ 2) : ∀ (d i : Nat) (out : List (List UInt8)), i + d = ws.length → out.length + d ≤ 1000 →
    Ev (fun k => ruletext_pieceLines.l0 k (out.map B) ws (ws.length : Int) (i : Int)) ((out ++ (ws.drop i).map way1).map B) := by
  intro d
  induction d with
  | zero =>
    intro i out hi _
    refine Ev.step (fun k => by rw [ruletext_pieceLines.l0]) ?_
    rw [List.drop_of_length_le (by omega), List.map_nil, List.append_nil]
    exact ite (fun h => absurd h (by omega)) (fun _ => now rfl)
  | succ d ih =>
    intro i out hi ho
    have hi1 : i < ws.length := by omega
    have hi2 : (i : Int) < (ws.length : Int) := by omega
    have hgx := rdW ws i hi1
    have hwn := wn1 i (by omega)
    have hx := hw ws[i] (List.getElem_mem hi1)
    rw [List.drop_eq_getElem_cons hi1, List.map_cons]
    have go : ∀ E : ByteArray, E.data.toList = way1 ws[i] → Ev (fun k => ruletext_pieceLines.l0 k (out.map B ++ [E]) ws (ws.length : Int) ((i + 1 : Nat) : Int)) ((out ++ way1 ws[i] :: (ws.drop (i + 1)).map way1).map B) := by
      intro E hE
      have e := ih (i + 1) (out ++ [way1 ws[i]]) (by omega) (by simp; omega)
      rw [eqB hE]
      simp only [List.map_append, List.map_cons, List.map_nil, List.append_assoc, List.cons_append, List.nil_append] at e ⊢
      exact e
    refine Ev.step (fun k => by rw [ruletext_pieceLines.l0]) ?_
    rw [hgx, hwn]
    generalize ws[i] = x at hx go ⊢
    obtain ⟨a0, a1, b0, b1, c0, c1, t0, t1⟩ := hx
    have la := it_le x.f0 (by omega) (by omega)
    have lb := it_le x.f1 (by omega) (by omega)
    have lc := it_le x.f2 (by omega) (by omega)
    have lt := take_le x.f3 t0 t1
    have et : (rdOf ByteArray.empty takesL x.f3).data.toList = takeT x.f3 := rfl
    refine ite (fun _ => ?_) (fun h => absurd hi2 h)
    refine ite (fun _ => ?_) (fun h => absurd (Int.natCast_nonneg _) h)
    refine ite (fun _ => ?_) (fun h => absurd hi2 h)
    refine bind_now (itoa_f x.f0 (by omega) (by omega)) ?_
    refine ite (fun _ => ?_) (fun h => absurd (by simp only [zl, dl, B_l, et, List.length_append, List.length_cons, List.length_nil]; omega) h)
    refine ite (fun _ => ?_) (fun h => absurd (by simp only [zl, dl, B_l, et, List.length_append, List.length_cons, List.length_nil]; omega) h)
    refine bind_now (itoa_f x.f1 (by omega) (by omega)) ?_
    refine ite (fun _ => ?_) (fun h => absurd (by simp only [zl, dl, B_l, et, List.length_append, List.length_cons, List.length_nil]; omega) h)
    refine ite (fun _ => ?_) (fun h => absurd (by simp only [zl, dl, B_l, et, List.length_append, List.length_cons, List.length_nil]; omega) h)
    refine bind_now (itoa_f x.f2 (by omega) (by omega)) ?_
    refine ite (fun _ => ?_) (fun h => absurd (by simp only [zl, dl, B_l, et, List.length_append, List.length_cons, List.length_nil]; omega) h)
    refine ite (fun _ => ?_) (fun h => absurd (by simp only [zl, dl, B_l, et, List.length_append, List.length_cons, List.length_nil]; omega) h)
    refine ite (fun _ => ?_) (fun h => absurd t0 h)
    refine ite (fun _ => ?_) (fun h => absurd (show x.f3 < (3 : Int) by omega) h)
    refine ite (fun _ => ?_) (fun h => absurd (by simp only [zl, dl, B_l, et, List.length_append, List.length_cons, List.length_nil]; omega) h)
    refine ite (fun _ => ?_) (fun h => absurd (by rw [List.length_map]; omega) h)
    refine go _ ?_
    unfold way1
    simp only [dl, B_l, et, List.append_assoc]
theorem pl_j0 (r : S26) (p : S38) (lp : 65 ≤ p.f0 ∧ p.f0 ≤ 90) (h1 : 0 ≤ p.f1 ∧ p.f1 ≤ 64) (hn : p.f3.length ≤ 16) (hw : ∀ w ∈ p.f3, -7 ≤ w.f0 ∧ w.f0 ≤ 7 ∧ -7 ≤ w.f1 ∧ w.f1 ≤ 7 ∧ 1 ≤ w.f2 ∧ w.f2 ≤ 7 ∧ 0 ≤ w.f3 ∧ w.f3 ≤ 2) (E : ByteArray) (hE : E.data.toList = if p.f2 > 0 then [U (L r (p.f2 - 1))] else [45]) :
    Ev (fun k => ruletext_pieceLines.j0 k E p.f0 p.f1 p.f2 p.f3) ((pieceL r p).map B) := by
  have la := it_le p.f1 (by omega) (by omega)
  have lE : E.data.toList.length = 1 := by rw [hE]; split <;> rfl
  refine Ev.step (fun k => by rw [ruletext_pieceLines.j0]) ?_
  rw [e32 lp]
  refine ite (fun _ => ?_) (fun h => absurd (by simp only [zl, dl, B_l, List.length_append, List.length_cons, List.length_nil]; omega) h)
  refine ite (fun _ => ?_) (fun h => absurd (by simp only [zl, dl, B_l, List.length_append, List.length_cons, List.length_nil]; omega) h)
  refine bind_now (itoa_f p.f1 (by omega) (by omega)) ?_
  refine ite (fun _ => ?_) (fun h => absurd (by simp only [zl, dl, B_l, List.length_append, List.length_cons, List.length_nil]; omega) h)
  refine ite (fun _ => ?_) (fun h => absurd (by simp only [zl, dl, B_l, List.length_append, List.length_cons, List.length_nil]; omega) h)
  refine ite (fun _ => ?_) (fun h => absurd (by simp only [zl, dl, B_l, List.length_append, List.length_cons, List.length_nil]; omega) h)
  have go : ∀ E : ByteArray, E.data.toList = piece1 r p → Ev (fun k => ruletext_pieceLines.l0 k [E] p.f3 (p.f3.length : Int) 0) ((pieceL r p).map B) := by
    intro E hE
    have e := pl_l0 p.f3 hn hw p.f3.length 0 [piece1 r p] (by omega) (by simp; omega)
    rw [eqB hE]
    rw [List.drop_zero] at e
    exact e
  refine go _ ?_
  unfold piece1
  rw [← hE]
  simp only [dl, B_l, List.append_assoc]
theorem pl_f (r : S26) (hr : VR r) (lr : LR r) (i : Nat) (hi : i < r.f3.length) : Ev (fun k => ruletext_pieceLines.f k r.f0 r.f1 r.f2 r.f3 r.f4 r.f5 r.f6 r.f7 r.f8 r.f9 r.f10 r.f3[i].f0 r.f3[i].f1 r.f3[i].f2 r.f3[i].f3) ((pieceL r r.f3[i]).map B) := by
  have hq := hr.pc _ (List.getElem_mem hi)
  have hl : 65 ≤ r.f3[i].f0 ∧ r.f3[i].f0 ≤ 90 := by have := rdL lr (i : Int) (by omega) (by omega); rw [rdP r.f3 i hi] at this; exact this
  generalize r.f3[i] = p at hq hl ⊢
  have htt := hr.t
  obtain ⟨a, b, c, d, e, f⟩ := hq
  have hw : ∀ w ∈ p.f3, -7 ≤ w.f0 ∧ w.f0 ≤ 7 ∧ -7 ≤ w.f1 ∧ w.f1 ≤ 7 ∧ 1 ≤ w.f2 ∧ w.f2 ≤ 7 ∧ 0 ≤ w.f3 ∧ w.f3 ≤ 2 := fun w h => by have := f w h; omega
  have j := pl_j0 r p hl ⟨a, b⟩ (by omega) hw
  unfold ruletext_pieceLines.f
  refine ite (fun h => ?_) (fun h => ?_)
  · have hwn : wrap64 (p.f2 - 1) = p.f2 - 1 := w64 (by omega) (by omega)
    rw [hwn]
    refine ite (fun _ => ?_) (fun h => absurd (by omega) h)
    refine ite (fun _ => ?_) (fun h => absurd (by omega) h)
    have hL := lr.a (p.f2 - 1) (by omega) (by omega)
    refine j _ ?_
    rw [e32 (rdL lr (p.f2 - 1) (by omega) (by omega)), B_l, if_pos h]; rfl
  · refine j _ ?_
    rw [if_neg h]
/-! rank -/
theorem rk_l0 (r : S26) (hr : VR r) (lr : LR r) (xs : List Int) (hn : xs.length ≤ 64) (hx : ∀ c ∈ xs, 0 ≤ c ∧ c ≤ 2 * (r.f3.length : Int)) : ∀ (d i : Nat) (E : ByteArray), i + d = xs.length → E.data.toList.length + d ≤ 1000 →
    Ev (fun k => ruletext_rank.l0 k E xs (xs.length : Int) (i : Int) r.f0 r.f1 r.f2 r.f3 r.f4 r.f5 r.f6 r.f7 r.f8 r.f9 r.f10) (B (E.data.toList ++ (xs.drop i).flatMap (cell1 r))) := by
  have ht := hr.t
  intro d
  induction d with
  | zero =>
    intro i E hi _
    refine Ev.step (fun k => by rw [ruletext_rank.l0]) ?_
    rw [List.drop_of_length_le (by omega), List.flatMap_nil, List.append_nil]
    exact ite (fun h => absurd h (by omega)) (fun _ => now (eqB rfl))
  | succ d ih =>
    intro i E hi ho
    have hi1 : i < xs.length := by omega
    have hi2 : (i : Int) < (xs.length : Int) := by omega
    have hgx := rd_nat xs i hi1
    have hwn := wn1 i (by omega)
    have hc := hx xs[i] (List.getElem_mem hi1)
    rw [List.drop_eq_getElem_cons hi1, List.flatMap_cons]
    have go : ∀ z : List UInt8, z = cell1 r xs[i] → Ev (fun k => ruletext_rank.l0 k (E ++ B z) xs (xs.length : Int) ((i + 1 : Nat) : Int) r.f0 r.f1 r.f2 r.f3 r.f4 r.f5 r.f6 r.f7 r.f8 r.f9 r.f10) (B (E.data.toList ++ (cell1 r xs[i] ++ (xs.drop (i + 1)).flatMap (cell1 r)))) := by
      intro z hz
      subst hz
      have e := ih (i + 1) (E ++ B (cell1 r xs[i])) (by omega) (by rw [dl, B_l, List.length_append, cell_le]; omega)
      rw [dl, B_l, List.append_assoc] at e
      exact e
    refine Ev.step (fun k => by rw [ruletext_rank.l0]) ?_
    rw [hgx, hwn]
    generalize xs[i] = c at hc go ⊢
    refine ite (fun _ => ?_) (fun h => absurd hi2 h)
    refine ite (fun _ => ?_) (fun h => absurd (Int.natCast_nonneg _) h)
    refine ite (fun _ => ?_) (fun h => absurd hi2 h)
    refine ite (fun h0 => ?_) (fun h0 => ?_)
    · refine ite (fun _ => ?_) (fun h => absurd (by rw [zl]; omega) h)
      exact go [46] (by unfold cell1; rw [if_pos h0])
    · have e1 : Int.tmod c 2 = c % 2 := Int.tmod_eq_emod_of_nonneg hc.1
      have e2 : wrap64 (Int.tdiv c 2) = c / 2 := by rw [Int.tdiv_eq_ediv_of_nonneg hc.1]; exact w64 (by omega) (by omega)
      have e3 : wrap64 (c / 2 - 1) = c / 2 - 1 := w64 (by omega) (by omega)
      rw [e1, e2, e3]
      refine ite (fun h1 => ?_) (fun h1 => ?_)
      · refine ite (fun _ => ?_) (fun h => absurd (by omega) h)
        refine ite (fun _ => ?_) (fun h => absurd (by omega) h)
        rw [e32 (rdL lr (c / 2) (by omega) (by omega))]
        refine ite (fun _ => ?_) (fun h => absurd (by simp only [zl, B_l, List.length_cons, List.length_nil]; omega) h)
        exact go _ (by unfold cell1; rw [if_neg h0, if_pos h1]; rfl)
      · refine ite (fun _ => ?_) (fun h => absurd (by omega) h)
        refine ite (fun _ => ?_) (fun h => absurd (by omega) h)
        rw [e97 (rdL lr (c / 2 - 1) (by omega) (by omega))]
        refine ite (fun _ => ?_) (fun h => absurd (by simp only [zl, B_l, List.length_cons, List.length_nil]; omega) h)
        exact go _ (by unfold cell1; rw [if_neg h0, if_neg h1]; rfl)
theorem rk_f (r : S26) (hr : VR r) (lr : LR r) (y : Int) (h0 : 0 ≤ y) (h1 : y < r.f2) : Ev (fun k => ruletext_rank.f k r.f0 r.f1 r.f2 r.f3 r.f4 r.f5 r.f6 r.f7 r.f8 r.f9 r.f10 y) (B ((rowC r y).flatMap (cell1 r))) ∧ (rowC r y).length ≤ 64 := by
  have hw := hr.w
  have hh := hr.h
  have ha := area hr
  have hst := hr.st
  have m0 : 0 ≤ y * r.f1 := Int.mul_nonneg h0 (by omega)
  have m1 : (y + 1) * r.f1 = y * r.f1 + r.f1 := by rw [Int.add_mul, Int.one_mul]
  have m2 : (y + 1) * r.f1 ≤ r.f2 * r.f1 := Int.mul_le_mul_of_nonneg_right (by omega) (by omega)
  rw [Int.mul_comm r.f2 r.f1] at m2
  have hl : (rowC r y).length ≤ 64 := by unfold rowC; rw [List.length_drop, List.length_take]; omega
  refine ⟨?_, hl⟩
  unfold ruletext_rank.f
  rw [w64 (n := y * r.f1) (by omega) (by omega), w64 (n := y + 1) (by omega) (by omega), w64 (n := (y + 1) * r.f1) (by omega) (by omega)]
  refine ite (fun _ => ?_) (fun h => absurd m0 h)
  refine ite (fun _ => ?_) (fun h => absurd (by omega) h)
  refine ite (fun _ => ?_) (fun h => absurd (by omega) h)
  refine bind_now (a := rowC r y) rfl ?_
  have e := rk_l0 r hr lr (rowC r y) hl (fun c hc => hst.2 c (List.mem_of_mem_take (List.mem_of_mem_drop hc))) (rowC r y).length 0 ⟨#[]⟩ (by omega) (by simp; omega)
  rw [List.drop_zero] at e
  exact e
/-! endLine -/
theorem el_f (r : S26) (hr : VR r) (lr : LR r) (x : S42) (hx : x ∈ r.f7) : Ev (fun k => ruletext_endLine.f k r.f0 r.f1 r.f2 r.f3 r.f4 r.f5 r.f6 r.f7 r.f8 r.f9 r.f10 x.f0 x.f1 x.f2 x.f3) (B (end1 r x)) ∧ (end1 r x).length ≤ 40 := by
  obtain ⟨k0, k2, e0, e1, e2⟩ := hr.e.2 x hx
  have ht := hr.t
  have n2 : 0 ≤ x.f2 ∧ x.f2 ≤ 64 := by omega
  have n1 : 0 ≤ x.f1 ∧ x.f1 < (r.f3.length : Int) := by omega
  have la := it_le x.f2 (by omega) (by omega)
  have lh : (how x).length ≤ 5 := by unfold how; split <;> decide
  refine ⟨?_, ?_⟩
  · have j0 : ∀ E : ByteArray, E.data.toList = how x → Ev (fun k => ruletext_endLine.j0 k E r.f0 r.f1 r.f2 r.f3 r.f4 r.f5 r.f6 r.f7 r.f8 r.f9 r.f10 x.f0 x.f1 x.f2 x.f3) (B (end1 r x)) := by
      intro E hE
      have lE : E.data.toList.length ≤ 5 := by rw [hE]; exact lh
      refine Ev.step (fun k => by rw [ruletext_endLine.j0]) ?_
      rw [e32 (rdL lr x.f1 n1.1 n1.2)]
      refine ite (fun h0 => ?_) (fun h0 => ?_)
      · refine bind_now (itoa_f x.f2 (by omega) (by omega)) ?_
        refine ite (fun _ => ?_) (fun h => absurd (by simp only [zl, dl, B_l, List.length_append, List.length_cons, List.length_nil]; omega) h)
        refine ite (fun _ => ?_) (fun h => absurd (by simp only [zl, dl, B_l, List.length_append, List.length_cons, List.length_nil]; omega) h)
        refine ite (fun _ => now (eqB ?_)) (fun h => absurd (by simp only [zl, dl, B_l, List.length_append, List.length_cons, List.length_nil]; omega) h)
        unfold end1; rw [if_pos h0, ← hE]; simp only [dl, B_l, List.append_assoc]
      refine ite (fun h1 => ?_) (fun h1 => ?_)
      · refine ite (fun _ => ?_) (fun h => absurd n1.1 h)
        refine ite (fun _ => ?_) (fun h => absurd n1.2 h)
        refine ite (fun _ => ?_) (fun h => absurd (by simp only [zl, dl, B_l, List.length_append, List.length_cons, List.length_nil]; omega) h)
        refine ite (fun _ => ?_) (fun h => absurd (by simp only [zl, dl, B_l, List.length_append, List.length_cons, List.length_nil]; omega) h)
        refine ite (fun _ => now (eqB ?_)) (fun h => absurd (by simp only [zl, dl, B_l, List.length_append, List.length_cons, List.length_nil]; omega) h)
        unfold end1; rw [if_neg h0, if_pos h1, ← hE]; simp only [dl, B_l, List.append_assoc]; rfl
      · refine ite (fun _ => ?_) (fun h => absurd n1.1 h)
        refine ite (fun _ => ?_) (fun h => absurd n1.2 h)
        refine ite (fun _ => ?_) (fun h => absurd (by simp only [zl, dl, B_l, List.length_append, List.length_cons, List.length_nil]; omega) h)
        refine ite (fun _ => ?_) (fun h => absurd (by simp only [zl, dl, B_l, List.length_append, List.length_cons, List.length_nil]; omega) h)
        refine bind_now (itoa_f x.f2 (by omega) (by omega)) ?_
        refine ite (fun _ => ?_) (fun h => absurd (by simp only [zl, dl, B_l, List.length_append, List.length_cons, List.length_nil]; omega) h)
        refine ite (fun _ => ?_) (fun h => absurd (by simp only [zl, dl, B_l, List.length_append, List.length_cons, List.length_nil]; omega) h)
        refine ite (fun _ => now (eqB ?_)) (fun h => absurd (by simp only [zl, dl, B_l, List.length_append, List.length_cons, List.length_nil]; omega) h)
        unfold end1; rw [if_neg h0, if_neg h1, ← hE]; simp only [dl, B_l, List.append_assoc]; rfl
    unfold ruletext_endLine.f
    refine ite (fun h => j0 _ ?_) (fun h => j0 _ ?_)
    · unfold how; rw [if_pos h]
    · unfold how; rw [if_neg h]
  · unfold end1
    split
    · simp; omega
    · split
      · simp; omega
      · simp; omega
end Co
end Go.Proofs.YtkkgpabjpnkjjaaDoor.Pure
