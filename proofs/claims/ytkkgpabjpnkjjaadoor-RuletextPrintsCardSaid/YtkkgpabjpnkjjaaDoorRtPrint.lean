/- RuletextPrints: what Print returns. -/
import Derived.Test.YtkkgpabjpnkjjaaDoorRtProg
namespace Go.Proofs.YtkkgpabjpnkjjaaDoor.Pure
open Go.RowKit Go.Proofs.YtkkgpabjpnkjjaaDoor.PRuletextPrints Go.Proofs.YtkkgpabjpnkjjaaDoorW.PrintWords Go.Proofs.YtkkgpabjpnkjjaaDoorW.PrintLast
set_option linter.unusedSimpArgs false
set_option linter.unusedVariables false
namespace Co
open Aid
theorem join_f (xs : List (List UInt8)) (h0 : xs ≠ []) (h1 : xs.length ≤ 1000000) (h2 : (nl xs).length ≤ 1000000) : strings_Join.f (xs.map B) ⟨#[10]⟩ = some (B (Lib.join xs [10])) ∧ Lib.join xs [10] ++ [10] = nl xs := by
  have hj := join_nl xs h0
  have e : (xs.map B).map (·.data.toList) = xs := by rw [List.map_map, show ((fun a : ByteArray => a.data.toList) ∘ B) = id from funext B_l, List.map_id]
  have hl : (Lib.join xs [10]).length ≤ 1000000 := by
    have := congrArg List.length hj
    rw [List.length_append, List.length_cons, List.length_nil] at this; omega
  refine ⟨?_, hj⟩
  unfold strings_Join.f
  rw [e, if_pos ⟨by rw [List.length_map]; omega, by show (Lib.join xs [10]).length ≤ _; omega⟩]; rfl
theorem nl_len1 (a : List UInt8) : (nl [a]).length = a.length + 1 := by rw [nl_one]; simp
theorem l3_le (r : S26) (hr : VR r) : (nl (last3 r)).length ≤ 60 := by
  have hl := hr.l
  have a := it_le r.f9 (by omega) (by omega)
  have b := it_le r.f10 (by omega) (by omega)
  have c := blk_le r.f8 (by omega) (by omega)
  unfold last3
  simp [nl]; omega
def restA (r : S26) : List (List UInt8) := r.f7.map (end1 r) ++ last3 r
def restK (r : S26) : List (List UInt8) := keeps1 r ++ restA r
def restF (r : S26) : List (List UInt8) := falls1 r ++ restK r
theorem pr_l2 (r : S26) (hr : VR r) (lr : LR r) : ∀ (d i : Nat) (ls : List (List UInt8)), i + d = r.f7.length → ls ≠ [] → ls.length + d ≤ 1000 → (nl ls).length + 50 * d ≤ 200000 →
    Ev (fun k => ruletext_Print.l2 k (ls.map B) r.f7 (r.f7.length : Int) (i : Int) r.f0 r.f1 r.f2 r.f3 r.f4 r.f5 r.f6 r.f7 r.f8 r.f9 r.f10) (B (nl (ls ++ ((r.f7.drop i).map (end1 r) ++ last3 r))), 0) := by
  have hl := hr.l
  have he := hr.e.1
  intro d
  induction d with
  | zero =>
    intro i ls hi hz hn hb
    have a := it_le r.f9 (by omega) (by omega)
    have b := it_le r.f10 (by omega) (by omega)
    have c := blk_le r.f8 (by omega) (by omega)
    have h3 := l3_le r hr
    have eb : (rdOf ByteArray.empty blockedL r.f8).data.toList = blkT r.f8 := rfl
    refine Ev.step (fun k => by rw [ruletext_Print.l2]) ?_
    rw [List.drop_of_length_le (by omega), List.map_nil, List.nil_append]
    refine ite (fun h => absurd h (by omega)) (fun _ => ?_)
    refine ite (fun _ => ?_) (fun h => absurd hl.1 h)
    refine ite (fun _ => ?_) (fun h => absurd (show r.f8 < (3 : Int) by omega) h)
    refine ite (fun _ => ?_) (fun h => absurd (by simp only [zl, dl, B_l, eb, List.length_append, List.length_cons, List.length_nil]; omega) h)
    refine bind_now (itoa_f r.f9 (by omega) (by omega)) ?_
    refine ite (fun _ => ?_) (fun h => absurd (by simp only [zl, dl, B_l, eb, List.length_append, List.length_cons, List.length_nil]; omega) h)
    refine bind_now (itoa_f r.f10 (by omega) (by omega)) ?_
    refine ite (fun _ => ?_) (fun h => absurd (by simp only [zl, dl, B_l, eb, List.length_append, List.length_cons, List.length_nil]; omega) h)
    refine bind_now (a := (last3 r).map B) (congrArg some (congr (congrArg List.cons (eqB (by simp only [dl, eb]))) (congr (congrArg List.cons (eqB (by simp only [dl, B_l]))) (congr (congrArg List.cons (eqB (by simp only [dl, B_l]))) rfl)))) ?_
    refine ite (fun _ => ?_) (fun h => absurd (by rw [List.length_map, List.length_map]; show ls.length + 3 < _; omega) h)
    rw [← List.map_append]
    obtain ⟨j1, j2⟩ := join_f (ls ++ last3 r) (by simp [last3]) (by rw [List.length_append]; show ls.length + 3 ≤ _; omega) (by rw [nl_app, List.length_append]; omega)
    have hjl := congrArg List.length j2
    rw [nl_app, List.length_append, List.length_append, List.length_cons, List.length_nil] at hjl
    refine bind_now j1 ?_
    refine ite (fun _ => now ?_) (fun h => absurd (by simp only [zl, B_l]; omega) h)
    rw [← j2]
    refine Prod.ext (eqB ?_) rfl
    rw [dl, B_l]
  | succ d ih =>
    intro i ls hi hz hn hb
    have hi1 : i < r.f7.length := by omega
    have hi2 : (i : Int) < (r.f7.length : Int) := by omega
    have hwn := wn1 i (by omega)
    obtain ⟨ev, ev2⟩ := el_f r hr lr r.f7[i] (List.getElem_mem hi1)
    rw [List.drop_eq_getElem_cons hi1, List.map_cons]
    refine Ev.step (fun k => by rw [ruletext_Print.l2]) ?_
    rw [rdE r.f7 i hi1, hwn]
    refine ite (fun _ => ?_) (fun h => absurd hi2 h)
    refine ite (fun _ => ?_) (fun h => absurd (Int.natCast_nonneg _) h)
    refine ite (fun _ => ?_) (fun h => absurd hi2 h)
    refine Ev.bind ev ?_
    refine ite (fun _ => ?_) (fun h => absurd (by rw [List.length_map]; omega) h)
    have e := ih (i + 1) (ls ++ [end1 r r.f7[i]]) (by omega) (by simp) (by simp; omega) (by rw [nl_app, List.length_append, nl_len1]; omega)
    simp only [List.map_append, List.map_cons, List.map_nil, List.append_assoc, List.cons_append, List.nil_append] at e ⊢
    exact e
theorem pr_j2 (r : S26) (hr : VR r) (lr : LR r) (ls : List (List UInt8)) (hz : ls ≠ []) (hn : ls.length ≤ 900) (hb : (nl ls).length ≤ 150000) :
    Ev (fun k => ruletext_Print.j2 k (ls.map B) r.f0 r.f1 r.f2 r.f3 r.f4 r.f5 r.f6 r.f7 r.f8 r.f9 r.f10) (B (nl (ls ++ restK r)), 0) := by
  have he := hr.e
  have j3 : ∀ ls : List (List UInt8), ls ≠ [] → ls.length ≤ 950 → (nl ls).length ≤ 160000 → Ev (fun k => ruletext_Print.j3 k (ls.map B) r.f0 r.f1 r.f2 r.f3 r.f4 r.f5 r.f6 r.f7 r.f8 r.f9 r.f10) (B (nl (ls ++ restA r)), 0) := by
    intro ls hz hn hb
    refine Ev.step (fun k => by rw [ruletext_Print.j3]) ?_
    have e := pr_l2 r hr lr r.f7.length 0 ls (by omega) hz (by omega) (by omega)
    rw [List.drop_zero] at e
    exact e
  refine Ev.step (fun k => by rw [ruletext_Print.j2]) ?_
  unfold restK keeps1
  refine ite (fun h => ?_) (fun h => ?_)
  · rw [if_pos h]
    refine ite (fun _ => ?_) (fun h => absurd (by rw [List.length_map]; omega) h)
    have e := j3 (ls ++ [[107, 101, 101, 112, 115]]) (by simp) (by simp; omega) (by rw [nl_app, List.length_append, nl_len1]; simp; omega)
    rw [List.map_append, List.append_assoc] at e
    exact e
  · rw [if_neg h]; exact j3 ls hz (by omega) (by omega)
theorem pr_l1 (r : S26) (hr : VR r) (lr : LR r) : ∀ (n : Nat) (ls : List (List UInt8)), (n : Int) ≤ r.f2 → ls ≠ [] → ls.length + n ≤ 800 → (nl ls).length + 80 * n ≤ 140000 →
    Ev (fun k => ruletext_Print.l1 k (ls.map B) ((n : Int) - 1) r.f0 r.f1 r.f2 r.f3 r.f4 r.f5 r.f6 r.f7 r.f8 r.f9 r.f10) (B (nl (ls ++ (rowsD r n ++ restF r))), 0) := by
  have hh := hr.h
  intro n
  induction n with
  | zero =>
    intro ls _ hz hn hb
    refine Ev.step (fun k => by rw [ruletext_Print.l1]) ?_
    refine ite (fun h => absurd h (by omega)) (fun _ => ?_)
    rw [rowsD, List.nil_append]
    unfold restF falls1
    refine ite (fun h => ?_) (fun h => ?_)
    · rw [if_pos h]
      refine ite (fun _ => ?_) (fun h => absurd (by rw [List.length_map]; omega) h)
      have e := pr_j2 r hr lr (ls ++ [[102, 97, 108, 108, 115]]) (by simp) (by simp; omega) (by rw [nl_app, List.length_append, nl_len1]; simp; omega)
      rw [List.map_append, List.append_assoc] at e
      exact e
    · rw [if_neg h]; exact pr_j2 r hr lr ls hz (by omega) (by omega)
  | succ n ih =>
    intro ls hm hz hn hb
    obtain ⟨ev, hc⟩ := rk_f r hr lr (n : Int) (by omega) (by omega)
    have hcl := cells_le r (rowC r (n : Int))
    refine Ev.step (fun k => by rw [ruletext_Print.l1]) ?_
    rw [show ((n + 1 : Nat) : Int) - 1 = (n : Int) by omega, w64 (n := (n : Int) - 1) (by omega) (by omega)]
    refine ite (fun _ => ?_) (fun h => absurd (by omega) h)
    refine Ev.bind ev ?_
    refine ite (fun _ => ?_) (fun h => absurd (by simp only [zl, B_l]; omega) h)
    refine ite (fun _ => ?_) (fun h => absurd (by rw [List.length_map]; omega) h)
    have e := ih (ls ++ [row1 r (n : Int)]) (by omega) (by simp) (by simp; omega) (by rw [nl_app, List.length_append, nl_len1]; unfold row1; rw [List.length_append]; simp only [List.length_cons, List.length_nil]; omega)
    rw [List.map_append, List.append_assoc] at e
    have hE : ∀ E : ByteArray, E.data.toList = row1 r (n : Int) → Ev (fun k => ruletext_Print.l1 k (ls.map B ++ [E]) ((n : Int) - 1) r.f0 r.f1 r.f2 r.f3 r.f4 r.f5 r.f6 r.f7 r.f8 r.f9 r.f10) (B (nl (ls ++ (rowsD r (n + 1) ++ restF r))), 0) := by
      intro E hE
      rw [eqB hE]; exact e
    exact hE _ (by unfold row1; simp only [dl, B_l])
theorem piece_le (r : S26) (p : S38) (h1 : 0 ≤ p.f1 ∧ p.f1 ≤ 64) (hn : p.f3.length ≤ 16) (hw : ∀ w ∈ p.f3, -7 ≤ w.f0 ∧ w.f0 ≤ 7 ∧ -7 ≤ w.f1 ∧ w.f1 ≤ 7 ∧ 1 ≤ w.f2 ∧ w.f2 ≤ 7 ∧ 0 ≤ w.f3 ∧ w.f3 ≤ 2) : (nl (pieceL r p)).length ≤ 600 ∧ (pieceL r p).length ≤ 17 := by
  have la := it_le p.f1 (by omega) (by omega)
  have l0 : (piece1 r p).length ≤ 17 := by
    unfold piece1
    have : (if p.f2 > 0 then [U (L r (p.f2 - 1))] else [45]).length = 1 := by split <;> rfl
    simp only [List.length_append, List.length_cons, List.length_nil, this]; omega
  have hws : ∀ ws : List S47, (∀ w ∈ ws, -7 ≤ w.f0 ∧ w.f0 ≤ 7 ∧ -7 ≤ w.f1 ∧ w.f1 ≤ 7 ∧ 1 ≤ w.f2 ∧ w.f2 ≤ 7 ∧ 0 ≤ w.f3 ∧ w.f3 ≤ 2) → (nl (ws.map way1)).length ≤ 35 * ws.length := by
    intro ws
    induction ws with
    | nil => intro _; simp [nl]
    | cons w ws ih =>
      intro h
      have h1 := ih (fun q hq => h q (by simp [hq]))
      obtain ⟨a0, a1, b0, b1, c0, c1, t0, t1⟩ := h w (by simp)
      have la := it_le w.f0 (by omega) (by omega)
      have lb := it_le w.f1 (by omega) (by omega)
      have lc := it_le w.f2 (by omega) (by omega)
      have lt := take_le w.f3 t0 t1
      have hwl : (way1 w).length ≤ 33 := by
        unfold way1
        simp only [List.length_append, List.length_cons, List.length_nil]; omega
      rw [List.map_cons, nl_cons, List.length_append, List.length_append, List.length_cons]
      simp only [List.length_cons, List.length_nil]; omega
  have h2 := hws p.f3 hw
  unfold pieceL
  refine ⟨?_, by simp; omega⟩
  rw [nl_cons, List.length_append, List.length_append]
  simp only [List.length_cons, List.length_nil]; omega
theorem pr_l0 (r : S26) (hr : VR r) (lr : LR r) : ∀ (d i : Nat) (ls : List (List UInt8)), i + d = r.f3.length → ls ≠ [] → ls.length + 17 * d ≤ 700 → (nl ls).length + 600 * d ≤ 130000 →
    Ev (fun k => ruletext_Print.l0 k (ls.map B) r.f3 (r.f3.length : Int) (i : Int) r.f0 r.f1 r.f2 r.f3 r.f4 r.f5 r.f6 r.f7 r.f8 r.f9 r.f10) (B (nl (ls ++ ((r.f3.drop i).flatMap (pieceL r) ++ (rowsD r r.f2.toNat ++ restF r)))), 0) := by
  have hh := hr.h
  have ht := hr.t
  intro d
  induction d with
  | zero =>
    intro i ls hi hz hn hb
    refine Ev.step (fun k => by rw [ruletext_Print.l0]) ?_
    rw [List.drop_of_length_le (by omega), List.flatMap_nil, List.nil_append]
    refine ite (fun h => absurd h (by omega)) (fun _ => ?_)
    have e := pr_l1 r hr lr r.f2.toNat ls (by omega) hz (by omega) (by omega)
    rw [show ((r.f2.toNat : Nat) : Int) - 1 = r.f2 - 1 by omega] at e
    rw [w64 (n := r.f2 - 1) (by omega) (by omega)]
    exact e
  | succ d ih =>
    intro i ls hi hz hn hb
    have hi1 : i < r.f3.length := by omega
    have hi2 : (i : Int) < (r.f3.length : Int) := by omega
    have hwn := wn1 i (by omega)
    have ev := pl_f r hr lr i hi1
    have hq := hr.pc _ (List.getElem_mem hi1)
    obtain ⟨p1, p2⟩ := piece_le r r.f3[i] ⟨hq.1, hq.2.1⟩ (by omega) (fun w h => by have := hq.2.2.2.2.2 w h; omega)
    rw [List.drop_eq_getElem_cons hi1, List.flatMap_cons]
    refine Ev.step (fun k => by rw [ruletext_Print.l0]) ?_
    rw [rdP r.f3 i hi1, hwn]
    refine ite (fun _ => ?_) (fun h => absurd hi2 h)
    refine ite (fun _ => ?_) (fun h => absurd (Int.natCast_nonneg _) h)
    refine ite (fun _ => ?_) (fun h => absurd hi2 h)
    refine Ev.bind ev ?_
    refine ite (fun _ => ?_) (fun h => absurd (by rw [List.length_map, List.length_map]; omega) h)
    have e := ih (i + 1) (ls ++ pieceL r r.f3[i]) (by omega) (by simp [hz]) (by rw [List.length_append]; omega) (by rw [nl_app, List.length_append]; omega)
    rw [List.map_append] at e
    simp only [List.append_assoc] at e ⊢
    exact e
def allT (r : S26) : List UInt8 := nl (game1 r :: (r.f3.flatMap (pieceL r) ++ (rowsD r r.f2.toNat ++ restF r)))
theorem print_f (r : S26) (hr : VR r) (lr : LR r) (hN : r.f0.data.toList.length ≤ 8) (hc : Ev (fun k => rules_Check.f k r.f0 r.f1 r.f2 r.f3 r.f4 r.f5 r.f6 r.f7 r.f8 r.f9 r.f10) 0) : Ev (fun k => ruletext_Print.f k r.f0 r.f1 r.f2 r.f3 r.f4 r.f5 r.f6 r.f7 r.f8 r.f9 r.f10) (B (allT r), 0) := by
  have hw := hr.w
  have hh := hr.h
  have ht := hr.t
  have la := it_le r.f1 (by omega) (by omega)
  have lb := it_le r.f2 (by omega) (by omega)
  unfold ruletext_Print.f
  refine Ev.bind hc ?_
  refine ite (fun _ => ?_) (fun h => absurd rfl h)
  refine ite (fun _ => ?_) (fun h => absurd (by simp only [zl, dl, B_l, List.length_append, List.length_cons, List.length_nil]; omega) h)
  refine ite (fun _ => ?_) (fun h => absurd (by simp only [zl, dl, B_l, List.length_append, List.length_cons, List.length_nil]; omega) h)
  refine bind_now (itoa_f r.f1 (by omega) (by omega)) ?_
  refine ite (fun _ => ?_) (fun h => absurd (by simp only [zl, dl, B_l, List.length_append, List.length_cons, List.length_nil]; omega) h)
  refine ite (fun _ => ?_) (fun h => absurd (by simp only [zl, dl, B_l, List.length_append, List.length_cons, List.length_nil]; omega) h)
  refine bind_now (itoa_f r.f2 (by omega) (by omega)) ?_
  refine ite (fun _ => ?_) (fun h => absurd (by simp only [zl, dl, B_l, List.length_append, List.length_cons, List.length_nil]; omega) h)
  have go : ∀ E : ByteArray, E.data.toList = game1 r → Ev (fun k => ruletext_Print.l0 k [E] r.f3 (r.f3.length : Int) 0 r.f0 r.f1 r.f2 r.f3 r.f4 r.f5 r.f6 r.f7 r.f8 r.f9 r.f10) (B (allT r), 0) := by
    intro E hE
    have hg : (game1 r).length ≤ 40 := by unfold game1; simp only [List.length_append, List.length_cons, List.length_nil]; omega
    have e := pr_l0 r hr lr r.f3.length 0 [game1 r] (by omega) (by simp) (by simp; omega) (by rw [nl_len1]; omega)
    rw [List.drop_zero] at e
    rw [eqB hE]; exact e
  exact go _ (by unfold game1; simp only [dl, B_l, List.append_assoc])
end Co
end Go.Proofs.YtkkgpabjpnkjjaaDoor.Pure
