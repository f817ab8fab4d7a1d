/- RuletextPrints: what the reference's RulesText returns, and the plain law. -/
import Derived.Test.YtkkgpabjpnkjjaaDoorRtPrint
namespace Go.Proofs.YtkkgpabjpnkjjaaDoor.Pure
open Go.RowKit Go.Proofs.YtkkgpabjpnkjjaaDoor.PRuletextPrints Go.Proofs.YtkkgpabjpnkjjaaDoorW.PrintWords Go.Proofs.YtkkgpabjpnkjjaaDoorW.PrintLast
set_option linter.unusedSimpArgs false
set_option linter.unusedVariables false
namespace Co
open Aid
theorem strB (c : Int) : strOfNums [c] = B [U c] := rfl
theorem letter_f (r : S26) (hr : VR r) (lr : LR r) (c : Int) (h0 : 0 < c) (h1 : c ≤ 2 * (r.f3.length : Int)) : gamehallref1_Letter.f r.f0 r.f1 r.f2 r.f3 r.f4 r.f5 r.f6 r.f7 r.f8 r.f9 r.f10 c = some (B (cell1 r c)) := by
  have ht := hr.t
  have e1 : wrap64 (c - 1) = c - 1 := w64 (by omega) (by omega)
  have e2 : wrap64 (Int.tdiv (c - 1) 2) = (c - 1) / 2 := by rw [Int.tdiv_eq_ediv_of_nonneg (by omega)]; exact w64 (by omega) (by omega)
  have e3 : Int.tmod c 2 = c % 2 := Int.tmod_eq_emod_of_nonneg (by omega)
  unfold gamehallref1_Letter.f
  rw [e1, e2, e3, if_pos (by omega), if_pos (by omega)]
  have hL := rdL lr ((c - 1) / 2) (by omega) (by omega)
  unfold cell1
  rw [if_neg (c := c = 0) (by omega)]
  by_cases hc : c % 2 = 0
  · rw [if_pos hc, if_neg (c := c % 2 = 1) (by omega), strB, show c / 2 - 1 = (c - 1) / 2 by omega, Int.emod_eq_of_lt (by omega) (by omega)]; rfl
  · rw [if_neg hc, if_pos (c := c % 2 = 1) (by omega), strB, show c / 2 = (c - 1) / 2 by omega]; rfl
def midT (r : S26) (x : S42) : List UInt8 :=
  if x.f0 = 0 then [108, 105, 110, 101, 32] ++ it x.f2 else if x.f0 = 1 then [114, 101, 97, 99, 104, 32] ++ [U (L r x.f1)] else [116, 97, 107, 101, 32] ++ ([U (L r x.f1)] ++ ([32] ++ it x.f2))
theorem end_mid (r : S26) (x : S42) : [101, 110, 100, 32] ++ (midT r x ++ ([32] ++ how x)) = end1 r x := by
  unfold midT end1
  split
  · simp
  · split <;> simp
theorem mid_le (r : S26) (x : S42) (h0 : 0 ≤ x.f2) (h1 : x.f2 ≤ 64) : (midT r x).length ≤ 15 := by
  have := it_le x.f2 (by omega) (by omega)
  unfold midT
  split
  · simp; omega
  · split <;> simp <;> omega
theorem rf_l4 (r : S26) (hr : VR r) (lr : LR r) : ∀ (d i : Nat) (E : ByteArray), i + d = r.f7.length → E.data.toList.length + 50 * d ≤ 300000 →
    Ev (fun k => gamehallref1_RulesText.l4 k E r.f7 (r.f7.length : Int) (i : Int) r.f0 r.f1 r.f2 r.f3 r.f4 r.f5 r.f6 r.f7 r.f8 r.f9 r.f10) (B (E.data.toList ++ nl ((r.f7.drop i).map (end1 r) ++ last3 r))) := by
  have hl := hr.l
  have he := hr.e.1
  have ht := hr.t
  intro d
  induction d with
  | zero =>
    intro i E hi hb
    have a := it_le r.f9 (by omega) (by omega)
    have b := it_le r.f10 (by omega) (by omega)
    have c := blk_le r.f8 (by omega) (by omega)
    have eb : (rdOf ByteArray.empty blockedL r.f8).data.toList = blkT r.f8 := rfl
    refine Ev.step (fun k => by rw [gamehallref1_RulesText.l4]) ?_
    rw [List.drop_of_length_le (by omega), List.map_nil, List.nil_append]
    refine ite (fun h => absurd h (by omega)) (fun _ => ?_)
    refine ite (fun _ => ?_) (fun h => absurd (by simp only [zl, dl, B_l, eb, List.length_append, List.length_cons, List.length_nil]; omega) h)
    refine bind_now (a := blockedL) rfl ?_
    refine ite (fun _ => ?_) (fun h => absurd hl.1 h)
    refine ite (fun _ => ?_) (fun h => absurd (show r.f8 < (3 : Int) by omega) h)
    refine ite (fun _ => ?_) (fun h => absurd (by simp only [zl, dl, B_l, eb, List.length_append, List.length_cons, List.length_nil]; omega) h)
    refine ite (fun _ => ?_) (fun h => absurd (by simp only [zl, dl, B_l, eb, List.length_append, List.length_cons, List.length_nil]; omega) h)
    refine Ev.bind (dec_f r.f9 (by omega) (by omega)) ?_
    refine ite (fun _ => ?_) (fun h => absurd (by simp only [zl, dl, B_l, eb, List.length_append, List.length_cons, List.length_nil]; omega) h)
    refine ite (fun _ => ?_) (fun h => absurd (by simp only [zl, dl, B_l, eb, List.length_append, List.length_cons, List.length_nil]; omega) h)
    refine Ev.bind (dec_f r.f10 (by omega) (by omega)) ?_
    refine ite (fun _ => ?_) (fun h => absurd (by simp only [zl, dl, B_l, eb, List.length_append, List.length_cons, List.length_nil]; omega) h)
    refine ite (fun _ => now (eqB ?_)) (fun h => absurd (by simp only [zl, dl, B_l, eb, List.length_append, List.length_cons, List.length_nil]; omega) h)
    unfold last3
    simp only [dl, B_l, eb, nl]
    simp
  | succ d ih =>
    intro i E hi hb
    have hi1 : i < r.f7.length := by omega
    have hi2 : (i : Int) < (r.f7.length : Int) := by omega
    have hwn := wn1 i (by omega)
    obtain ⟨k0, k2, e0, e1, e2⟩ := hr.e.2 r.f7[i] (List.getElem_mem hi1)
    rw [List.drop_eq_getElem_cons hi1, List.map_cons, List.cons_append, nl_cons]
    refine Ev.step (fun k => by rw [gamehallref1_RulesText.l4]) ?_
    rw [rdE r.f7 i hi1, hwn]
    have hl1 := (el_f r hr lr r.f7[i] (List.getElem_mem hi1)).2
    generalize r.f7[i] = x at *
    have n2 : 0 ≤ x.f2 ∧ x.f2 ≤ 64 := by omega
    have n1 : 0 ≤ x.f1 ∧ x.f1 < (r.f3.length : Int) := by omega
    have la := it_le x.f2 (by omega) (by omega)
    have lm := mid_le r x n2.1 n2.2
    have hL : (rd_T38 r.f3 x.f1).f0 = L r x.f1 := rfl
    refine ite (fun _ => ?_) (fun h => absurd hi2 h)
    refine ite (fun _ => ?_) (fun h => absurd (Int.natCast_nonneg _) h)
    refine ite (fun _ => ?_) (fun h => absurd hi2 h)
    refine ite (fun _ => ?_) (fun h => absurd n1.1 h)
    refine ite (fun _ => ?_) (fun h => absurd n1.2 h)
    refine bind_now (a := [L r x.f1]) rfl ?_
    rw [strB]
    refine Ev.bind (dec_f x.f2 (by omega) (by omega)) ?_
    refine ite (fun _ => ?_) (fun h => absurd (by simp only [zl, dl, B_l, List.length_append, List.length_cons, List.length_nil]; omega) h)
    refine ite (fun _ => ?_) (fun h => absurd (by simp only [zl, dl, B_l, List.length_append, List.length_cons, List.length_nil]; omega) h)
    refine ite (fun _ => ?_) (fun h => absurd (by simp only [zl, dl, B_l, List.length_append, List.length_cons, List.length_nil]; omega) h)
    refine ite (fun _ => ?_) (fun h => absurd (by simp only [zl, dl, B_l, List.length_append, List.length_cons, List.length_nil]; omega) h)
    refine Ev.bind (dec_f x.f2 (by omega) (by omega)) ?_
    refine ite (fun _ => ?_) (fun h => absurd (by simp only [zl, dl, B_l, List.length_append, List.length_cons, List.length_nil]; omega) h)
    obtain ⟨ys, hys⟩ : ∃ ys : List ByteArray, ys = [(⟨#[108, 105, 110, 101, 32]⟩ : ByteArray) ++ B (it x.f2), (⟨#[114, 101, 97, 99, 104, 32]⟩ : ByteArray) ++ B [U (L r x.f1)], (((⟨#[116, 97, 107, 101, 32]⟩ : ByteArray) ++ B [U (L r x.f1)]) ++ (⟨#[32]⟩ : ByteArray)) ++ B (it x.f2)] := ⟨_, rfl⟩
    have hy3 : ys.length = 3 := by rw [hys]; rfl
    have hm : (rdOf ByteArray.empty ys x.f0).data.toList = midT r x := by
      rw [hys]; unfold midT
      rcases (show x.f0 = 0 ∨ x.f0 = 1 ∨ x.f0 = 2 by omega) with h | h | h
      · rw [h, if_pos rfl]; show ((⟨#[108, 105, 110, 101, 32]⟩ : ByteArray) ++ B (it x.f2)).data.toList = _; simp only [dl, B_l]
      · rw [h, if_neg (by decide), if_pos rfl]; show ((⟨#[114, 101, 97, 99, 104, 32]⟩ : ByteArray) ++ B [U (L r x.f1)]).data.toList = _; simp only [dl, B_l]
      · rw [h, if_neg (by decide), if_neg (by decide)]; show ((((⟨#[116, 97, 107, 101, 32]⟩ : ByteArray) ++ B [U (L r x.f1)]) ++ (⟨#[32]⟩ : ByteArray)) ++ B (it x.f2)).data.toList = _; simp only [dl, B_l, List.append_assoc]
    refine bind_now (a := ys) (by rw [hys]) ?_
    clear hys
    have go : ∀ F : ByteArray, F.data.toList = E.data.toList ++ (end1 r x ++ [10]) → Ev (fun k => gamehallref1_RulesText.l4 k F r.f7 (r.f7.length : Int) ((i + 1 : Nat) : Int) r.f0 r.f1 r.f2 r.f3 r.f4 r.f5 r.f6 r.f7 r.f8 r.f9 r.f10) (B (E.data.toList ++ (end1 r x ++ ([10] ++ nl ((r.f7.drop (i + 1)).map (end1 r) ++ last3 r))))) := by
      intro F hF
      have e := ih (i + 1) F (by omega) (by rw [hF, List.length_append, List.length_append]; simp only [List.length_cons, List.length_nil]; omega)
      rw [hF] at e
      simp only [List.append_assoc] at e ⊢
      exact e
    refine ite (fun _ => ?_) (fun h => absurd k0 h)
    refine ite (fun _ => ?_) (fun h => absurd (show x.f0 < (ys.length : Int) by omega) h)
    refine ite (fun _ => ?_) (fun h => absurd (by simp only [zl, dl, hm, List.length_append, List.length_cons, List.length_nil]; omega) h)
    refine ite (fun _ => ?_) (fun h => absurd (by simp only [zl, dl, hm, List.length_append, List.length_cons, List.length_nil]; omega) h)
    refine ite (fun hl => ?_) (fun hl => ?_)
    · refine ite (fun _ => ?_) (fun h => absurd (by simp only [zl, dl, hm, List.length_append, List.length_cons, List.length_nil]; omega) h)
      refine go _ ?_
      rw [← end_mid]; unfold how; rw [if_pos hl]
      simp only [dl, hm, List.append_assoc]; rfl
    · refine ite (fun _ => ?_) (fun h => absurd (by simp only [zl, dl, hm, List.length_append, List.length_cons, List.length_nil]; omega) h)
      refine go _ ?_
      rw [← end_mid]; unfold how; rw [if_neg hl]
      simp only [dl, hm, List.append_assoc]; rfl
theorem rf_j5 (r : S26) (hr : VR r) (lr : LR r) (E : ByteArray) (hb : E.data.toList.length ≤ 250000) : Ev (fun k => gamehallref1_RulesText.j5 k E r.f0 r.f1 r.f2 r.f3 r.f4 r.f5 r.f6 r.f7 r.f8 r.f9 r.f10) (B (E.data.toList ++ nl (restK r))) := by
  have he := hr.e.1
  have j6 : ∀ E : ByteArray, E.data.toList.length ≤ 260000 → Ev (fun k => gamehallref1_RulesText.j6 k E r.f0 r.f1 r.f2 r.f3 r.f4 r.f5 r.f6 r.f7 r.f8 r.f9 r.f10) (B (E.data.toList ++ nl (restA r))) := by
    intro E hb
    refine Ev.step (fun k => by rw [gamehallref1_RulesText.j6]) ?_
    have e := rf_l4 r hr lr r.f7.length 0 E (by omega) (by omega)
    rw [List.drop_zero] at e
    exact e
  refine Ev.step (fun k => by rw [gamehallref1_RulesText.j5]) ?_
  unfold restK keeps1
  refine ite (fun h => ?_) (fun h => ?_)
  · rw [if_pos h]
    refine ite (fun _ => ?_) (fun h => absurd (by rw [zl]; omega) h)
    have e := j6 (E ++ (⟨#[107, 101, 101, 112, 115, 10]⟩ : ByteArray)) (by rw [dl, List.length_append]; simp only [List.length_cons, List.length_nil]; omega)
    rw [dl, List.append_assoc] at e
    rw [nl_app, nl_one]; exact e
  · rw [if_neg h]; exact j6 E (by omega)
theorem rowC_at (r : S26) (hr : VR r) (y : Int) (h0 : 0 ≤ y) (h1 : y < r.f2) : (rowC r y).length = r.f1.toNat ∧ ∀ i : Nat, (i : Int) < r.f1 → (0 ≤ y * r.f1 + (i : Int) ∧ y * r.f1 + (i : Int) < (r.f4.length : Int)) ∧ ∃ h : i < (rowC r y).length, (rowC r y)[i] = rd r.f4 (y * r.f1 + (i : Int)) := by
  have hw := hr.w
  have ha := area hr
  have hst := hr.st
  have m0 : 0 ≤ y * r.f1 := Int.mul_nonneg h0 (by omega)
  have m1 : (y + 1) * r.f1 = y * r.f1 + r.f1 := by rw [Int.add_mul, Int.one_mul]
  have m2 : (y + 1) * r.f1 ≤ r.f2 * r.f1 := Int.mul_le_mul_of_nonneg_right (by omega) (by omega)
  rw [Int.mul_comm r.f2 r.f1] at m2
  have hl : (rowC r y).length = r.f1.toNat := by unfold rowC; rw [List.length_drop, List.length_take]; omega
  refine ⟨hl, fun i hi => ⟨by omega, by omega, ?_⟩⟩
  have hj : (y * r.f1).toNat + i < r.f4.length := by omega
  have := rd_nat r.f4 ((y * r.f1).toNat + i) hj
  rw [show (((y * r.f1).toNat + i : Nat) : Int) = y * r.f1 + (i : Int) by omega] at this
  rw [this]
  unfold rowC
  rw [List.getElem_drop, List.getElem_take]
theorem w64two {n i : Int} (h0 : 0 ≤ n) (h1 : n ≤ 1000) (h2 : 0 ≤ n + i) (h3 : n + i ≤ 1000) : wrap64 (wrap64 n + i) = n + i := by rw [w64 (n := n) (by omega) (by omega), w64 (n := n + i) (by omega) (by omega)]
theorem ew_at (r : S26) (hr : VR r) (y : Int) (h0 : 0 ≤ y) (h1 : y < r.f2) (i : Nat) (hi : (i : Int) < r.f1) : wrap64 (wrap64 (y * r.f1) + (i : Int)) = y * r.f1 + (i : Int) := by
  obtain ⟨hw1, hw2⟩ := hr.w
  obtain ⟨ha1, ha2⟩ := area hr
  clear hr
  generalize r.f1 = a at *
  generalize r.f2 = b at *
  have m0 : 0 ≤ y * a := Int.mul_nonneg h0 (by omega)
  have m1 : (y + 1) * a = y * a + a := by rw [Int.add_mul, Int.one_mul]
  have m2 : (y + 1) * a ≤ b * a := Int.mul_le_mul_of_nonneg_right (by omega) (by omega)
  rw [Int.mul_comm b a] at m2
  exact w64two m0 (by omega) (by omega) (by omega)
theorem len_step {E : ByteArray} {z : List UInt8} {d : Nat} (h : E.data.toList.length + 2 * (d + 1) ≤ 220000) (hz : z.length = 1) : (E ++ B z).data.toList.length + 2 * d ≤ 220000 := by rw [dl, B_l, List.length_append, hz]; omega
theorem sz_one {E : ByteArray} {d : Nat} (h : E.data.toList.length + 2 * (d + 1) ≤ 220000) : E.size + 1 ≤ 9223372036854775807 := by rw [zl]; omega
theorem sz_two {E : ByteArray} {z : List UInt8} {d : Nat} (h : E.data.toList.length + 2 * (d + 1) ≤ 220000) (hz : z.length = 1) : E.size + (B z).size ≤ 9223372036854775807 := by rw [zl, zl, B_l, hz]; omega
theorem rf_l3 (r : S26) (hr : VR r) (lr : LR r) (y : Int) (h0 : 0 ≤ y) (h1 : y < r.f2) (res : ByteArray) (s : List UInt8) : ∀ (d i : Nat) (E : ByteArray), i + d = r.f1.toNat → E.data.toList.length + 2 * d ≤ 220000 → s = E.data.toList ++ (((rowC r y).drop i).flatMap (cell1 r) ++ [10]) →
    (∀ F : ByteArray, F.data.toList = s → Ev (fun k => gamehallref1_RulesText.l2 k F (y - 1) r.f0 r.f1 r.f2 r.f3 r.f4 r.f5 r.f6 r.f7 r.f8 r.f9 r.f10) res) →
    Ev (fun k => gamehallref1_RulesText.l3 k E y r.f1 (i : Int) r.f0 r.f1 r.f2 r.f3 r.f4 r.f5 r.f6 r.f7 r.f8 r.f9 r.f10) res := by
  have hw := hr.w
  have ht := hr.t
  have hh := hr.h
  obtain ⟨hcl, hat⟩ := rowC_at r hr y h0 h1
  have hst := hr.st
  have hya := area hr
  have m0 : 0 ≤ y * r.f1 := Int.mul_nonneg h0 (by omega)
  have m3 : y * r.f1 ≤ r.f2 * r.f1 := Int.mul_le_mul_of_nonneg_right (by omega) (by omega)
  rw [Int.mul_comm r.f2 r.f1] at m3
  intro d
  induction d with
  | zero =>
    intro i E hi hb hs k
    refine Ev.step (fun k => by rw [gamehallref1_RulesText.l3]) ?_
    rw [List.drop_of_length_le (by omega), List.flatMap_nil, List.nil_append] at hs
    refine ite (fun h => absurd h (by omega)) (fun _ => ?_)
    refine ite (fun _ => ?_) (fun h => absurd (by rw [zl]; omega) h)
    rw [w64 (n := y - 1) (by omega) (by omega)]
    exact k _ (by rw [hs, dl])
  | succ d ih =>
    intro i E hi hb hs k
    have hiw : (i : Int) < r.f1 := by omega
    have hwn := wn1 i (by omega)
    obtain ⟨⟨b0, b1⟩, hlt, hc⟩ := hat i hiw
    rw [List.drop_eq_getElem_cons hlt, List.flatMap_cons, hc] at hs
    have hcb := hst.2 (rd r.f4 (y * r.f1 + (i : Int))) (by rw [← hc]; exact List.mem_of_mem_take (List.mem_of_mem_drop (List.getElem_mem hlt)))
    have ew := ew_at r hr y h0 h1 i hiw
    have go : ∀ z : List UInt8, z = cell1 r (rd r.f4 (y * r.f1 + (i : Int))) → Ev (fun k => gamehallref1_RulesText.l3 k (E ++ B z) y r.f1 ((i + 1 : Nat) : Int) r.f0 r.f1 r.f2 r.f3 r.f4 r.f5 r.f6 r.f7 r.f8 r.f9 r.f10) res := by
      intro z hz
      refine ih (i + 1) (E ++ B z) (by rw [Nat.succ_add, ← Nat.add_succ]; exact hi) (len_step hb (by rw [hz, cell_le])) ?_ k
      rw [dl, B_l, hs, hz]; simp only [List.append_assoc]
    refine Ev.step (fun k => by rw [gamehallref1_RulesText.l3]) ?_
    rw [ew, hwn]
    generalize rd r.f4 (y * r.f1 + (i : Int)) = c at hcb go ⊢
    refine ite (fun _ => ?_) (fun h => absurd hiw h)
    refine ite (fun _ => ?_) (fun h => absurd b0 h)
    refine ite (fun _ => ?_) (fun h => absurd b1 h)
    refine ite (fun hz => ?_) (fun hz => ?_)
    · refine ite (fun _ => ?_) (fun h => absurd (sz_one hb) h)
      exact go [46] (by unfold cell1; rw [if_pos hz])
    · refine bind_now (letter_f r hr lr c (by omega) hcb.2) ?_
      refine ite (fun _ => ?_) (fun h => absurd (sz_two hb (cell_le r c)) h)
      exact go _ rfl
theorem rf_l2 (r : S26) (hr : VR r) (lr : LR r) : ∀ (n : Nat) (E : ByteArray), (n : Int) ≤ r.f2 → E.data.toList.length + 100 * n ≤ 200000 →
    Ev (fun k => gamehallref1_RulesText.l2 k E ((n : Int) - 1) r.f0 r.f1 r.f2 r.f3 r.f4 r.f5 r.f6 r.f7 r.f8 r.f9 r.f10) (B (E.data.toList ++ nl (rowsD r n ++ restF r))) := by
  have hw := hr.w
  intro n
  induction n with
  | zero =>
    intro E _ hb
    refine Ev.step (fun k => by rw [gamehallref1_RulesText.l2]) ?_
    refine ite (fun h => absurd h (by omega)) (fun _ => ?_)
    rw [rowsD, List.nil_append]
    unfold restF falls1
    refine ite (fun h => ?_) (fun h => ?_)
    · rw [if_pos h]
      refine ite (fun _ => ?_) (fun h => absurd (by rw [zl]; omega) h)
      have e := rf_j5 r hr lr (E ++ (⟨#[102, 97, 108, 108, 115, 10]⟩ : ByteArray)) (by rw [dl, List.length_append]; simp only [List.length_cons, List.length_nil]; omega)
      rw [dl, List.append_assoc] at e
      rw [nl_app, nl_one]; exact e
    · rw [if_neg h]; exact rf_j5 r hr lr E (by omega)
  | succ n ih =>
    intro E hm hb
    obtain ⟨hcl, _⟩ := rowC_at r hr (n : Int) (by omega) (by omega)
    have hl := cells_le r (rowC r (n : Int))
    refine Ev.step (fun k => by rw [gamehallref1_RulesText.l2]) ?_
    rw [show ((n + 1 : Nat) : Int) - 1 = (n : Int) by omega]
    refine ite (fun _ => ?_) (fun h => absurd (by omega) h)
    refine ite (fun _ => ?_) (fun h => absurd (by rw [zl]; omega) h)
    refine rf_l3 r hr lr (n : Int) (by omega) (by omega) _ (E.data.toList ++ (row1 r (n : Int) ++ [10])) r.f1.toNat 0 (E ++ (⟨#[114, 111, 119, 32]⟩ : ByteArray)) (by omega) (by rw [dl, List.length_append]; simp only [List.length_cons, List.length_nil]; omega) ?_ (fun F hF => ?_)
    · rw [dl, List.drop_zero]; unfold row1; simp only [List.append_assoc]
    · have e := ih F (by omega) (by rw [hF]; unfold row1; simp only [List.length_append, List.length_cons, List.length_nil]; omega)
      rw [hF] at e
      rw [rowsD, List.cons_append, nl_cons]
      simp only [List.append_assoc] at e ⊢
      exact e
theorem rf_l1 (r : S26) (ps : List S38) (x30 x31 : Int) (ws : List S47) (hn : ws.length ≤ 16) (hw : ∀ w ∈ ws, -7 ≤ w.f0 ∧ w.f0 ≤ 7 ∧ -7 ≤ w.f1 ∧ w.f1 ≤ 7 ∧ 1 ≤ w.f2 ∧ w.f2 ≤ 7 ∧ 0 ≤ w.f3 ∧ w.f3 ≤ 2) (res : ByteArray) (s : List UInt8)
    (k : ∀ F : ByteArray, F.data.toList = s → Ev (fun k => gamehallref1_RulesText.l0 k F ps x30 (wrap64 (x31 + 1)) r.f0 r.f1 r.f2 r.f3 r.f4 r.f5 r.f6 r.f7 r.f8 r.f9 r.f10) res) : ∀ (d i : Nat) (E : ByteArray), i + d = ws.length → E.data.toList.length + 60 * d ≤ 190000 → s = E.data.toList ++ nl ((ws.drop i).map way1) →
    Ev (fun k => gamehallref1_RulesText.l1 k E ps x30 x31 ws (ws.length : Int) (i : Int) r.f0 r.f1 r.f2 r.f3 r.f4 r.f5 r.f6 r.f7 r.f8 r.f9 r.f10) res := by
  intro d
  induction d with
  | zero =>
    intro i E hi _ hs
    refine Ev.step (fun k => by rw [gamehallref1_RulesText.l1]) ?_
    rw [List.drop_of_length_le (by omega)] at hs
    refine ite (fun h => absurd h (by omega)) (fun _ => k E ?_)
    rw [hs]; simp [nl]
  | succ d ih =>
    intro i E hi hb hs
    have hi1 : i < ws.length := by omega
    have hi2 : (i : Int) < (ws.length : Int) := by omega
    have hwn := wn1 i (by omega)
    have hx := hw ws[i] (List.getElem_mem hi1)
    rw [List.drop_eq_getElem_cons hi1, List.map_cons, nl_cons] at hs
    refine Ev.step (fun k => by rw [gamehallref1_RulesText.l1]) ?_
    rw [rdW ws i hi1, hwn]
    generalize ws[i] = x at hx hs ⊢
    obtain ⟨a0, a1, b0, b1, c0, c1, t0, t1⟩ := hx
    have la := it_le x.f0 (by omega) (by omega)
    have lb := it_le x.f1 (by omega) (by omega)
    have lc := it_le x.f2 (by omega) (by omega)
    have lt := take_le x.f3 t0 t1
    have et : (rdOf ByteArray.empty takesL x.f3).data.toList = takeT x.f3 := rfl
    have go : ∀ F : ByteArray, F.data.toList = E.data.toList ++ (way1 x ++ [10]) → Ev (fun k => gamehallref1_RulesText.l1 k F ps x30 x31 ws (ws.length : Int) ((i + 1 : Nat) : Int) r.f0 r.f1 r.f2 r.f3 r.f4 r.f5 r.f6 r.f7 r.f8 r.f9 r.f10) res := by
      intro F hF
      have hwl : (way1 x).length ≤ 33 := by unfold way1; simp only [List.length_append, List.length_cons, List.length_nil]; omega
      refine ih (i + 1) F (by omega) (by rw [hF, List.length_append, List.length_append]; simp only [List.length_cons, List.length_nil]; omega) ?_
      rw [hs, hF]; simp only [List.append_assoc]
    refine ite (fun _ => ?_) (fun h => absurd hi2 h)
    refine ite (fun _ => ?_) (fun h => absurd (Int.natCast_nonneg _) h)
    refine ite (fun _ => ?_) (fun h => absurd hi2 h)
    refine Ev.bind (dec_f x.f0 (by omega) (by omega)) ?_
    refine ite (fun _ => ?_) (fun h => absurd (by simp only [zl, dl, B_l, et, List.length_append, List.length_cons, List.length_nil]; omega) h)
    refine ite (fun _ => ?_) (fun h => absurd (by simp only [zl, dl, B_l, et, List.length_append, List.length_cons, List.length_nil]; omega) h)
    refine Ev.bind (dec_f x.f1 (by omega) (by omega)) ?_
    refine ite (fun _ => ?_) (fun h => absurd (by simp only [zl, dl, B_l, et, List.length_append, List.length_cons, List.length_nil]; omega) h)
    refine ite (fun _ => ?_) (fun h => absurd (by simp only [zl, dl, B_l, et, List.length_append, List.length_cons, List.length_nil]; omega) h)
    refine Ev.bind (dec_f x.f2 (by omega) (by omega)) ?_
    refine ite (fun _ => ?_) (fun h => absurd (by simp only [zl, dl, B_l, et, List.length_append, List.length_cons, List.length_nil]; omega) h)
    refine ite (fun _ => ?_) (fun h => absurd (by simp only [zl, dl, B_l, et, List.length_append, List.length_cons, List.length_nil]; omega) h)
    refine bind_now (a := takesL) rfl ?_
    refine ite (fun _ => ?_) (fun h => absurd t0 h)
    refine ite (fun _ => ?_) (fun h => absurd (show x.f3 < (3 : Int) by omega) h)
    refine ite (fun _ => ?_) (fun h => absurd (by simp only [zl, dl, B_l, et, List.length_append, List.length_cons, List.length_nil]; omega) h)
    refine ite (fun _ => ?_) (fun h => absurd (by simp only [zl, dl, B_l, et, List.length_append, List.length_cons, List.length_nil]; omega) h)
    refine ite (fun _ => ?_) (fun h => absurd (by simp only [zl, dl, B_l, et, List.length_append, List.length_cons, List.length_nil]; omega) h)
    refine go _ ?_
    unfold way1
    simp only [dl, B_l, et, List.append_assoc]
theorem rf_l0 (r : S26) (hr : VR r) (lr : LR r) : ∀ (d i : Nat) (E : ByteArray), i + d = r.f3.length → E.data.toList.length + 2000 * d ≤ 150000 →
    Ev (fun k => gamehallref1_RulesText.l0 k E r.f3 (r.f3.length : Int) (i : Int) r.f0 r.f1 r.f2 r.f3 r.f4 r.f5 r.f6 r.f7 r.f8 r.f9 r.f10) (B (E.data.toList ++ nl ((r.f3.drop i).flatMap (pieceL r) ++ (rowsD r r.f2.toNat ++ restF r)))) := by
  have hh := hr.h
  have ht := hr.t
  intro d
  induction d with
  | zero =>
    intro i E hi hb
    refine Ev.step (fun k => by rw [gamehallref1_RulesText.l0]) ?_
    rw [List.drop_of_length_le (by omega), List.flatMap_nil, List.nil_append]
    refine ite (fun h => absurd h (by omega)) (fun _ => ?_)
    have e := rf_l2 r hr lr r.f2.toNat E (by omega) (by omega)
    rw [show ((r.f2.toNat : Nat) : Int) - 1 = r.f2 - 1 by omega] at e
    rw [w64 (n := r.f2 - 1) (by omega) (by omega)]
    exact e
  | succ d ih =>
    intro i E hi hb
    have hi1 : i < r.f3.length := by omega
    have hi2 : (i : Int) < (r.f3.length : Int) := by omega
    have hwn := wn1 i (by omega)
    have hq := hr.pc _ (List.getElem_mem hi1)
    have hl0 : 65 ≤ r.f3[i].f0 ∧ r.f3[i].f0 ≤ 90 := by have := rdL lr (i : Int) (by omega) (by omega); rw [rdP r.f3 i hi1] at this; exact this
    rw [List.drop_eq_getElem_cons hi1, List.flatMap_cons, List.append_assoc, nl_app]
    refine Ev.step (fun k => by rw [gamehallref1_RulesText.l0]) ?_
    rw [rdP r.f3 i hi1]
    generalize r.f3[i] = p at hq hl0 ⊢
    obtain ⟨a, b, c, d2, e0, f⟩ := hq
    have hw : ∀ w ∈ p.f3, -7 ≤ w.f0 ∧ w.f0 ≤ 7 ∧ -7 ≤ w.f1 ∧ w.f1 ≤ 7 ∧ 1 ≤ w.f2 ∧ w.f2 ≤ 7 ∧ 0 ≤ w.f3 ∧ w.f3 ≤ 2 := fun w h => by have := f w h; omega
    obtain ⟨p1, p2⟩ := piece_le r p ⟨a, b⟩ (by omega) hw
    have la := it_le p.f1 (by omega) (by omega)
    have pc1 : (piece1 r p).length ≤ 17 := by
      unfold piece1
      have : (if p.f2 > 0 then [U (L r (p.f2 - 1))] else [45]).length = 1 := by split <;> rfl
      simp only [List.length_append, List.length_cons, List.length_nil, this]; omega
    have j1 : ∀ F : ByteArray, F.data.toList = E.data.toList ++ (piece1 r p ++ [10]) → Ev (fun k => gamehallref1_RulesText.j1 k F r.f3 (r.f3.length : Int) (i : Int) r.f0 r.f1 r.f2 r.f3 r.f4 r.f5 r.f6 r.f7 r.f8 r.f9 r.f10 p.f0 p.f1 p.f2 p.f3) (B (E.data.toList ++ (nl (pieceL r p) ++ nl ((r.f3.drop (i + 1)).flatMap (pieceL r) ++ (rowsD r r.f2.toNat ++ restF r))))) := by
      intro F hF
      refine Ev.step (fun k => by rw [gamehallref1_RulesText.j1]) ?_
      refine rf_l1 r r.f3 (r.f3.length : Int) (i : Int) p.f3 (by omega) hw _ (E.data.toList ++ nl (pieceL r p)) (fun G hG => ?_) p.f3.length 0 F (by omega) (by rw [hF, List.length_append, List.length_append]; simp only [List.length_cons, List.length_nil]; omega) ?_
      · rw [hwn]
        have e := ih (i + 1) G (by omega) (by rw [hG, List.length_append]; omega)
        rw [hG] at e
        simp only [List.append_assoc] at e ⊢
        exact e
      · rw [hF, List.drop_zero]; unfold pieceL; rw [nl_cons]; simp only [List.append_assoc]
    refine ite (fun _ => ?_) (fun h => absurd hi2 h)
    refine ite (fun _ => ?_) (fun h => absurd (Int.natCast_nonneg _) h)
    refine ite (fun _ => ?_) (fun h => absurd hi2 h)
    refine bind_now (a := [p.f0]) rfl ?_
    rw [strB]
    refine ite (fun _ => ?_) (fun h => absurd (by simp only [zl, dl, B_l, List.length_append, List.length_cons, List.length_nil]; omega) h)
    refine ite (fun _ => ?_) (fun h => absurd (by simp only [zl, dl, B_l, List.length_append, List.length_cons, List.length_nil]; omega) h)
    refine Ev.bind (dec_f p.f1 (by omega) (by omega)) ?_
    refine ite (fun _ => ?_) (fun h => absurd (by simp only [zl, dl, B_l, List.length_append, List.length_cons, List.length_nil]; omega) h)
    refine ite (fun _ => ?_) (fun h => absurd (by simp only [zl, dl, B_l, List.length_append, List.length_cons, List.length_nil]; omega) h)
    refine ite (fun _ => ?_) (fun h => absurd (by simp only [zl, dl, B_l, List.length_append, List.length_cons, List.length_nil]; omega) h)
    refine ite (fun hz => ?_) (fun hz => ?_)
    · refine ite (fun _ => ?_) (fun h => absurd (by simp only [zl, dl, B_l, List.length_append, List.length_cons, List.length_nil]; omega) h)
      refine j1 _ ?_
      unfold piece1; rw [if_neg (by omega)]
      simp only [dl, B_l, List.append_assoc]; rfl
    · have hwp : wrap64 (p.f2 - 1) = p.f2 - 1 := w64 (by omega) (by omega)
      rw [hwp]
      refine ite (fun _ => ?_) (fun h => absurd (by omega) h)
      refine ite (fun _ => ?_) (fun h => absurd (by omega) h)
      refine bind_now (a := [L r (p.f2 - 1)]) rfl ?_
      rw [strB]
      refine ite (fun _ => ?_) (fun h => absurd (by simp only [zl, dl, B_l, List.length_append, List.length_cons, List.length_nil]; omega) h)
      refine ite (fun _ => ?_) (fun h => absurd (by simp only [zl, dl, B_l, List.length_append, List.length_cons, List.length_nil]; omega) h)
      refine j1 _ ?_
      unfold piece1; rw [if_pos (by omega)]
      simp only [dl, B_l, List.append_assoc]
theorem ref_f (r : S26) (hr : VR r) (lr : LR r) (hN : r.f0.data.toList.length ≤ 8) : Ev (fun k => gamehallref1_RulesText.f k r.f0 r.f1 r.f2 r.f3 r.f4 r.f5 r.f6 r.f7 r.f8 r.f9 r.f10) (B (allT r)) := by
  have hw := hr.w
  have hh := hr.h
  have ht := hr.t
  have la := it_le r.f1 (by omega) (by omega)
  have lb := it_le r.f2 (by omega) (by omega)
  unfold gamehallref1_RulesText.f
  refine ite (fun _ => ?_) (fun h => absurd (by simp only [zl, dl, B_l, List.length_append, List.length_cons, List.length_nil]; omega) h)
  refine ite (fun _ => ?_) (fun h => absurd (by simp only [zl, dl, B_l, List.length_append, List.length_cons, List.length_nil]; omega) h)
  refine Ev.bind (dec_f r.f1 (by omega) (by omega)) ?_
  refine ite (fun _ => ?_) (fun h => absurd (by simp only [zl, dl, B_l, List.length_append, List.length_cons, List.length_nil]; omega) h)
  refine ite (fun _ => ?_) (fun h => absurd (by simp only [zl, dl, B_l, List.length_append, List.length_cons, List.length_nil]; omega) h)
  refine Ev.bind (dec_f r.f2 (by omega) (by omega)) ?_
  refine ite (fun _ => ?_) (fun h => absurd (by simp only [zl, dl, B_l, List.length_append, List.length_cons, List.length_nil]; omega) h)
  refine ite (fun _ => ?_) (fun h => absurd (by simp only [zl, dl, B_l, List.length_append, List.length_cons, List.length_nil]; omega) h)
  have go : ∀ E : ByteArray, E.data.toList = game1 r ++ [10] → Ev (fun k => gamehallref1_RulesText.l0 k E r.f3 (r.f3.length : Int) 0 r.f0 r.f1 r.f2 r.f3 r.f4 r.f5 r.f6 r.f7 r.f8 r.f9 r.f10) (B (allT r)) := by
    intro E hE
    have hg : (game1 r).length ≤ 40 := by unfold game1; simp only [List.length_append, List.length_cons, List.length_nil]; omega
    have e := rf_l0 r hr lr r.f3.length 0 E (by omega) (by rw [hE, List.length_append]; simp only [List.length_cons, List.length_nil]; omega)
    rw [List.drop_zero, hE, List.append_assoc] at e
    unfold allT; rw [nl_cons]; exact e
  exact go _ (by unfold game1; simp only [dl, B_l, List.append_assoc])
/-! the law -/
theorem ev_uniq {α : Type} {g : Nat → Option α} {a b : α} (h1 : Ev g a) (h2 : Ev g b) : a = b := by
  obtain ⟨K, h1⟩ := h1
  obtain ⟨M, h2⟩ := h2
  exact Option.some.inj ((h1 (max K M) (Nat.le_max_left _ _)).symm.trans (h2 (max K M) (Nat.le_max_right _ _)))
theorem name_8 (s : ByteArray) (h : Ev (fun k => rules_Name.f k s) true) : s.data.toList.length ≤ 8 := by
  apply Classical.byContradiction
  intro hn
  have hz : ¬ s.toList = [] := by
    rw [ByteArray.toList_eq]; intro e; rw [e] at hn; simp at hn
  have : Ev (fun k => rules_Name.f k s) false := by
    unfold rules_Name.f
    refine ite (fun h => absurd h hz) (fun _ => ?_)
    refine ite (fun _ => ?_) (fun h => absurd (by rw [zl]; omega) h)
    refine Ev.step (fun k => by rw [rules_Name.j0]) ?_
    exact ite (fun _ => now rfl) (fun h => absurd rfl h)
  have := ev_uniq h this
  cases this
theorem nil_b : (⟨#[]⟩ : ByteArray).toList = [] := by rw [ByteArray.toList_eq]
theorem both (r : S26) (hw : wf26 r) : ∃ e, Ev (fun k => rules_Check.f k r.f0 r.f1 r.f2 r.f3 r.f4 r.f5 r.f6 r.f7 r.f8 r.f9 r.f10) e ∧ Ev (fun k => gamehallref1_RulesError.f k r.f0 r.f1 r.f2 r.f3 r.f4 r.f5 r.f6 r.f7 r.f8 r.f9 r.f10) e ∧ (e = 0 → Ev (fun k => ruletext_Print.f k r.f0 r.f1 r.f2 r.f3 r.f4 r.f5 r.f6 r.f7 r.f8 r.f9 r.f10) (B (allT r), 0) ∧ Ev (fun k => gamehallref1_RulesText.f k r.f0 r.f1 r.f2 r.f3 r.f4 r.f5 r.f6 r.f7 r.f8 r.f9 r.f10) (B (allT r))) := by
  obtain ⟨b, h1, h2⟩ := Rc.name_ev r.f0 (by have := hw.1; simpa using this)
  refine ⟨_, Rc.check_f r hw b h1, Rc.check_ref r hw b h2, fun h => ?_⟩
  cases b
  · simp at h
  · have hb : Rc.bodyE r = 0 := by simpa using h
    have hc := Rc.check_f r hw true h1
    rw [h] at hc
    have vr := vr_of r hb
    have lr := lr_of r hb
    have n8 := name_8 r.f0 h1
    exact ⟨print_f r vr lr n8 hc, ref_f r vr lr n8⟩
def tic : S26 := ⟨⟨#[84, 73, 67]⟩, 3, 3, [⟨65, 5, 0, []⟩], List.replicate 9 0, false, false, [⟨0, 0, 3, false⟩], 2, 0, 0⟩
theorem evOf {α : Type} {g : Nat → Option α} {r : α} (hg : ∀ k, LeO (g k) (g (k + 1))) {k : Nat} (h : g k = some r) : Ev g r := by
  refine ⟨k, fun n hn => ?_⟩
  induction n with
  | zero => obtain rfl : k = 0 := by omega
            exact h
  | succ n ih =>
    by_cases hk : k ≤ n
    · exact hg n r (ih hk)
    · obtain rfl : k = n + 1 := by omega
      exact h
set_option maxRecDepth 100000 in
theorem tic_c : Ev (fun k => rules_Check.f k tic.f0 tic.f1 tic.f2 tic.f3 tic.f4 tic.f5 tic.f6 tic.f7 tic.f8 tic.f9 tic.f10) 0 := by
  exact evOf (fun k => rules_Check.mono _ _ _ _ _ _ _ _ _ _ _ k) (k := 100) (by decide +kernel)
theorem tic_wf : wf26 tic := by
  refine ⟨by decide, by decide, by decide, ⟨by decide, ?_⟩, ⟨by decide, ?_⟩, trivial, trivial, ⟨by decide, ?_⟩, by decide, by decide, by decide⟩
  · intro y hy
    obtain rfl := List.mem_singleton.1 hy
    exact ⟨by decide, by decide, by decide, by decide, fun q hq => by cases hq⟩
  · intro y hy
    obtain rfl := List.eq_of_mem_replicate hy
    decide
  · intro y hy
    obtain rfl := List.mem_singleton.1 hy
    exact ⟨by decide, by decide, by decide, trivial⟩
theorem law_f (r : S26) (hw : wf26 r) : Ev (fun k => gamehalllaw1_RuletextPrints.f k r.f0 r.f1 r.f2 r.f3 r.f4 r.f5 r.f6 r.f7 r.f8 r.f9 r.f10) true := by
  obtain ⟨e, h1, h2, h3⟩ := both r hw
  obtain ⟨et, t1, t2, t3⟩ := both tic tic_wf
  obtain ⟨t4, t5⟩ := t3 (ev_uniq t1 tic_c)
  unfold gamehalllaw1_RuletextPrints.f
  have T : gamehalllaw1_three.f = some (tic.f0, tic.f1, tic.f2, tic.f3, tic.f4, tic.f5, tic.f6, tic.f7, tic.f8, tic.f9, tic.f10) := rfl
  refine bind_now T ?_
  refine Ev.bind t4 ?_
  refine ite (fun _ => ?_) (fun h => absurd rfl h)
  refine bind_now T ?_
  refine Ev.bind t5 ?_
  refine Ev.step (fun k => by rw [gamehalllaw1_RuletextPrints.j0]) ?_
  refine ite (fun h => absurd h (by simp)) (fun _ => ?_)
  by_cases h0 : e = 0
  · subst h0
    obtain ⟨a, b⟩ := h3 rfl
    refine Ev.bind a ?_
    refine Ev.bind h2 ?_
    refine ite (fun _ => ?_) (fun h => absurd rfl h)
    refine ite (fun _ => ?_) (fun h => absurd rfl h)
    exact Ev.bind b (now (by simp))
  · have a : Ev (fun k => ruletext_Print.f k r.f0 r.f1 r.f2 r.f3 r.f4 r.f5 r.f6 r.f7 r.f8 r.f9 r.f10) ((⟨#[]⟩ : ByteArray), e) := by
      unfold ruletext_Print.f
      refine Ev.bind h1 ?_
      exact ite (fun h => absurd h h0) (fun _ => now rfl)
    refine Ev.bind a ?_
    refine Ev.bind h2 ?_
    refine ite (fun h => absurd h h0) (fun _ => ?_)
    exact ite (fun _ => now (by rw [nil_b]; rfl)) (fun h => absurd rfl h)
end Co
theorem RuletextPrints : gamehalllaw1_RuletextPrints.Pure := by
  intro x0 h0
  obtain ⟨K, e⟩ := Co.law_f x0 h0
  exact ⟨K, e K (Nat.le_refl K)⟩
end Go.Proofs.YtkkgpabjpnkjjaaDoor.Pure
