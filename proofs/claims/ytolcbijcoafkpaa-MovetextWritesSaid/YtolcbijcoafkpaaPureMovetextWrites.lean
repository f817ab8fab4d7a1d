/- MovetextWrites: the plain law. -/
import Derived.Test.YtolcbijcoafkpaaMoveText
namespace Go.Proofs.Ytolcbijcoafkpaa.Pure
open Go.RowKit Go.Proofs.Ytolcbijcoafkpaa.PMovetextWrites Go.Proofs.YtolcbijcoafkpaaW.PrintWords Go.Proofs.YtolcbijcoafkpaaW.PrintLast
set_option linter.unusedSimpArgs false
set_option linter.unusedVariables false
namespace Co
open Aid
theorem nil_b : (⟨#[]⟩ : ByteArray).toList = [] := by rw [ByteArray.toList_eq]
theorem eqM (x m : S37) : (x.f0 == m.f0 && (x.f1 == m.f1 && (x.f2 == m.f2))) = true ↔ x = m := by
  cases x; cases m
  simp only [Bool.and_eq_true, beq_iff_eq, S37.mk.injEq]
theorem Text_l0 (r : S26) (p : S29) (hr : VR r) (hp : VP r p) (l : List S37) (hl : l.length ≤ 100000) (hx : ∀ x ∈ l, MI r p x) (m : S37) : ∀ (d i : Nat), i + d = l.length →
    Ev (fun k => movetext_Text.l0 k l (l.length : Int) (i : Int) r.f0 r.f1 r.f2 r.f3 r.f4 r.f5 r.f6 r.f7 r.f8 r.f9 r.f10 p.f0 p.f1.f0 p.f1.f1 p.f2 p.f3 m.f0 m.f1 m.f2) (if m ∈ l.drop i then (txt r p l m, 0) else ((⟨#[]⟩ : ByteArray), 13)) := by
  intro d
  induction d with
  | zero =>
    intro i hi
    refine Ev.step (fun k => by rw [movetext_Text.l0]) ?_
    rw [List.drop_of_length_le (by omega), if_neg (by simp)]
    exact ite (fun h => absurd h (by omega)) (fun _ => now rfl)
  | succ d ih =>
    intro i hi
    have hi1 : i < l.length := by omega
    have hi2 : (i : Int) < (l.length : Int) := by omega
    have hmx := hx l[i] (List.getElem_mem hi1)
    have hgx := rdM l i hi1
    have hwn := wn1 i (by omega)
    rw [List.drop_eq_getElem_cons hi1]
    refine Ev.step (fun k => by rw [movetext_Text.l0]) ?_
    refine ite (fun _ => ?_) (fun h => absurd hi2 h)
    refine ite (fun _ => ?_) (fun h => absurd (Int.natCast_nonneg _) h)
    refine ite (fun _ => ?_) (fun h => absurd hi2 h)
    rw [hgx, hwn]
    generalize l[i] = x at hmx ⊢
    refine ite (fun h => ?_) (fun h => ?_)
    · have hm := (eqM x m).1 h
      rw [hm] at hmx
      rw [if_pos (by rw [hm]; simp)]
      exact Ev.bind (text_f r p hr hp l hl hx m hmx) (now rfl)
    · have hm : ¬ x = m := fun q => h ((eqM x m).2 q)
      have e := ih (i + 1) (by omega)
      by_cases hd : m ∈ l.drop (i + 1)
      · rw [if_pos hd] at e
        rw [if_pos (by simp [hd])]; exact e
      · rw [if_neg hd] at e
        rw [if_neg (by simp [hd]; exact fun q => hm q.symm)]; exact e
theorem Text_f (r : S26) (p : S29) (hr : VR r) (hp : VP r p) (hc : Ev (fun k => place_Check.f k r.f0 r.f1 r.f2 r.f3 r.f4 r.f5 r.f6 r.f7 r.f8 r.f9 r.f10 p.f0 p.f1.f0 p.f1.f1 p.f2 p.f3) 0) (m : S37) : Ev (fun k => movetext_Text.f k r.f0 r.f1 r.f2 r.f3 r.f4 r.f5 r.f6 r.f7 r.f8 r.f9 r.f10 p.f0 p.f1.f0 p.f1.f1 p.f2 p.f3 m.f0 m.f1 m.f2) (if m ∈ onceM (rawM r p) then (txt r p (onceM (rawM r p)) m, 0) else ((⟨#[]⟩ : ByteArray), 13)) := by
  obtain ⟨hl, hx⟩ := once_in r p hr hp
  unfold movetext_Text.f
  refine Ev.bind hc ?_
  refine ite (fun _ => ?_) (fun h => absurd rfl h)
  refine Ev.bind (gen_f r p hr hp) ?_
  have h := Text_l0 r p hr hp _ hl hx m _ 0 (Nat.zero_add _)
  rw [List.drop_zero] at h
  exact h
theorem Text_no (r : S26) (p : S29) (m : S37) (e : Int) (he : e ≠ 0) (hc : Ev (fun k => place_Check.f k r.f0 r.f1 r.f2 r.f3 r.f4 r.f5 r.f6 r.f7 r.f8 r.f9 r.f10 p.f0 p.f1.f0 p.f1.f1 p.f2 p.f3) e) : Ev (fun k => movetext_Text.f k r.f0 r.f1 r.f2 r.f3 r.f4 r.f5 r.f6 r.f7 r.f8 r.f9 r.f10 p.f0 p.f1.f0 p.f1.f1 p.f2 p.f3 m.f0 m.f1 m.f2) ((⟨#[]⟩ : ByteArray), e) := by
  unfold movetext_Text.f
  refine Ev.bind hc ?_
  exact ite (fun h => absurd h he) (fun _ => now rfl)
/-! slices.Contains -/
theorem idx_f (l : List S37) (m : S37) (hl : l.length ≤ 100000) : ∀ (d i : Nat), i + d = l.length → ∃ v, Ev (fun k => api_Move_37.l0 k l (l.length : Int) (i : Int) m.f0 m.f1 m.f2) v ∧ (v ≥ 0 ↔ m ∈ l.drop i) := by
  intro d
  induction d with
  | zero =>
    intro i hi
    refine ⟨-1, Ev.step (fun k => by rw [api_Move_37.l0]) (ite (fun h => absurd h (by omega)) (fun _ => now rfl)), ?_⟩
    rw [List.drop_of_length_le (by omega)]; simp
  | succ d ih =>
    intro i hi
    have hi1 : i < l.length := by omega
    have hi2 : (i : Int) < (l.length : Int) := by omega
    obtain ⟨v, hv, hm⟩ := ih (i + 1) (by omega)
    rw [← wn1 i (by omega)] at hv
    have hg := rdM l i hi1
    rw [List.drop_eq_getElem_cons hi1, ← hg]
    by_cases he : m = rd_T37 l (i : Int)
    · refine ⟨(i : Int), Ev.step (fun k => by rw [api_Move_37.l0]) ?_, ?_⟩
      · refine ite (fun _ => ?_) (fun h => absurd hi2 h)
        refine ite (fun _ => ?_) (fun h => absurd (Int.natCast_nonneg _) h)
        refine ite (fun _ => ?_) (fun h => absurd hi2 h)
        exact ite (fun _ => now rfl) (fun h => absurd ((eqM m _).2 he) h)
      · exact ⟨fun _ => by rw [he]; simp, fun _ => by omega⟩
    · refine ⟨v, Ev.step (fun k => by rw [api_Move_37.l0]) ?_, ?_⟩
      · refine ite (fun _ => ?_) (fun h => absurd hi2 h)
        refine ite (fun _ => ?_) (fun h => absurd (Int.natCast_nonneg _) h)
        refine ite (fun _ => ?_) (fun h => absurd hi2 h)
        exact ite (fun h => absurd ((eqM m _).1 h) he) (fun _ => hv)
      · rw [hm]; simp [he]
theorem legal_f (r : S26) (p : S29) (hr : VR r) (hp : VP r p) (m : S37) (hc : Ev (fun k => place_Check.f k r.f0 r.f1 r.f2 r.f3 r.f4 r.f5 r.f6 r.f7 r.f8 r.f9 r.f10 p.f0 p.f1.f0 p.f1.f1 p.f2 p.f3) 0) : Ev (fun k => moves_Legal.f k r.f0 r.f1 r.f2 r.f3 r.f4 r.f5 r.f6 r.f7 r.f8 r.f9 r.f10 p.f0 p.f1.f0 p.f1.f1 p.f2 p.f3 m.f0 m.f1 m.f2) (decide (m ∈ onceM (rawM r p)), 0) := by
  obtain ⟨hl, hx⟩ := once_in r p hr hp
  unfold moves_Legal.f
  refine Ev.bind hc ?_
  refine ite (fun _ => ?_) (fun h => absurd rfl h)
  refine Ev.bind (gen_f r p hr hp) ?_
  obtain ⟨v, hv, hm⟩ := idx_f (onceM (rawM r p)) m hl _ 0 (Nat.zero_add _)
  rw [List.drop_zero] at hm
  have c : Ev (fun k => api_Move_26.f k (onceM (rawM r p)) m.f0 m.f1 m.f2) (decide (m ∈ onceM (rawM r p))) := by
    unfold api_Move_26.f api_Move_37.f
    exact Ev.bind hv (now (by rw [decide_eq_decide.2 hm]))
  exact Ev.bind c (now rfl)
theorem legal_no (r : S26) (p : S29) (m : S37) (e : Int) (he : e ≠ 0) (hc : Ev (fun k => place_Check.f k r.f0 r.f1 r.f2 r.f3 r.f4 r.f5 r.f6 r.f7 r.f8 r.f9 r.f10 p.f0 p.f1.f0 p.f1.f1 p.f2 p.f3) e) : Ev (fun k => moves_Legal.f k r.f0 r.f1 r.f2 r.f3 r.f4 r.f5 r.f6 r.f7 r.f8 r.f9 r.f10 p.f0 p.f1.f0 p.f1.f1 p.f2 p.f3 m.f0 m.f1 m.f2) (false, e) := by
  unfold moves_Legal.f
  refine Ev.bind hc ?_
  exact ite (fun h => absurd h he) (fun _ => now rfl)
theorem j1_f (r : S26) (p : S29) (m : S37) (e : Int) (hc : Ev (fun k => place_Check.f k r.f0 r.f1 r.f2 r.f3 r.f4 r.f5 r.f6 r.f7 r.f8 r.f9 r.f10 p.f0 p.f1.f0 p.f1.f1 p.f2 p.f3) e) (hv : e = 0 → VR r ∧ VP r p) : Ev (fun k => gamehalllaw3_MovetextWrites.j1 k r.f0 r.f1 r.f2 r.f3 r.f4 r.f5 r.f6 r.f7 r.f8 r.f9 r.f10 p.f0 p.f1.f0 p.f1.f1 p.f2 p.f3 m.f0 m.f1 m.f2) true := by
  refine Ev.step (fun k => by rw [gamehalllaw3_MovetextWrites.j1]) ?_
  by_cases h0 : e = 0
  · subst h0
    obtain ⟨hr, hp⟩ := hv rfl
    have a := Text_f r p hr hp hc m
    have b := legal_f r p hr hp m hc
    by_cases hm : m ∈ onceM (rawM r p)
    · rw [if_pos hm] at a
      rw [decide_eq_true hm] at b
      refine Ev.bind a ?_
      refine Ev.bind b ?_
      refine ite (fun _ => ?_) (fun h => absurd rfl h)
      refine ite (fun _ => ?_) (fun h => absurd rfl h)
      refine ite (fun _ => ?_) (fun h => absurd rfl h)
      exact Ev.bind (ref_f r p hr hp hc m ((once_in r p hr hp).2 m hm)) (now (by simp))
    · rw [if_neg hm] at a
      rw [decide_eq_false hm] at b
      refine Ev.bind a ?_
      refine Ev.bind b ?_
      refine ite (fun _ => ?_) (fun h => absurd rfl h)
      refine ite (fun h => absurd h (by decide)) (fun _ => ?_)
      exact ite (fun _ => now (by rw [nil_b]; rfl)) (fun h => absurd rfl h)
  · refine Ev.bind (Text_no r p m e h0 hc) ?_
    refine Ev.bind (legal_no r p m e h0 hc) ?_
    refine ite (fun h => absurd h h0) (fun _ => ?_)
    exact ite (fun _ => now (by rw [nil_b]; rfl)) (fun h => absurd rfl h)
/-! three in a row -/
theorem evOf {α : Type} {g : Nat → Option α} {r : α} (hg : ∀ k, LeO (g k) (g (k + 1))) {k : Nat} (h : g k = some r) : Ev g r := by
  refine ⟨k, fun n hn => ?_⟩
  induction n with
  | zero => obtain rfl : k = 0 := by omega
            exact h
  | succ n ih =>
    by_cases hk : k ≤ n
    · exact hg n r (ih hk)
    · obtain rfl : k = n + 1 := by omega
      exact h
def tic : S26 := ⟨⟨#[84, 73, 67]⟩, 3, 3, [⟨83, 5, 0, []⟩], List.replicate 9 0, false, false, [⟨0, 0, 3, false⟩], 2, 0, 0⟩
def beg : S29 := ⟨List.replicate 9 0, ⟨[5], [5]⟩, 0, 0⟩
theorem tic_v : VR tic := ⟨by decide, by decide, by decide, by decide +kernel, by decide +kernel, by decide +kernel, by decide⟩
theorem beg_v : VP tic beg := ⟨by decide, by decide +kernel, by decide, by decide, by decide, by decide, by decide, by decide⟩
set_option maxRecDepth 100000 in
theorem beg_f : Ev (fun k => place_Begin.f k tic.f0 tic.f1 tic.f2 tic.f3 tic.f4 tic.f5 tic.f6 tic.f7 tic.f8 tic.f9 tic.f10) (beg.f0, beg.f1.f0, beg.f1.f1, beg.f2, beg.f3, 0) := by
  exact evOf (fun k => place_Begin.mono _ _ _ _ _ _ _ _ _ _ _ k) (k := 400) (by decide +kernel)
set_option maxRecDepth 100000 in
theorem beg_c : Ev (fun k => place_Check.f k tic.f0 tic.f1 tic.f2 tic.f3 tic.f4 tic.f5 tic.f6 tic.f7 tic.f8 tic.f9 tic.f10 beg.f0 beg.f1.f0 beg.f1.f1 beg.f2 beg.f3) 0 := by
  exact evOf (fun k => place_Check.mono _ _ _ _ _ _ _ _ _ _ _ _ _ _ _ _ k) (k := 400) (by decide +kernel)
theorem beg_m : (⟨-1, 4, 0⟩ : S37) ∈ onceM (rawM tic beg) := ((once_spec _).2 _).2 (by decide +kernel)
theorem beg_t (l : List S37) : ((txt tic beg l ⟨-1, 4, 0⟩).toList == ([83, 64, 98, 50] : List UInt8)) = true := by
  unfold txt
  rw [if_pos (by decide), ByteArray.toList_eq]
  decide +kernel
theorem writes_f : Ev (fun k => gamehalllaw3_writes.f k) true := by
  unfold gamehalllaw3_writes.f
  have T : gamehalllaw3_tic.f = some (tic.f0, tic.f1, tic.f2, tic.f3, tic.f4, tic.f5, tic.f6, tic.f7, tic.f8, tic.f9, tic.f10) := rfl
  refine bind_now T ?_
  refine Ev.bind beg_f ?_
  refine bind_now T ?_
  refine bind_now (a := (-1, 4, 0)) rfl ?_
  have t := Text_f tic beg tic_v beg_v beg_c ⟨-1, 4, 0⟩
  rw [if_pos beg_m] at t
  refine Ev.bind t ?_
  refine ite (fun _ => ?_) (fun h => absurd rfl h)
  refine ite (fun _ => ?_) (fun h => absurd rfl h)
  exact now (beg_t (onceM (rawM tic beg)))
theorem law_f (r : S26) (p : S29) (m : S37) (n : Int) (hr : wf26 r) (hp : wf29 p) : Ev (fun k => gamehalllaw3_MovetextWrites.f k r.f0 r.f1 r.f2 r.f3 r.f4 r.f5 r.f6 r.f7 r.f8 r.f9 r.f10 p.f0 p.f1.f0 p.f1.f1 p.f2 p.f3 m.f0 m.f1 m.f2 n) true := by
  obtain ⟨e0, e, h1, h2, h3, h4⟩ := place_one r p hr hp
  have J1 := j1_f r p m e h2 h4
  unfold gamehalllaw3_MovetextWrites.f
  refine Ev.bind writes_f ?_
  refine ite (fun _ => ?_) (fun h => absurd rfl h)
  refine bind_now (a := decide ((r.f4.length : Int) > 20)) rfl ?_
  refine ite (fun _ => now rfl) (fun _ => ?_)
  by_cases h0 : e0 = 0
  · have hv := h3 h0
    have ha := area hv
    have hl := hv.st.1
    by_cases hs : 0 ≤ n ∧ n < r.f1 * r.f2
    · have sq : Ev (fun k => movetext_Square.f k r.f0 r.f1 r.f2 r.f3 r.f4 r.f5 r.f6 r.f7 r.f8 r.f9 r.f10 n) (SQ r n, 0) := by
        unfold movetext_Square.f
        refine Ev.bind h1 ?_
        refine ite (fun _ => ?_) (fun h => absurd h0 h)
        rw [w64 (n := r.f1 * r.f2) (by omega) (by omega)]
        refine ite (fun h => absurd h (by omega)) (fun _ => ?_)
        refine ite (fun h => absurd h (by omega)) (fun _ => ?_)
        exact bind_now (square_f r hv n hs.1 hs.2) (now rfl)
      refine Ev.bind sq ?_
      refine Ev.bind h1 ?_
      refine ite (fun _ => ?_) (fun h => absurd h0 h)
      refine ite (fun h => absurd h (by omega)) (fun _ => ?_)
      rw [decide_eq_false (show ¬ n ≥ (r.f4.length : Int) by omega)]
      refine Ev.step (fun k => by rw [gamehalllaw3_MovetextWrites.j0]) ?_
      refine ite (fun h => absurd h (by decide)) (fun _ => ?_)
      refine ite (fun _ => ?_) (fun h => absurd rfl h)
      refine bind_now (ref_sq r hv n hs.1 hs.2) ?_
      exact ite (fun _ => J1) (fun h => absurd rfl h)
    · have sq : Ev (fun k => movetext_Square.f k r.f0 r.f1 r.f2 r.f3 r.f4 r.f5 r.f6 r.f7 r.f8 r.f9 r.f10 n) ((⟨#[]⟩ : ByteArray), 4) := by
        unfold movetext_Square.f
        refine Ev.bind h1 ?_
        refine ite (fun _ => ?_) (fun h => absurd h0 h)
        rw [w64 (n := r.f1 * r.f2) (by omega) (by omega)]
        refine ite (fun h => now rfl) (fun _ => ?_)
        exact ite (fun h => now rfl) (fun h => absurd (by omega) hs)
      refine Ev.bind sq ?_
      refine Ev.bind h1 ?_
      refine ite (fun _ => ?_) (fun h => absurd h0 h)
      have j0 : Ev (fun k => gamehalllaw3_MovetextWrites.j0 k n (⟨#[]⟩ : ByteArray) 4 true r.f0 r.f1 r.f2 r.f3 r.f4 r.f5 r.f6 r.f7 r.f8 r.f9 r.f10 p.f0 p.f1.f0 p.f1.f1 p.f2 p.f3 m.f0 m.f1 m.f2) true := by
        refine Ev.step (fun k => by rw [gamehalllaw3_MovetextWrites.j0]) ?_
        refine ite (fun _ => ?_) (fun h => absurd rfl h)
        refine ite (fun _ => ?_) (fun h => absurd rfl h)
        exact ite (fun _ => J1) (fun h => absurd nil_b h)
      refine ite (fun _ => j0) (fun h => ?_)
      rw [decide_eq_true (show n ≥ (r.f4.length : Int) by omega)]
      exact j0
  · have sq : Ev (fun k => movetext_Square.f k r.f0 r.f1 r.f2 r.f3 r.f4 r.f5 r.f6 r.f7 r.f8 r.f9 r.f10 n) ((⟨#[]⟩ : ByteArray), e0) := by
      unfold movetext_Square.f
      refine Ev.bind h1 ?_
      exact ite (fun h => absurd h h0) (fun _ => now rfl)
    refine Ev.bind sq ?_
    refine Ev.bind h1 ?_
    refine ite (fun h => absurd h h0) (fun _ => ?_)
    refine ite (fun _ => ?_) (fun h => absurd rfl h)
    exact ite (fun _ => J1) (fun h => absurd nil_b h)
end Co
theorem MovetextWrites : gamehalllaw3_MovetextWrites.Pure := by
  intro x0 x1 x2 a3 h0 h1 _ _
  obtain ⟨K, e⟩ := Co.law_f x0 x1 x2 a3 h0 h1
  exact ⟨K, e K (Nat.le_refl K)⟩
end Go.Proofs.Ytolcbijcoafkpaa.Pure
