/- moves.Gen returns the list of the reference. -/
import Derived.Test.YtloadbbndnmdlaaCoreRef
namespace Go.Proofs.Ytloadbbndnmdlaa.Pure
open Go.RowKit Go.Proofs.Ytloadbbndnmdlaa.PMovesAll Go.Proofs.YtloadbbndnmdlaaW.PrintWords Go.Proofs.YtloadbbndnmdlaaW.PrintLast
set_option linter.unusedSimpArgs false
set_option linter.unusedVariables false
namespace Co
open Aid
/-! sorted, each once -/
theorem ltM_tri (x y : S39) (h1 : ¬ ltM x y) (h2 : ¬ ltM y x) : x = y := by
  unfold ltM at *
  cases x; cases y
  simp only [S39.mk.injEq]
  simp only at h1 h2
  omega
theorem ltM_step (x y z : S39) (h1 : ¬ ltM y x) (h2 : ¬ ltM z y) (h3 : z ≠ y) : ltM x z := by
  have h4 : ltM y z := by
    by_cases h : ltM y z
    · exact h
    · exact absurd (ltM_tri z y h2 h) h3
  unfold ltM at *; omega
theorem upTo (d : Array S39) (hd : ∀ i j, i ≤ j → j < d.size → ¬ ltM d[j]! d[i]!) : ∀ m, m ≤ d.size → (Go.Lib.compactUpTo d m).Pairwise ltM ∧ (∀ x, x ∈ Go.Lib.compactUpTo d m ↔ ∃ j, j < m ∧ d[j]! = x) := by
  intro m
  induction m with
  | zero => intro _; simp [Go.Lib.compactUpTo]
  | succ m ih =>
    intro hm
    obtain ⟨h1, h2⟩ := ih (by omega)
    rw [Go.Lib.compactUpTo_succ]
    by_cases hk : Go.Lib.keeps d m = true
    · rw [if_pos hk]
      have hlt : ∀ x ∈ Go.Lib.compactUpTo d m, ltM x d[m]! := by
        intro x hx
        obtain ⟨j, hj, rfl⟩ := (h2 x).1 hx
        have hne : d[m]! ≠ d[m - 1]! := by
          have := hk
          simp only [Go.Lib.keeps, decide_eq_true_eq] at this
          rcases this with h | h
          · omega
          · exact h
        exact ltM_step _ _ _ (hd j (m - 1) (by omega) (by omega)) (hd (m - 1) m (by omega) (by omega)) hne
      refine ⟨List.pairwise_append.2 ⟨h1, by simp, fun a ha b hb => ?_⟩, fun x => ?_⟩
      · rw [List.mem_singleton.1 hb]; exact hlt a ha
      · rw [List.mem_append, h2 x]
        constructor
        · rintro (⟨j, hj, e⟩ | h)
          · exact ⟨j, by omega, e⟩
          · exact ⟨m, by omega, (List.mem_singleton.1 h).symm⟩
        · rintro ⟨j, hj, e⟩
          by_cases hjm : j = m
          · subst hjm; exact .inr (by simp [e])
          · exact .inl ⟨j, by omega, e⟩
    · rw [if_neg hk, List.append_nil]
      refine ⟨h1, fun x => ?_⟩
      rw [h2 x]
      have hq : m ≠ 0 ∧ d[m]! = d[m - 1]! := by
        have := hk
        simp only [Go.Lib.keeps, decide_eq_true_eq, not_or] at this
        exact ⟨this.1, Classical.not_not.1 this.2⟩
      constructor
      · rintro ⟨j, hj, e⟩; exact ⟨j, by omega, e⟩
      · rintro ⟨j, hj, e⟩
        by_cases hjm : j = m
        · subst hjm; exact ⟨j - 1, by omega, by rw [← hq.2]; exact e⟩
        · exact ⟨j, by omega, e⟩
theorem once_spec (xs : List S39) : (onceM xs).Pairwise ltM ∧ ∀ x, x ∈ onceM xs ↔ x ∈ xs := by
  have hs : (sortM xs).Pairwise (fun a b => (!(ltOf cmpM) b a) = true) := by
    refine List.pairwise_mergeSort (fun a b c h1 h2 => ?_) (fun a b => ?_) xs
    · simp only [Bool.not_eq_true', ltOfM'] at *
      unfold ltM at *; omega
    · simp only [Bool.or_eq_true, Bool.not_eq_true', ltOfM']
      unfold ltM; omega
  have hm : ∀ x, x ∈ sortM xs ↔ x ∈ xs := fun x => List.mem_mergeSort
  unfold onceM Go.Lib.compact
  generalize sortM xs = ys at *
  have hd : ∀ i j, i ≤ j → j < ys.toArray.size → ¬ ltM ys.toArray[j]! ys.toArray[i]! := by
    intro i j hij hj
    have hj' : j < ys.length := by simpa using hj
    by_cases e : i = j
    · subst e; unfold ltM; omega
    · have := List.pairwise_iff_getElem.1 hs i j (by omega) hj' (by omega)
      simp only [Bool.not_eq_true', ltOfM'] at this
      simpa [getElem!_pos, hj', show i < ys.length by omega] using this
  obtain ⟨h1, h2⟩ := upTo ys.toArray hd ys.length (by simp)
  refine ⟨h1, fun x => ?_⟩
  rw [h2 x, ← hm x]
  constructor
  · rintro ⟨j, hj, rfl⟩
    simp [getElem!_pos, hj]
  · intro hx
    obtain ⟨j, hj, e⟩ := List.getElem_of_mem hx
    exact ⟨j, hj, by simp [getElem!_pos, hj, e]⟩
theorem uniq : ∀ (a b : List S39), a.Pairwise ltM → b.Pairwise ltM → (∀ x, x ∈ a ↔ x ∈ b) → a = b
  | [], [], _, _, _ => rfl
  | [], y :: _, _, _, h => absurd ((h y).2 List.mem_cons_self) List.not_mem_nil
  | x :: _, [], _, _, h => absurd ((h x).1 List.mem_cons_self) List.not_mem_nil
  | x :: a, y :: b, ha, hb, h => by
    have ha' := List.pairwise_cons.1 ha
    have hb' := List.pairwise_cons.1 hb
    have irr : ∀ z, ¬ ltM z z := fun z => by unfold ltM; omega
    have e : x = y := by
      rcases List.mem_cons.1 ((h x).1 List.mem_cons_self) with e | e
      · exact e
      · rcases List.mem_cons.1 ((h y).2 List.mem_cons_self) with e2 | e2
        · exact e2.symm
        · have h1 := hb'.1 x e; have h2 := ha'.1 y e2
          exfalso; unfold ltM at *; omega
    subst e
    congr 1
    refine uniq a b ha'.2 hb'.2 (fun z => ⟨fun hz => ?_, fun hz => ?_⟩)
    · rcases List.mem_cons.1 ((h z).1 (List.mem_cons_of_mem _ hz)) with e | e
      · subst e; exact absurd (ha'.1 z hz) (irr z)
      · exact e
    · rcases List.mem_cons.1 ((h z).2 (List.mem_cons_of_mem _ hz)) with e | e
      · subst e; exact absurd (hb'.1 z hz) (irr z)
      · exact e
/-! the reference's list -/
theorem mem_movesL (r : S26) (p : S29) (m : S39) : m ∈ movesL r p ↔ allowB r p m = true := by
  unfold movesL mF mS mT
  simp only [List.mem_flatMap, List.mem_range'_1]
  constructor
  · rintro ⟨i, hi, s, hs, t, ht, h⟩
    split at h
    · rw [List.mem_singleton.1 h]; assumption
    · cases h
  · intro h
    have hin : inM r p m := by
      unfold allowB at h
      split at h
      · assumption
      · cases h
    obtain ⟨⟨a0, a1⟩, ⟨b0, b1⟩, c0, c1⟩ := hin
    refine ⟨(m.f0 + 1).toNat, ⟨by omega, by omega⟩, m.f1.toNat, ⟨by omega, by omega⟩, m.f2.toNat, ⟨by omega, by omega⟩, ?_⟩
    have e : (⟨((m.f0 + 1).toNat : Int) - 1, (m.f1.toNat : Int), (m.f2.toNat : Int)⟩ : S39) = m := by
      cases m; simp only [S39.mk.injEq]; simp only at a0 b0 c0; omega
    rw [e, if_pos h]; exact List.mem_singleton.2 rfl
theorem sorted_movesL (r : S26) (p : S29) : (movesL r p).Pairwise ltM := by
  have hT : ∀ f s t x, x ∈ mT r p f s t → x = ⟨f, s, (t : Int)⟩ := by
    intro f s t x h; unfold mT at h; split at h
    · exact List.mem_singleton.1 h
    · cases h
  have hS : ∀ f s x, x ∈ mS r p f s → x.f0 = f ∧ x.f1 = (s : Int) := by
    intro f s x h; unfold mS at h
    obtain ⟨t, _, h⟩ := List.mem_flatMap.1 h
    rw [hT _ _ _ _ h]; exact ⟨rfl, rfl⟩
  have hF : ∀ i x, x ∈ mF r p i → x.f0 = (i : Int) - 1 := by
    intro i x h; unfold mF at h
    obtain ⟨s, _, h⟩ := List.mem_flatMap.1 h
    exact (hS _ _ _ h).1
  unfold movesL
  rw [List.pairwise_flatMap]
  refine ⟨fun i _ => ?_, (List.pairwise_lt_range' (s := 0) (n := p.f0.length + 1)).imp (fun {a b} hab x hx y hy => ?_)⟩
  · unfold mF
    rw [List.pairwise_flatMap]
    refine ⟨fun s _ => ?_, (List.pairwise_lt_range' (s := 0) (n := p.f0.length)).imp (fun {a b} hab x hx y hy => ?_)⟩
    · unfold mS
      rw [List.pairwise_flatMap]
      refine ⟨fun t _ => ?_, (List.pairwise_lt_range' (s := 0) (n := r.f3.length)).imp (fun {a b} hab x hx y hy => ?_)⟩
      · unfold mT; split <;> simp
      · rw [hT _ _ _ _ hx, hT _ _ _ _ hy]; unfold ltM; simp; omega
    · have h1 := hS _ _ _ hx; have h2 := hS _ _ _ hy
      unfold ltM; omega
  · have h1 := hF _ _ hx; have h2 := hF _ _ hy
    unfold ltM; omega
/-! the same moves -/
theorem lowB_iff (r : S26) (p : S29) (hw : 1 ≤ r.f1) : ∀ (n : Nat) (s : Int), s < n → (lowB r p n s = true ↔ ∀ j : Nat, 0 ≤ s - j * r.f1 → rd p.f0 (s - j * r.f1) ≠ 0) := by
  intro n
  induction n with
  | zero =>
    intro s hs
    simp only [lowB, true_iff]
    intro j h
    have : 0 ≤ (j : Int) * r.f1 := Int.mul_nonneg (by omega) (by omega)
    omega
  | succ n ih =>
    intro s hs
    rw [lowB]
    by_cases h : 0 ≤ s
    · rw [if_pos h]
      by_cases h0 : rd p.f0 s = 0
      · rw [if_pos h0]
        constructor
        · intro hh; cases hh
        · intro hh; exact absurd h0 (by have := hh 0 (by simpa using h); simpa using this)
      · rw [if_neg h0, ih _ (by omega)]
        constructor
        · intro hh j hj
          rcases j with _ | j
          · simpa using h0
          · have e : s - ((j + 1 : Nat) : Int) * r.f1 = s - r.f1 - j * r.f1 := by rw [Int.natCast_add, Int.add_mul]; simp; omega
            rw [e] at hj ⊢; exact hh j hj
        · intro hh j hj
          have e : s - ((j + 1 : Nat) : Int) * r.f1 = s - r.f1 - j * r.f1 := by rw [Int.natCast_add, Int.add_mul]; simp; omega
          rw [← e] at hj ⊢; exact hh (j + 1) hj
    · rw [if_neg h]
      simp only [true_iff]
      intro j hj
      have : 0 ≤ (j : Int) * r.f1 := Int.mul_nonneg (by omega) (by omega)
      omega
theorem upB_iff (r : S26) (p : S29) (hw : 1 ≤ r.f1) (tq : Int) : ∀ (n : Nat) (s : Int), tq < s + n → (upB r p tq n s = true ↔ ∀ i : Nat, s + i * r.f1 < tq → rd p.f0 (s + i * r.f1) ≠ 0) := by
  intro n
  induction n with
  | zero =>
    intro s hs
    simp only [upB, true_iff]
    intro j h
    have : 0 ≤ (j : Int) * r.f1 := Int.mul_nonneg (by omega) (by omega)
    omega
  | succ n ih =>
    intro s hs
    rw [upB]
    by_cases h : s < tq
    · rw [if_pos h]
      by_cases h0 : rd p.f0 s = 0
      · rw [if_pos h0]
        constructor
        · intro hh; cases hh
        · intro hh; exact absurd h0 (by have := hh 0 (by simpa using h); simpa using this)
      · rw [if_neg h0, ih _ (by omega)]
        constructor
        · intro hh j hj
          rcases j with _ | j
          · simpa using h0
          · have e : s + ((j + 1 : Nat) : Int) * r.f1 = s + r.f1 + j * r.f1 := by rw [Int.natCast_add, Int.add_mul]; simp; omega
            rw [e] at hj ⊢; exact hh j hj
        · intro hh j hj
          have e : s + ((j + 1 : Nat) : Int) * r.f1 = s + r.f1 + j * r.f1 := by rw [Int.natCast_add, Int.add_mul]; simp; omega
          rw [← e] at hj ⊢; exact hh (j + 1) hj
    · rw [if_neg h]
      simp only [true_iff]
      intro j hj
      have : 0 ≤ (j : Int) * r.f1 := Int.mul_nonneg (by omega) (by omega)
      omega
theorem low_up (r : S26) (p : S29) (hw : 1 ≤ r.f1) (s : Int) (h0 : 0 ≤ s) (h1 : s < 64) : lowB r p 64 (s - r.f1) = upB r p s 64 (s % r.f1) := by
  have hm : 0 ≤ s % r.f1 ∧ s % r.f1 < r.f1 := ⟨Int.emod_nonneg _ (by omega), Int.emod_lt_of_pos _ (by omega)⟩
  have hd : 0 ≤ s / r.f1 := Int.ediv_nonneg h0 (by omega)
  have hs : s % r.f1 + s / r.f1 * r.f1 = s := by have := Int.mul_ediv_add_emod s r.f1; rw [Int.mul_comm] at this; omega
  rw [Bool.eq_iff_iff, lowB_iff r p hw 64 _ (by omega), upB_iff r p hw s 64 _ (by omega)]
  generalize hb : s / r.f1 = b at hd hs
  generalize ha : s % r.f1 = a at hm hs
  constructor
  · intro h i hi
    have hib : (i : Int) < b := by
      rcases Int.lt_or_le (i : Int) b with h' | h'
      · exact h'
      · have := Int.mul_le_mul_of_nonneg_right h' (show 0 ≤ r.f1 by omega); omega
    have e : s - r.f1 - (((b - 1 - i).toNat : Nat) : Int) * r.f1 = a + i * r.f1 := by
      rw [show (((b - 1 - i).toNat : Nat) : Int) = b - 1 - i by omega, Int.sub_mul, Int.sub_mul, Int.one_mul]; omega
    have := h (b - 1 - i).toNat (by rw [e]; have : 0 ≤ (i : Int) * r.f1 := Int.mul_nonneg (by omega) (by omega); omega)
    rw [e] at this; exact this
  · intro h j hj
    have hjb : (j : Int) + 1 ≤ b := by
      rcases Int.lt_or_le (j : Int) b with h' | h'
      · omega
      · have := Int.mul_le_mul_of_nonneg_right (show b + 1 ≤ (j : Int) + 1 by omega) (show 0 ≤ r.f1 by omega)
        rw [Int.add_mul, Int.add_mul, Int.one_mul] at this; omega
    have e : a + (((b - 1 - j).toNat : Nat) : Int) * r.f1 = s - r.f1 - j * r.f1 := by
      rw [show (((b - 1 - j).toNat : Nat) : Int) = b - 1 - j by omega, Int.sub_mul, Int.sub_mul, Int.one_mul]; omega
    have := h (b - 1 - j).toNat (by rw [e]; have : 0 ≤ (j : Int) * r.f1 := Int.mul_nonneg (by omega) (by omega); omega)
    rw [e] at this; exact this
theorem hand_nonneg (r : S26) (p : S29) (hp : VP r p) (t : Int) (h0 : 0 ≤ t) (h1 : t < (r.f3.length : Int)) : 0 ≤ rd (hand p) t ∧ rd (hand p) t ≤ 1000 := by
  have hl := hp.hlen
  have hm := rd_mem (hand p) t h0 (by omega)
  unfold hand at hm ⊢
  split
  · rename_i h; rw [if_pos h] at hm; exact hp.b0 _ hm
  · rename_i h; rw [if_neg h] at hm; exact hp.b1 _ hm
theorem mem_rawM (r : S26) (p : S29) (hr : VR r) (hp : VP r p) (m : S39) : m ∈ rawM r p ↔ allowB r p m = true := by
  have hl := hp.len hr
  have hn := hp.n
  obtain ⟨w0, w1⟩ := hr.w
  unfold rawM drops
  rw [List.mem_append]
  simp only [List.mem_flatMap, List.mem_range'_1]
  constructor
  · rintro (⟨t, ht, h⟩ | ⟨s, hs, h⟩)
    · unfold dropK at h
      split at h
      · rename_i hpos
        simp only [List.mem_flatMap, List.mem_range'_1] at h
        obtain ⟨s, hs, h⟩ := h
        unfold dropS at h
        split at h
        · rename_i ho
          rw [List.mem_singleton.1 h]
          unfold allowB
          rw [if_pos ⟨⟨by simp, by show (-1 : Int) ≤ _; omega⟩, ⟨by show (0 : Int) ≤ (s : Int); omega, by show (s : Int) ≤ _; omega⟩, by show (0 : Int) ≤ (t : Int); omega, by show (t : Int) ≤ _; omega⟩, if_pos rfl]
          unfold putB
          unfold openB at ho
          rw [low_up r p w0 (s : Int) (by omega) (by omega)] at ho
          have hh : decide (rd (hand p) (t : Int) ≠ 0) = true := decide_eq_true (by omega)
          simp only at hh ⊢
          rw [hh, Bool.true_and]; exact ho
        · cases h
      · cases h
    · unfold pieceM at h
      split at h
      · rename_i ho
        obtain ⟨w, hw, h⟩ := List.mem_flatMap.1 h
        unfold wayM at h
        obtain ⟨q, hq, rfl⟩ := List.mem_map.1 h
        have hc := hp.cell hr (s : Int) (by omega) (by omega)
        have htu : 0 ≤ p.f2 := by rcases hp.t with h | h <;> omega
        have hmi := (mine_own (rd p.f0 (s : Int)) p.f2 hc.1 htu).2 ho
        have hpos : 1 ≤ rd p.f0 (s : Int) := by unfold mine at hmi; have := (decide_eq_true_iff.1 hmi).1; omega
        have hk := knd_lt (rd p.f0 (s : Int)) r.f3.length ⟨hpos, hc.2.2⟩
        have hqq := (hr.pc _ (rdP_mem _ _ hk.1 hk.2)).2.2.2.2.2 w hw
        have hdd : ¬ (w.f0 = 0 ∧ dyW p w = 0) := by
          intro hz; apply hqq.2.2.2.2.1; refine ⟨hz.1, ?_⟩
          have := hz.2; unfold dyW at this; split at this <;> omega
        obtain ⟨j, hj, hb, e⟩ := ray_far r p _ _ _ _ _ _ _ hq
        have hsq := sq_in hr hb
        rw [← e] at hsq
        have ha := arr_in r hr p.f2 (knd (rd p.f0 (s : Int))) q hk.1 hk.2
        have hre := (mem_ray r p w.f0 (dyW p w) w.f3 q hdd w.f2.toNat _ _).1 hq
        unfold allowB
        rw [if_pos ⟨⟨by show (-1 : Int) ≤ (s : Int); omega, by show (s : Int) ≤ _; omega⟩, ⟨by show (0 : Int) ≤ q; omega, by show q ≤ _; omega⟩, by show (0 : Int) ≤ arr r p.f2 (knd (rd p.f0 (s : Int))) q; omega, by show arr r p.f2 (knd (rd p.f0 (s : Int))) q ≤ _; omega⟩, if_neg (by show ¬ (s : Int) = -1; omega)]
        unfold moveB
        simp only [hmi, Bool.true_and, decide_true, List.any_eq_true]
        exact ⟨w, hw, hre⟩
      · cases h
  · intro h
    unfold allowB at h
    split at h
    · rename_i hin
      obtain ⟨⟨a0, a1⟩, ⟨b0, b1⟩, c0, c1⟩ := hin
      split at h
      · rename_i hf
        left
        unfold putB at h
        simp only [Bool.and_eq_true, decide_eq_true_eq] at h
        obtain ⟨h1, h2, h3⟩ := h
        have hnn := hand_nonneg r p hp m.f2 c0 (by omega)
        have et : (m.f2.toNat : Int) = m.f2 := by omega
        have es : (m.f1.toNat : Int) = m.f1 := by omega
        refine ⟨m.f2.toNat, ⟨by omega, by omega⟩, ?_⟩
        unfold dropK
        rw [et, if_pos (by omega)]
        simp only [List.mem_flatMap, List.mem_range'_1]
        refine ⟨m.f1.toNat, ⟨by omega, by omega⟩, ?_⟩
        unfold dropS
        rw [es, if_pos (by unfold openB; rw [low_up r p w0 m.f1 b0 (by omega)]; simp only [Bool.and_eq_true, decide_eq_true_eq]; exact ⟨h2, h3⟩)]
        rw [List.mem_singleton]
        cases m; simp only [S39.mk.injEq, and_true]; exact hf
      · rename_i hf
        right
        unfold moveB at h
        simp only [Bool.and_eq_true, decide_eq_true_eq, List.any_eq_true] at h
        obtain ⟨h1, h2, w, hw, h3⟩ := h
        have hm0 : 0 ≤ m.f0 := by omega
        have es : (m.f0.toNat : Int) = m.f0 := by omega
        have hc := hp.cell hr m.f0 hm0 (by omega)
        have htu : 0 ≤ p.f2 := by rcases hp.t with h | h <;> omega
        have ho := (mine_own (rd p.f0 m.f0) p.f2 hc.1 htu).1 h1
        have hpos : 1 ≤ rd p.f0 m.f0 := by unfold mine at h1; have := (decide_eq_true_iff.1 h1).1; omega
        have hk := knd_lt (rd p.f0 m.f0) r.f3.length ⟨hpos, hc.2.2⟩
        have hqq := (hr.pc _ (rdP_mem _ _ hk.1 hk.2)).2.2.2.2.2 w hw
        have hdd : ¬ (w.f0 = 0 ∧ dyW p w = 0) := by
          intro hz; apply hqq.2.2.2.2.1; refine ⟨hz.1, ?_⟩
          have := hz.2; unfold dyW at this; split at this <;> omega
        refine ⟨m.f0.toNat, ⟨by omega, by omega⟩, ?_⟩
        unfold pieceM
        rw [es, if_pos ho, List.mem_flatMap]
        refine ⟨w, hw, ?_⟩
        unfold wayM
        rw [List.mem_map]
        refine ⟨m.f1, (mem_ray r p w.f0 (dyW p w) w.f3 m.f1 hdd w.f2.toNat _ _).2 h3, ?_⟩
        cases m; simp only [S39.mk.injEq, true_and]; exact h2
    · cases h
/-- moves.Gen returns the reference's list -/
theorem gen_eq (r : S26) (p : S29) (hr : VR r) (hp : VP r p) : onceM (rawM r p) = movesL r p := by
  obtain ⟨h1, h2⟩ := once_spec (rawM r p)
  exact uniq _ _ h1 (sorted_movesL r p) (fun x => by rw [h2, mem_rawM r p hr hp, mem_movesL])
end Co
end Go.Proofs.Ytloadbbndnmdlaa.Pure
