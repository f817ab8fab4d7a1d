/- Swiss pairs: the search that cuts off finds the first of the cheapest pairings (no program in sight). -/
namespace Go.Proofs.Ytemfkhafkhkffaa.Swiss
/-- one leaf: better than what there is? -/
def upd (st : Option (List Int) × Int) (x : List Int × Int) : Option (List Int) × Int := if st.1.isSome = true ∧ x.2 ≥ st.2 then st else (some x.1, x.2)
structure Sys where
  n : Nat
  met : Nat → Nat → Bool
  cst : Nat → Nat → Int
  byeC : Nat → Int
  byeB : Nat → Bool
variable (S : Sys)
/-- the first without a partner -/
def first : List Int → Nat
  | [] => 0
  | x :: xs => if x = -2 then 0 else first xs + 1
def put2 (w : List Int) (i j : Nat) : List Int := (w.set i (j : Int)).set j (i : Int)
mutual
def enum : Nat → List Int → Int → Bool → List (List Int × Int)
  | 0, _, _, _ => []
  | f + 1, w, c, off => if first w = S.n then [(w, c)] else enumJ f w c off (first w) (first w + 1) (S.n - (first w + 1)) ++ (if (S.n % 2 = 1 ∧ off = false) ∧ S.byeB (first w) = false then enum f (w.set (first w) (-1)) (c + S.byeC (first w)) true else [])
  termination_by f => (f, 0)
def enumJ : Nat → List Int → Int → Bool → Nat → Nat → Nat → List (List Int × Int)
  | _, _, _, _, _, _, 0 => []
  | f, w, c, off, i, j, d + 1 => (if w.getD j 0 = -2 ∧ S.met i j = false then enum f (put2 w i j) (c + S.cst i j) off else []) ++ enumJ f w c off i (j + 1) d
  termination_by f _ _ _ _ _ d => (f, d + 1)
end
mutual
def tryF : Nat → List Int → Int → Option (List Int) × Int → Option (List Int) × Int
  | 0, _, _, st => st
  | f + 1, w, c, st => if st.1.isSome = true ∧ c ≥ st.2 then st else if first w = S.n then (some w, c) else
      (if S.byeB (first w) = false ∧ (S.n % 2 = 1 ∧ (-1 : Int) ∉ w) then tryF f (w.set (first w) (-1)) (c + S.byeC (first w)) (tryJ f w c (first w) (first w + 1) (S.n - (first w + 1)) st) else tryJ f w c (first w) (first w + 1) (S.n - (first w + 1)) st)
  termination_by f => (f, 0)
def tryJ : Nat → List Int → Int → Nat → Nat → Nat → Option (List Int) × Int → Option (List Int) × Int
  | _, _, _, _, _, 0, st => st
  | f, w, c, i, j, d + 1, st => tryJ f w c i (j + 1) d (if w.getD j 0 = -2 ∧ S.met i j = false then tryF f (put2 w i j) (c + S.cst i j) st else st)
  termination_by f _ _ _ _ d => (f, d + 1)
end
def Nonneg : Prop := (∀ i j, 0 ≤ S.cst i j) ∧ ∀ i, 0 ≤ S.byeC i
theorem enum_ge (hS : Nonneg S) : ∀ f, (∀ w c off x, x ∈ enum S f w c off → c ≤ x.2) := by
  intro f
  induction f with
  | zero => intro w c off x h; rw [enum] at h; cases h
  | succ f ih =>
    have hj : ∀ d w c off i j x, x ∈ enumJ S f w c off i j d → c ≤ x.2 := by
      intro d
      induction d with
      | zero => intro w c off i j x h; rw [enumJ] at h; cases h
      | succ d ihd =>
        intro w c off i j x h
        rw [enumJ] at h
        rcases List.mem_append.1 h with h | h
        · split at h
          · have := ih _ _ _ _ h; have := hS.1 i j; omega
          · cases h
        · exact ihd _ _ _ _ _ _ h
    intro w c off x h
    rw [enum] at h
    split at h
    · rw [List.mem_singleton.1 h]; exact Int.le_refl _
    · rcases List.mem_append.1 h with h | h
      · exact hj _ _ _ _ _ _ _ h
      · split at h
        · have := ih _ _ _ _ h; have := hS.2 (first w); omega
        · cases h
theorem fold_cut : ∀ (l : List (List Int × Int)) (st : Option (List Int) × Int), st.1.isSome = true → (∀ x ∈ l, st.2 ≤ x.2) → l.foldl upd st = st
  | [], _, _, _ => rfl
  | x :: l, st, h, hl => by
    rw [List.foldl_cons, upd, if_pos ⟨h, hl x List.mem_cons_self⟩]
    exact fold_cut l st h (fun y hy => hl y (List.mem_cons_of_mem _ hy))
theorem first_set_bye (w : List Int) : ∀ i, first w = i → i < w.length → ((-1 : Int) ∈ w.set i (-1)) := by
  intro i _ hi
  exact List.mem_set hi _
theorem mem_put2 (w : List Int) (i j : Nat) (hi : w.getD i 0 = -2) (hj : w.getD j 0 = -2) (hil : i < w.length) (hjl : j < w.length) : ((-1 : Int) ∈ put2 w i j) ↔ ((-1 : Int) ∈ w) := by
  have key : ∀ (w : List Int) (k : Nat) (v : Int), k < w.length → w.getD k 0 = -2 → 0 ≤ v → (((-1 : Int) ∈ w.set k v) ↔ ((-1 : Int) ∈ w)) := by
    intro w k v hk hw hv
    have e : w[k] = -2 := by simpa [List.getD_eq_getElem?_getD, hk] using hw
    constructor
    · intro h
      rcases List.mem_or_eq_of_mem_set h with h | h
      · exact h
      · omega
    · intro h
      obtain ⟨a, ha, hx⟩ := List.getElem_of_mem h
      have hne : k ≠ a := fun e2 => by subst e2; omega
      have : (w.set k v)[a]'(by rw [List.length_set]; exact ha) = -1 := by rw [List.getElem_set_ne hne]; exact hx
      rw [← this]; exact List.getElem_mem _
  unfold put2
  by_cases hij : i = j
  · subst hij
    rw [List.set_set]
    exact key w i _ hil hi (by omega)
  · have e2 : (w.set i (j : Int)).getD j 0 = -2 := by
      rw [List.getD_eq_getElem?_getD, List.getElem?_set_ne hij, ← List.getD_eq_getElem?_getD]; exact hj
    rw [key _ j _ (by rw [List.length_set]; exact hjl) e2 (by omega), key w i _ hil hi (by omega)]
theorem first_is : ∀ (w : List Int), first w ≤ w.length ∧ (first w < w.length → w.getD (first w) 0 = -2)
  | [] => by simp [first]
  | x :: xs => by
    obtain ⟨h1, h2⟩ := first_is xs
    rw [first]
    split
    · rename_i h; exact ⟨by simp, fun _ => by simpa using h⟩
    · refine ⟨by simp; omega, fun h => ?_⟩
      rw [List.getD_cons_succ]; exact h2 (by simpa using h)
theorem put2_len (w : List Int) (i j : Nat) : (put2 w i j).length = w.length := by simp [put2]
theorem try_is (hS : Nonneg S) : ∀ f w c off st, w.length = S.n → (off = true ↔ (-1 : Int) ∈ w) → tryF S f w c st = (enum S f w c off).foldl upd st := by
  intro f
  induction f with
  | zero => intro w c off st _ _; rw [tryF, enum]; rfl
  | succ f ih =>
    have hj : ∀ d w c off i j st, w.length = S.n → (off = true ↔ (-1 : Int) ∈ w) → w.getD i 0 = -2 → i < S.n → j + d ≤ S.n → tryJ S f w c i j d st = (enumJ S f w c off i j d).foldl upd st := by
      intro d
      induction d with
      | zero => intro w c off i j st _ _ _ _ _; rw [tryJ, enumJ]; rfl
      | succ d ihd =>
        intro w c off i j st hl ho hi hin hjd
        rw [tryJ, enumJ, List.foldl_append]
        have e : (if w.getD j 0 = -2 ∧ S.met i j = false then tryF S f (put2 w i j) (c + S.cst i j) st else st) = (if w.getD j 0 = -2 ∧ S.met i j = false then enum S f (put2 w i j) (c + S.cst i j) off else []).foldl upd st := by
          split
          · rename_i h
            exact ih _ _ _ _ (by rw [put2_len]; exact hl) (by rw [mem_put2 w i j hi h.1 (by omega) (by omega)]; exact ho)
          · rfl
        rw [e]
        exact ihd _ _ _ _ _ _ hl ho hi hin (by omega)
    intro w c off st hl ho
    rw [tryF]
    by_cases hc : st.1.isSome = true ∧ c ≥ st.2
    · rw [if_pos hc]
      exact (fold_cut _ st hc.1 (fun x hx => Int.le_trans hc.2 (enum_ge S hS _ _ _ _ x hx))).symm
    · rw [if_neg hc, enum]
      by_cases hf : first w = S.n
      · rw [if_pos hf, if_pos hf]
        show _ = upd st (w, c)
        rw [upd, if_neg hc]
      · rw [if_neg hf, if_neg hf, List.foldl_append]
        obtain ⟨f1, f2⟩ := first_is w
        have hlt : first w < w.length := by omega
        have hi := f2 hlt
        rw [hj _ _ _ off _ _ _ hl ho hi (by omega) (by omega)]
        by_cases hb : S.byeB (first w) = false ∧ (S.n % 2 = 1 ∧ (-1 : Int) ∉ w)
        · have ho2 : off = false := Bool.eq_false_iff.mpr (fun h => hb.2.2 (ho.1 h))
          rw [if_pos hb, if_pos ⟨⟨hb.2.1, ho2⟩, hb.1⟩]
          exact ih _ _ _ _ (by rw [List.length_set]; exact hl) ⟨fun _ => List.mem_set hlt _, fun _ => rfl⟩
        · rw [if_neg hb, if_neg (fun h => hb ⟨h.2, h.1.1, fun hm => by have := ho.2 hm; rw [h.1.2] at this; cases this⟩)]
          rfl
/-- the first of those that cost least, as the law looks for it -/
def best : List (List Int × Int) → List Int × Int → List Int × Int
  | [], b => b
  | x :: l, b => best l (if x.2 < b.2 then x else b)
theorem fold_best : ∀ (l : List (List Int × Int)) (b : List Int × Int), l.foldl upd (some b.1, b.2) = (some (best l b).1, (best l b).2)
  | [], b => rfl
  | x :: l, b => by
    rw [List.foldl_cons, best, upd]
    by_cases h : x.2 < b.2
    · rw [if_pos h, if_neg (fun hh => by have := hh.2; simp at this; omega)]; exact fold_best l x
    · rw [if_neg h, if_pos ⟨rfl, by simp; omega⟩]; exact fold_best l b
theorem fold_first (x : List Int × Int) (l : List (List Int × Int)) (c : Int) : (x :: l).foldl upd (none, c) = (some (best l x).1, (best l x).2) := by
  rw [List.foldl_cons, upd, if_neg (fun h => by cases h.1)]; exact fold_best l x
/-- how many have no partner -/
def un : List Int → Nat
  | [] => 0
  | x :: xs => (if x = -2 then 1 else 0) + un xs
theorem un_set : ∀ (w : List Int) (k : Nat) (v : Int), k < w.length → w.getD k 0 = -2 → v ≠ -2 → un (w.set k v) + 1 = un w
  | [], k, v, h, _, _ => absurd h (Nat.not_lt_zero k)
  | x :: xs, 0, v, _, hw, hv => by
    have : x = -2 := hw
    rw [List.set_cons_zero, un, un, if_neg hv, if_pos this]; omega
  | x :: xs, k + 1, v, h, hw, hv => by
    have := un_set xs k v (by simpa using h) (by simpa using hw) hv
    rw [List.set_cons_succ, un, un]; omega
theorem un_put2 (w : List Int) (i j : Nat) (hi : w.getD i 0 = -2) (hj : w.getD j 0 = -2) (hij : i ≠ j) (hil : i < w.length) (hjl : j < w.length) : un (put2 w i j) + 2 = un w := by
  have e2 : (w.set i (j : Int)).getD j 0 = -2 := by
    rw [List.getD_eq_getElem?_getD, List.getElem?_set_ne hij, ← List.getD_eq_getElem?_getD]; exact hj
  have h1 := un_set w i (j : Int) hil hi (by omega)
  have h2 := un_set (w.set i (j : Int)) j (i : Int) (by rw [List.length_set]; exact hjl) e2 (by omega)
  unfold put2; omega
theorem un_le : ∀ w : List Int, un w ≤ w.length
  | [] => Nat.le_refl _
  | x :: xs => by have := un_le xs; rw [un, List.length_cons]; split <;> omega
theorem put2_back (w : List Int) (i j : Nat) (hi : w.getD i 0 = -2) (hj : w.getD j 0 = -2) (hil : i < w.length) (hjl : j < w.length) : ((put2 w i j).set i (-2)).set j (-2) = w := by
  have ei : w[i] = -2 := by simpa [List.getD_eq_getElem?_getD, hil] using hi
  have ej : w[j] = -2 := by simpa [List.getD_eq_getElem?_getD, hjl] using hj
  apply List.ext_getElem
  · simp [put2]
  · intro n h1 h2
    simp only [put2, List.getElem_set]
    split
    · rename_i h; subst h; exact ej.symm
    · split
      · rename_i h; subst h; exact ei.symm
      · rfl
theorem set_back (w : List Int) (i : Nat) (v : Int) (hi : w.getD i 0 = -2) (hil : i < w.length) : (w.set i v).set i (-2) = w := by
  have ei : w[i] = -2 := by simpa [List.getD_eq_getElem?_getD, hil] using hi
  apply List.ext_getElem
  · simp
  · intro n h1 h2
    simp only [List.getElem_set]
    split
    · rename_i h; subst h; exact ei.symm
    · rfl
theorem enum_len (hn : S.n ≤ 8) : ∀ f w c off, (enum S f w c off).length ≤ 8 ^ f := by
  intro f
  induction f with
  | zero => intro w c off; rw [enum]; simp
  | succ f ih =>
    have hj : ∀ d w c off i j, (enumJ S f w c off i j d).length ≤ d * 8 ^ f := by
      intro d
      induction d with
      | zero => intro w c off i j; rw [enumJ]; simp
      | succ d ihd =>
        intro w c off i j
        have h1 := ihd w c off i (j + 1)
        have h2 := ih (put2 w i j) (c + S.cst i j) off
        have h0 : 0 < 8 ^ f := Nat.pow_pos (by omega)
        rw [enumJ, List.length_append, Nat.succ_mul]
        split
        · omega
        · simp; omega
    intro w c off
    have h0 : 0 < 8 ^ f := Nat.pow_pos (by omega)
    have e : 8 ^ (f + 1) = 7 * 8 ^ f + 8 ^ f := by rw [Nat.pow_succ]; omega
    rw [enum, e]
    split
    · simp; omega
    · have h1 := hj (S.n - (first w + 1)) w c off (first w) (first w + 1)
      have h2 : (S.n - (first w + 1)) * 8 ^ f ≤ 7 * 8 ^ f := Nat.mul_le_mul_right _ (by omega)
      rw [List.length_append]
      split
      · have := ih (w.set (first w) (-1)) (c + S.byeC (first w)) true; omega
      · simp; omega
end Go.Proofs.Ytemfkhafkhkffaa.Swiss
