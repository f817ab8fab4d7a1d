/- ClaimFalls: who can still win, and the result when a flag falls. -/
import Derived.Test.YtkpphlimnnifkaaPlaceSide
import Derived.Test.YtkpphlimnnifkaaMoveOnce
import Derived.Test.YtkpphlimnnifkaaPClaimFallsx12
namespace Go.Proofs.Ytkpphlimnnifkaa.Pure
open Go.RowKit Go.Proofs.Ytkpphlimnnifkaa.PClaimFalls Go.Proofs.YtkpphlimnnifkaaW.PrintWords Go.Proofs.YtkpphlimnnifkaaW.PrintLast
set_option linter.unusedSimpArgs false
set_option linter.unusedVariables false
namespace Co
open Aid
/-! sums over the types -/
def sumF (f : Nat → Bool) (hv : List Int) : Nat → Int
  | 0 => 0
  | d + 1 => sumF f hv d + (if f d = true then rd hv (d : Int) else 0)
def anyF (T : Nat → Bool) (hv : List Int) : Nat → Bool
  | 0 => false
  | d + 1 => anyF T hv d || (decide (rd hv (d : Int) > 0) && T d)
theorem bump_rd (hv : List Int) (k : Nat) (m : Int) (i : Nat) (hk : k < hv.length) (hw : wrap64 (rd hv (k : Int) + m) = rd hv (k : Int) + m) : rd (bump hv (k : Int) m) (i : Int) = if i = k then rd hv (k : Int) + m else rd hv (i : Int) := by
  unfold bump
  rw [hw]
  unfold rd
  rw [Int.toNat_natCast, Int.toNat_natCast]
  simp only [List.getD_eq_getElem?_getD, List.getElem?_set]
  by_cases h : k = i
  · subst h; simp [hk]
  · rw [if_neg h, if_neg (fun e => h e.symm)]
theorem sum_bump (f : Nat → Bool) (hv : List Int) (k : Nat) (m : Int) (hk : k < hv.length) (hw : wrap64 (rd hv (k : Int) + m) = rd hv (k : Int) + m) : ∀ d, sumF f (bump hv (k : Int) m) d = sumF f hv d + (if k < d ∧ f k = true then m else 0) := by
  intro d
  induction d with
  | zero => simp [sumF]
  | succ d ih =>
    rw [sumF, sumF, ih, bump_rd hv k m d hk hw]
    by_cases hd : d = k
    · subst hd
      have e1 : (if d < d ∧ f d = true then m else 0) = 0 := if_neg (fun h => Nat.lt_irrefl _ h.1)
      have e2 : (if d = d then rd hv (d : Int) + m else rd hv (d : Int)) = rd hv (d : Int) + m := if_pos rfl
      rw [e1, e2]
      by_cases hf : f d = true
      · have e3 : (if d < d + 1 ∧ f d = true then m else 0) = m := if_pos ⟨Nat.lt_succ_self _, hf⟩
        rw [e3, if_pos hf, if_pos hf]; omega
      · have e3 : (if d < d + 1 ∧ f d = true then m else 0) = 0 := if_neg (fun h => hf h.2)
        rw [e3, if_neg hf, if_neg hf]
    · rw [if_neg hd]
      have e1 : (if k < d + 1 ∧ f k = true then m else 0) = if k < d ∧ f k = true then m else 0 := by
        by_cases hf : k < d ∧ f k = true
        · rw [if_pos hf, if_pos ⟨Nat.lt_succ_of_lt hf.1, hf.2⟩]
        · rw [if_neg hf, if_neg (fun h => hf ⟨by omega, h.2⟩)]
      rw [e1]; omega
theorem any_bump (T : Nat → Bool) (hv : List Int) (k : Nat) (m : Int) (hk : k < hv.length) (hw : wrap64 (rd hv (k : Int) + m) = rd hv (k : Int) + m) (h0 : 0 ≤ rd hv (k : Int)) (hm : 0 ≤ m) : ∀ d, anyF T (bump hv (k : Int) m) d = (anyF T hv d || (decide (k < d) && (decide (m > 0) && T k))) := by
  intro d
  induction d with
  | zero => simp [anyF]
  | succ d ih =>
    rw [anyF, anyF, ih, bump_rd hv k m d hk hw]
    by_cases hd : d = k
    · subst hd
      have e2 : decide (rd hv (d : Int) + m > 0) = (decide (rd hv (d : Int) > 0) || decide (m > 0)) := by
        clear hw ih
        rw [Bool.eq_iff_iff, Bool.or_eq_true, decide_eq_true_iff, decide_eq_true_iff, decide_eq_true_iff]
        omega
      rw [if_pos rfl, e2, decide_eq_false (Nat.lt_irrefl d), decide_eq_true (Nat.lt_succ_self d)]
      cases T d <;> cases anyF T hv d <;> cases decide (rd hv (d : Int) > 0) <;> cases decide (m > 0) <;> rfl
    · rw [if_neg hd]
      have e : decide (k < d + 1) = decide (k < d) := decide_eq_decide.2 (by omega)
      rw [e]
      cases anyF T hv d <;> cases decide (k < d) <;> cases decide (m > 0) <;> cases T k <;> simp
theorem sum_le (f : Nat → Bool) (hv : List Int) (b : Int) (hb : 0 ≤ b) (h : ∀ k : Nat, k < 6 → 0 ≤ rd hv (k : Int) ∧ rd hv (k : Int) ≤ b) : ∀ d, d ≤ 6 → 0 ≤ sumF f hv d ∧ sumF f hv d ≤ d * b := by
  intro d
  induction d with
  | zero => intro _; simp [sumF]
  | succ d ih =>
    intro hd
    obtain ⟨h1, h2⟩ := ih (by omega)
    obtain ⟨g1, g2⟩ := h d (by omega)
    have e : ((d + 1 : Nat) : Int) * b = (d : Int) * b + b := by rw [Int.natCast_add, Int.add_mul]; simp
    rw [sumF, e]
    split <;> omega
theorem sum_congr (f g : Nat → Bool) (hv : List Int) : ∀ d, (∀ k, k < d → f k = g k) → sumF f hv d = sumF g hv d := by
  intro d
  induction d with
  | zero => intro _; rfl
  | succ d ih => intro h; rw [sumF, sumF, ih (fun k hk => h k (by omega)), h d (by omega)]
theorem any_congr (S T : Nat → Bool) (hv : List Int) : ∀ d, (∀ k, k < d → S k = T k) → anyF S hv d = anyF T hv d := by
  intro d
  induction d with
  | zero => intro _; rfl
  | succ d ih => intro h; rw [anyF, anyF, ih (fun k hk => h k (by omega)), h d (by omega)]
/-! what 'count' makes, and what the reference counts -/
def TK (L : List S104) (k : Nat) : Bool := (rd_T104 L (k : Int)).f3.any fun x => decide (x.f3 ≠ 0)
def TG (L : List S104) (k : Nat) : Bool := (rd_T104 L (k : Int)).f3.any fun x => decide (x.f3 > 0)
theorem tkW_is (n : Int) : ∀ (ws : List S106) (b : Bool), tkW n ws b = (b || (decide (n > 0) && ws.any fun x => decide (x.f3 ≠ 0)))
  | [], b => by simp [tkW]
  | x :: xs, b => by
    rw [tkW, tkW_is n xs, List.any_cons]
    cases b <;> cases decide (n > 0) <;> cases decide (x.f3 ≠ 0) <;> simp
theorem tkG_is (n : Int) : ∀ (ws : List S106) (b : Bool), tkG n ws b = (b || (decide (n > 0) && ws.any fun x => decide (x.f3 > 0)))
  | [], b => by simp [tkG]
  | x :: xs, b => by
    rw [tkG, tkG_is n xs, List.any_cons]
    cases b <;> cases decide (n > 0) <;> cases decide (x.f3 > 0) <;> simp
structure Bal (L : List S104) (t b : Int) (x : Int × Int × Bool) (hv : List Int) : Prop where
  n : hv.length = 6
  v : ∀ k : Nat, k < 6 → 0 ≤ rd hv (k : Int) ∧ rd hv (k : Int) ≤ b
  a : x.1 = sumF (fun _ => true) hv L.length
  s : x.2.1 = sumF (fun k => becL L t 6 (k : Int)) hv L.length
  t : x.2.2 = anyF (TK L) hv L.length
theorem bal_step {L : List S104} {t b : Int} {x : Int × Int × Bool} {hv : List Int} (hL : L.length ≤ 6) (h : Bal L t b x hv) (k : Nat) (hk : k < L.length) (m : Int) (h0 : 0 ≤ m) (h1 : m ≤ 1000) (hb0 : 0 ≤ b) (hb : b ≤ 1000000) : Bal L t (b + 1000) (cntB L t x (k : Int) m) (bump hv (k : Int) m) := by
  obtain ⟨v0, v1⟩ := h.v k (by omega)
  have hkl : k < hv.length := by rw [h.n]; omega
  have hw : wrap64 (rd hv (k : Int) + m) = rd hv (k : Int) + m := w64 (by omega) (by omega)
  have sa := sum_le (fun _ => true) hv b hb0 h.v L.length hL
  have ss := sum_le (fun k => becL L t 6 (k : Int)) hv b hb0 h.v L.length hL
  have hl : (L.length : Int) * b ≤ 6 * 1000000 := Int.le_trans (Int.mul_le_mul_of_nonneg_right (show (L.length : Int) ≤ 6 by omega) hb0) (by omega)
  refine ⟨by rw [bump_len]; exact h.n, fun i hi => ?_, ?_, ?_, ?_⟩
  · rw [bump_rd hv k m i hkl hw]
    have := h.v i hi
    split <;> omega
  · show wrap64 (x.1 + m) = _
    rw [h.a, sum_bump _ hv k m hkl hw, if_pos ⟨hk, rfl⟩, w64 (by omega) (by omega)]
  · show (if becL L t 6 (k : Int) = true then wrap64 (x.2.1 + m) else x.2.1) = _
    rw [h.s, sum_bump _ hv k m hkl hw]
    by_cases hf : becL L t 6 (k : Int) = true
    · rw [if_pos hf, if_pos ⟨hk, hf⟩, w64 (by omega) (by omega)]
    · rw [if_neg hf, if_neg (fun h => hf h.2), Int.add_zero]
  · show tkW m (rd_T104 L (k : Int)).f3 x.2.2 = _
    rw [tkW_is, h.t, any_bump _ hv k m hkl hw v0 h0, decide_eq_true hk, Bool.true_and]; rfl
theorem bal_cells {L : List S104} {t pl : Int} (hL : L.length ≤ 6) (hp : pl = 0 ∨ pl = 1) : ∀ (cs : List Int) (b : Int) (x : Int × Int × Bool) (hv : List Int), (∀ c ∈ cs, 0 ≤ c ∧ c ≤ 2 * (L.length : Int)) → Bal L t b x hv → 0 ≤ b → b + 1000 * (cs.length : Int) ≤ 1000000 → Bal L t (b + 1000 * (cs.length : Int)) (cellsF L t pl cs x) (haveC pl cs hv)
  | [], b, x, hv, _, h, _, _ => by simpa [cellsF, haveC] using h
  | c :: cs, b, x, hv, hc, h, b0, hb => by
    rw [cellsF, haveC]
    rw [List.length_cons] at hb ⊢
    have hcc := hc c List.mem_cons_self
    have e : b + 1000 * ((cs.length + 1 : Nat) : Int) = (b + 1000) + 1000 * (cs.length : Int) := by omega
    rw [e]
    have hr := fun y hy => bal_cells (t := t) hL hp cs (b + 1000) y hy (fun c h => hc c (List.mem_cons_of_mem _ h))
    by_cases ho : ownC c = pl
    · rw [if_pos ho, if_pos ho]
      obtain ⟨k0, k1⟩ := kind_in hcc.1 hcc.2 (by omega) hp ho
      obtain ⟨k, hk⟩ := Int.eq_ofNat_of_zero_le k0
      rw [hk] at k1 ⊢
      exact hr _ _ (bal_step hL h k (by omega) 1 (by omega) (by omega) b0 (by omega)) (by omega) (by omega)
    · rw [if_neg ho, if_neg ho]
      exact hr _ _ ⟨h.n, fun k hk => ⟨(h.v k hk).1, by have := (h.v k hk).2; omega⟩, h.a, h.s, h.t⟩ (by omega) (by omega)
theorem bal_hands {L : List S104} {t : Int} (hL : L.length ≤ 6) : ∀ (ns : List Int) (k : Nat) (b : Int) (x : Int × Int × Bool) (hv : List Int), (∀ c ∈ ns, 0 ≤ c ∧ c ≤ 1000) → k + ns.length ≤ L.length → Bal L t b x hv → 0 ≤ b → b + 1000 * (ns.length : Int) ≤ 1000000 → Bal L t (b + 1000 * (ns.length : Int)) (handsF L t (k : Int) ns x) (haveH (k : Int) ns hv)
  | [], k, b, x, hv, _, _, h, _, _ => by simpa [handsF, haveH] using h
  | n :: ns, k, b, x, hv, hc, hk, h, b0, hb => by
    rw [handsF, haveH]
    rw [List.length_cons] at hb hk ⊢
    have hcc := hc n List.mem_cons_self
    have e : b + 1000 * ((ns.length + 1 : Nat) : Int) = (b + 1000) + 1000 * (ns.length : Int) := by omega
    rw [e, show (k : Int) + 1 = ((k + 1 : Nat) : Int) by omega]
    exact bal_hands hL ns (k + 1) (b + 1000) _ _ (fun c h => hc c (List.mem_cons_of_mem _ h)) (by omega) (bal_step hL h k (by omega) n hcc.1 hcc.2 b0 (by omega)) (by omega) (by omega)
theorem rd_zero (k : Nat) : rd (List.replicate 6 0) (k : Int) = 0 := by
  unfold rd
  rw [Int.toNat_natCast, List.getD_eq_getElem?_getD, List.getElem?_replicate]
  split <;> rfl
theorem sum_zero (f : Nat → Bool) : ∀ d, sumF f (List.replicate 6 0) d = 0
  | 0 => rfl
  | d + 1 => by rw [sumF, sum_zero f d, rd_zero]; simp
theorem any_zero (T : Nat → Bool) : ∀ d, anyF T (List.replicate 6 0) d = false
  | 0 => rfl
  | d + 1 => by rw [anyF, any_zero T d, rd_zero]; simp
theorem hand_in (r : S26) (p : S41) (hp : VP r p) (pl : Int) : (handOf p pl).length = r.f3.length ∧ ∀ c ∈ handOf p pl, 0 ≤ c ∧ c ≤ 1000 := by
  unfold handOf
  split
  · exact ⟨hp.h0, hp.b0⟩
  · exact ⟨hp.h1, hp.b1⟩
theorem cells_le (r : S26) (p : S41) (hr : VR r) (hp : VP r p) : p.f0.length ≤ 64 := by
  have h1 := hp.n
  have : r.f1 * r.f2 ≤ 8 * 8 := Int.mul_le_mul hr.w.2 hr.h.2 (by have := hr.h.1; omega) (by omega)
  omega
theorem balance (r : S26) (p : S41) (hr : VR r) (hp : VP r p) (pl t : Int) (hpl : pl = 0 ∨ pl = 1) : ∃ b, (0 ≤ b ∧ b ≤ 1000000) ∧ Bal r.f3 t b (piecesV r.f3 p pl t) (haveV p pl) := by
  have hL := hr.t.2
  have hc := cells_le r p hr hp
  obtain ⟨hh, hb⟩ := hand_in r p hp pl
  have h0 : Bal r.f3 t 0 (0, 0, false) (List.replicate 6 0) := ⟨rfl, fun k _ => by rw [rd_zero]; omega, (sum_zero _ _).symm, (sum_zero _ _).symm, (any_zero _ _).symm⟩
  have h1 := bal_cells hL hpl p.f0 0 _ _ hp.c h0 (by omega) (by omega)
  exact ⟨_, by omega, bal_hands hL (handOf p pl) 0 _ _ _ hb (by omega) h1 (by omega) (by omega)⟩
/-! the reference's sums -/
theorem allF_is (L : List S104) (hv : List Int) (hL : L.length ≤ 6) (b : Int) (hb : 0 ≤ b) (hb2 : b ≤ 1000000) (hvv : ∀ k : Nat, k < 6 → 0 ≤ rd hv (k : Int) ∧ rd hv (k : Int) ≤ b) : ∀ (d i : Nat), i + d = L.length → allF hv (i : Int) (L.drop i) (sumF (fun _ => true) hv i) (anyF (TG L) hv i) = (sumF (fun _ => true) hv L.length, anyF (TG L) hv L.length) := by
  intro d
  induction d with
  | zero => intro i hi; rw [List.drop_of_length_le (by omega), allF, show i = L.length by omega]
  | succ d ih =>
    intro i hi
    have sa := sum_le (fun _ => true) hv b hb hvv i (by omega)
    have hvi := hvv i (by omega)
    have hl : (i : Int) * b ≤ 6 * 1000000 := Int.le_trans (Int.mul_le_mul_of_nonneg_right (show (i : Int) ≤ 6 by omega) hb) (by omega)
    rw [drop_pc L i (by omega), allF, tkG_is, w64 (by omega) (by omega), show (i : Int) + 1 = ((i + 1 : Nat) : Int) by omega]
    exact ih (i + 1) (by omega)
theorem someF_is (hv : List Int) (f : List Bool) (b : Int) (hb : 0 ≤ b) (hb2 : b ≤ 1000000) (hvv : ∀ k : Nat, k < 6 → 0 ≤ rd hv (k : Int) ∧ rd hv (k : Int) ≤ b) : ∀ (d i : Nat), i + d ≤ 6 → someF hv f d i (sumF (fun k => f.getD k false) hv i) = sumF (fun k => f.getD k false) hv (i + d) := by
  intro d
  induction d with
  | zero => intro i _; rfl
  | succ d ih =>
    intro i hi
    have sa := sum_le (fun k => f.getD k false) hv b hb hvv i (by omega)
    have hvi := hvv i (by omega)
    have hl : (i : Int) * b ≤ 6 * 1000000 := Int.le_trans (Int.mul_le_mul_of_nonneg_right (show (i : Int) ≤ 6 by omega) hb) (by omega)
    have e := ih (i + 1) (by omega)
    rw [sumF] at e
    rw [someF, show i + (d + 1) = (i + 1) + d by omega, ← e]
    by_cases hf : f.getD i false = true
    · rw [if_pos hf, if_pos hf, w64 (by omega) (by omega)]
    · rw [if_neg hf, if_neg hf, Int.add_zero]
/-! which types become which -/
theorem updF_is (L : List S104) : ∀ (d i : Nat) (f : List Bool), updF L d i f = (List.range' i d).foldl (Clo.upd (prL L)) f
  | 0, i, f => rfl
  | d + 1, i, f => by rw [updF, updF_is L d, List.range'_succ, List.foldl_cons]
theorem rndF_is (L : List S104) (n : Nat) : ∀ (d : Nat) (f : List Bool), rndF L n d f = Clo.full (prL L) n f d := by
  have comm : ∀ (d : Nat) (f : List Bool), Clo.full (prL L) n (updF L n 0 f) d = Clo.full (prL L) n f (d + 1) := by
    intro d
    induction d with
    | zero => intro f; rw [Clo.full, Clo.full, Clo.full, updF_is, List.range_eq_range']
    | succ d ih => intro f; rw [Clo.full, ih f, Clo.full.eq_def (prL L) n f (d + 1 + 1)]
  intro d
  induction d with
  | zero => intro f; rfl
  | succ d ih => intro f; rw [rndF, ih, comm]
theorem pr_in (r : S26) (hr : VR r) (k : Nat) (hk : k < r.f3.length) : 0 ≤ (rd_T104 r.f3 (k : Int)).f2 ∧ (rd_T104 r.f3 (k : Int)).f2 ≤ (r.f3.length : Int) := by
  have := hr.pc _ (pc_mem r.f3 (k : Int) (by omega) (by omega))
  exact ⟨this.2.2.1, this.2.2.2.1⟩
theorem bec_is (r : S26) (hr : VR r) (t : Nat) : ∀ (m k : Nat), k < r.f3.length → becL r.f3 (t : Int) m (k : Int) = Clo.D (prL r.f3) t m k := by
  intro m
  induction m with
  | zero =>
    intro k _
    rw [becL, Clo.D]
    by_cases h : k = t
    · subst h; rw [beq_self_eq_true, beq_self_eq_true]
    · rw [beq_eq_false_iff_ne.mpr h, beq_eq_false_iff_ne.mpr (fun e => h (by omega))]
  | succ m ih =>
    intro k hk
    obtain ⟨p0, p1⟩ := pr_in r hr k hk
    rw [becL, Clo.D]
    have hpl : prL r.f3 k = (rd_T104 r.f3 (k : Int)).f2.toNat := rfl
    by_cases h : k = t
    · rw [if_pos (by omega), h]; simp
    · rw [if_neg (by omega), beq_eq_false_iff_ne.mpr h, Bool.false_or]
      by_cases hz : (rd_T104 r.f3 (k : Int)).f2 = 0
      · rw [if_pos hz, hpl, hz]; rfl
      · rw [if_neg hz, decide_eq_true (show 0 < prL r.f3 k by omega), Bool.true_and, show (rd_T104 r.f3 (k : Int)).f2 - 1 = ((prL r.f3 k - 1 : Nat) : Int) by omega]
        exact ih _ (by omega)
theorem from_is (r : S26) (hr : VR r) (q : S98) (h0 : 0 ≤ q.f1) (h1 : q.f1 < (r.f3.length : Int)) (k : Nat) (hk : k < r.f3.length) : (fromL r.f3 q).getD k false = becL r.f3 q.f1 6 (k : Int) := by
  obtain ⟨t, ht⟩ := Int.eq_ofNat_of_zero_le h0
  have hL := hr.t.2
  rw [ht, bec_is r hr t 6 k hk]
  unfold fromL
  rw [ht, rndF_is, Int.toNat_natCast]
  refine Clo.full_is (fun k hk => ?_) (by rw [List.length_set, List.length_replicate]; omega) (fun k => ?_) 6 hL k hk
  · obtain ⟨p0, p1⟩ := pr_in r hr k hk
    unfold prL
    omega
  · simp only [List.getD_eq_getElem?_getD, List.getElem?_set, List.length_replicate, List.getElem?_replicate]
    by_cases h : t = k
    · subst h; rw [if_pos rfl, if_pos (by omega)]; simp
    · rw [if_neg h, beq_eq_false_iff_ne.mpr (fun e => h e.symm)]; split <;> rfl
/-! one condition -/
def endP (r : S26) (p : S41) (pl : Int) (q : S98) : Bool := outB (r.f6 && (piecesV r.f3 p pl q.f1).2.2) (piecesV r.f3 p pl q.f1).1 (piecesV r.f3 p pl q.f1).2.1 q false
theorem outB_or (g : Bool) (a s : Int) (q : S98) (o : Bool) : outB g a s q o = (o || outB g a s q false) := by unfold outB; rw [Bool.false_or]
theorem endsF_is (L : List S104) (hv : List Int) (g : Bool) (a : Int) : ∀ (qs : List S98) (o : Bool), endsF L hv g a qs o = (o || qs.any fun q => outB g a (someF hv (fromL L q) L.length 0 0) q false)
  | [], o => by simp [endsF]
  | q :: qs, o => by rw [endsF, endsF_is L hv g a qs, List.any_cons, outB_or, Bool.or_assoc]
theorem en_in (r : S26) (hr : VR r) (q : S98) (hq : q ∈ r.f7) : 0 ≤ q.f1 ∧ q.f1 < (r.f3.length : Int) := by
  obtain ⟨a, b, c, d, e⟩ := hr.e.2 q hq
  have := hr.t.1
  by_cases h0 : q.f0 = 0
  · have := (c h0).1; omega
  · by_cases h1 : q.f0 = 1
    · exact ⟨(d h1).1, (d h1).2.1⟩
    · have h2 : q.f0 = 2 := by omega
      exact ⟨(e h2).1, (e h2).2.1⟩
theorem tg_is (r : S26) (hr : VR r) (k : Nat) (hk : k < r.f3.length) : TG r.f3 k = TK r.f3 k := by
  have hw := (hr.pc _ (pc_mem r.f3 (k : Int) (by omega) (by omega))).2.2.2.2.2
  unfold TG TK
  rw [Bool.eq_iff_iff, List.any_eq_true, List.any_eq_true]
  constructor
  · rintro ⟨x, hx, h⟩; exact ⟨x, hx, decide_eq_true (by have := of_decide_eq_true h; omega)⟩
  · rintro ⟨x, hx, h⟩
    obtain ⟨_, _, _, _, _, _, _, h3, _⟩ := hw x hx
    exact ⟨x, hx, decide_eq_true (by have := of_decide_eq_true h; omega)⟩
theorem end_is (r : S26) (p : S41) (hr : VR r) (hp : VP r p) (pl : Int) (hpl : pl = 0 ∨ pl = 1) (q : S98) (hq : q ∈ r.f7) : endP r p pl q = outB (r.f6 && (allF (haveV p pl) 0 r.f3 0 false).2) (allF (haveV p pl) 0 r.f3 0 false).1 (someF (haveV p pl) (fromL r.f3 q) r.f3.length 0 0) q false := by
  obtain ⟨b, ⟨b0, b1⟩, B⟩ := balance r p hr hp pl q.f1 hpl
  have hL := hr.t.2
  obtain ⟨f0, f1⟩ := en_in r hr q hq
  have hA : allF (haveV p pl) 0 r.f3 0 false = (sumF (fun _ => true) (haveV p pl) r.f3.length, anyF (TG r.f3) (haveV p pl) r.f3.length) := allF_is r.f3 (haveV p pl) hL b b0 b1 B.v r.f3.length 0 (by omega)
  have hS := someF_is (haveV p pl) (fromL r.f3 q) b b0 b1 B.v r.f3.length 0 (by omega)
  rw [Nat.zero_add, sum_congr _ _ _ _ (fun k hk => from_is r hr q f0 f1 k hk)] at hS
  have hS2 : someF (haveV p pl) (fromL r.f3 q) r.f3.length 0 0 = _ := hS
  unfold endP
  rw [hA, hS2, B.a, B.s, B.t, any_congr _ _ _ _ (fun k hk => tg_is r hr k hk)]
theorem ableV_is (r : S26) (p : S41) (hr : VR r) (hp : VP r p) (pl : Int) (hpl : pl = 0 ∨ pl = 1) : ableV r p pl = ((r.f8 != 2) || r.f7.any (endP r p pl)) := by
  unfold ableV
  rw [endsF_is]
  congr 1
  rw [Bool.eq_iff_iff, List.any_eq_true, List.any_eq_true]
  constructor
  · rintro ⟨q, hq, h⟩; exact ⟨q, hq, (end_is r p hr hp pl hpl q hq).trans h⟩
  · rintro ⟨q, hq, h⟩; exact ⟨q, hq, (end_is r p hr hp pl hpl q hq).symm.trans h⟩
/-! the walks -/
theorem vals (r : S26) (p : S41) (hr : VR r) (hp : VP r p) (pl : Int) (hpl : pl = 0 ∨ pl = 1) : (pvB r.f3 && qvB r.f3 p pl) = true ∧ evB r.f7 = true := by
  have hL := hr.t.2
  have hc := cells_le r p hr hp
  refine ⟨Bool.and_eq_true_iff.2 ⟨Bool.and_eq_true_iff.2 ⟨decide_eq_true hL, List.all_eq_true.2 fun q hq => ?_⟩, Bool.and_eq_true_iff.2 ⟨Bool.and_eq_true_iff.2 ⟨List.all_eq_true.2 fun c h => decide_eq_true (hp.c c h), decide_eq_true (by omega)⟩, Bool.and_eq_true_iff.2 ⟨decide_eq_true hpl, decide_eq_true (Nat.le_of_eq (hand_in r p hp pl).1)⟩⟩⟩, Bool.and_eq_true_iff.2 ⟨decide_eq_true (by have := hr.e.1; omega), List.all_eq_true.2 fun q hq => decide_eq_true ?_⟩⟩
  · obtain ⟨_, _, p0, p1, p2, _⟩ := hr.pc q hq
    exact Bool.and_eq_true_iff.2 ⟨decide_eq_true ⟨p0, p1⟩, decide_eq_true (by omega)⟩
  · have := en_in r hr q hq; omega
theorem able_ev (r : S26) (p : S41) (hr : VR r) (hp : VP r p) (pl : Int) (hpl : pl = 0 ∨ pl = 1) : Ev (fun k => gamehalllaw3_able.f k r.f0 r.f1 r.f2 r.f3 r.f4 r.f5 r.f6 r.f7 r.f8 r.f9 r.f10 p.f0 p.f1.f0 p.f1.f1 p.f2 p.f3 pl) (ableV r p pl) := by
  obtain ⟨v1, v2⟩ := vals r p hr hp pl hpl
  have hc : ((pvB r.f3 && qvB r.f3 (posQ p.f0 p.f1.f0 p.f1.f1 p.f2 p.f3) pl) && evB r.f7) = true := Bool.and_eq_true_iff.2 ⟨v1, v2⟩
  unfold gamehalllaw3_able.f
  rw [if_pos hc]
  exact now rfl
theorem pieces_ev (r : S26) (p : S41) (hr : VR r) (hp : VP r p) (pl t : Int) (hpl : pl = 0 ∨ pl = 1) : Ev (fun k => claim_pieces.f k r.f0 r.f1 r.f2 r.f3 r.f4 r.f5 r.f6 r.f7 r.f8 r.f9 r.f10 p.f0 p.f1.f0 p.f1.f1 p.f2 p.f3 pl t) (piecesV r.f3 p pl t) := by
  have hc : (pvB r.f3 && qvB r.f3 (posQ p.f0 p.f1.f0 p.f1.f1 p.f2 p.f3) pl) = true := (vals r p hr hp pl hpl).1
  unfold claim_pieces.f
  rw [if_pos hc]
  exact now rfl
theorem j3_ev (r : S26) (p : S41) (pl s i : Int) (tk b rest : Bool) (q : S98) (e : Ev (fun k => claim_Able.l0 k pl r.f7 (r.f7.length : Int) (wrap64 (i + 1)) r.f0 r.f1 r.f2 r.f3 r.f4 r.f5 r.f6 r.f7 r.f8 r.f9 r.f10 p.f0 p.f1.f0 p.f1.f1 p.f2 p.f3) (rest, 0)) : Ev (fun k => claim_Able.j3 k pl s tk r.f7 (r.f7.length : Int) i b r.f0 r.f1 r.f2 r.f3 r.f4 r.f5 r.f6 r.f7 r.f8 r.f9 r.f10 p.f0 p.f1.f0 p.f1.f1 p.f2 p.f3 q.f0 q.f1 q.f2 q.f3) (b || ((decide (q.f0 = 1) && (decide (s > 0) || (r.f6 && tk))) || rest), 0) := by
  refine Ev.step (fun k => by rw [claim_Able.j3]) ?_
  refine ite (fun h => now (by rw [h]; rfl)) (fun hb => ?_)
  obtain rfl := Bool.eq_false_iff.mpr hb
  refine ite (fun h1 => ?_) (fun h1 => ev_eq e (by rw [decide_eq_false h1]; rfl))
  rw [decide_eq_true h1]
  refine ite (fun h2 => now (by rw [decide_eq_true h2]; rfl)) (fun h2 => ?_)
  rw [decide_eq_false h2]
  refine ite (fun h3 => ?_) (fun h3 => ev_eq e (by rw [Bool.eq_false_iff.mpr h3]; rfl))
  exact Aid.ite (fun h4 => now (by rw [h3, h4]; rfl)) (fun h4 => ev_eq e (by rw [h3, Bool.eq_false_iff.mpr h4]; rfl))
theorem j2_ev (r : S26) (p : S41) (pl a s i : Int) (tk b rest : Bool) (q : S98) (e : Ev (fun k => claim_Able.l0 k pl r.f7 (r.f7.length : Int) (wrap64 (i + 1)) r.f0 r.f1 r.f2 r.f3 r.f4 r.f5 r.f6 r.f7 r.f8 r.f9 r.f10 p.f0 p.f1.f0 p.f1.f1 p.f2 p.f3) (rest, 0)) : Ev (fun k => claim_Able.j2 k pl a s tk r.f7 (r.f7.length : Int) i b r.f0 r.f1 r.f2 r.f3 r.f4 r.f5 r.f6 r.f7 r.f8 r.f9 r.f10 p.f0 p.f1.f0 p.f1.f1 p.f2 p.f3 q.f0 q.f1 q.f2 q.f3) (b || ((decide (q.f0 = 0) && (decide (a ≥ q.f2) || (r.f6 && tk))) || ((decide (q.f0 = 1) && (decide (s > 0) || (r.f6 && tk))) || rest)), 0) := by
  refine Ev.step (fun k => by rw [claim_Able.j2]) ?_
  refine ite (fun h => now (by rw [h]; rfl)) (fun hb => ?_)
  obtain rfl := Bool.eq_false_iff.mpr hb
  refine ite (fun h1 => ?_) (fun h1 => ev_eq (j3_ev r p pl s i tk false rest q e) (by rw [decide_eq_false h1]; rfl))
  rw [decide_eq_true h1]
  refine ite (fun h2 => ev_eq (j3_ev r p pl s i tk true rest q e) (by rw [decide_eq_true h2]; rfl)) (fun h2 => ?_)
  rw [decide_eq_false h2]
  refine ite (fun h3 => ev_eq (j3_ev r p pl s i tk tk rest q e) (by rw [h3]; cases tk <;> rfl)) (fun h3 => ev_eq (j3_ev r p pl s i tk false rest q e) (by rw [Bool.eq_false_iff.mpr h3]; rfl))
theorem able_l0 (r : S26) (p : S41) (hr : VR r) (hp : VP r p) (pl : Int) (hpl : pl = 0 ∨ pl = 1) : ∀ (d i : Nat), i + d = r.f7.length → Ev (fun k => claim_Able.l0 k pl r.f7 (r.f7.length : Int) (i : Int) r.f0 r.f1 r.f2 r.f3 r.f4 r.f5 r.f6 r.f7 r.f8 r.f9 r.f10 p.f0 p.f1.f0 p.f1.f1 p.f2 p.f3) ((r.f7.drop i).any (endP r p pl), 0) := by
  have he := hr.e.1
  intro d
  induction d with
  | zero =>
    intro i hi
    rw [List.drop_of_length_le (by omega)]
    refine Ev.step (fun k => by rw [claim_Able.l0]) ?_
    exact ite (fun h => absurd h (by omega)) (fun _ => now rfl)
  | succ d ih =>
    intro i hi
    have e := ih (i + 1) (by omega)
    rw [show ((i + 1 : Nat) : Int) = wrap64 ((i : Int) + 1) by rw [w64 (by omega) (by omega)]; omega] at e
    refine Ev.step (fun k => by rw [claim_Able.l0]) ?_
    refine ite (fun _ => ?_) (fun h => absurd (by omega) h)
    refine ite (fun _ => ?_) (fun h => absurd (Int.natCast_nonneg _) h)
    refine ite (fun _ => ?_) (fun h => absurd (by omega) h)
    refine Ev.bind (pieces_ev r p hr hp pl _ hpl) ?_
    rw [drop_qe r.f7 i (by omega), List.any_cons]
    refine ite (fun h => ev_eq (j2_ev r p pl _ _ i _ true _ _ e) ?_) (fun h => ev_eq (j2_ev r p pl _ _ i _ _ _ _ e) ?_)
    · unfold endP outB; rw [h]; rfl
    · unfold endP outB
      rw [Bool.eq_false_iff.mpr h]
      have e2 : ((rd_T98 r.f7 (i : Int)).f0 == 2) = decide ((rd_T98 r.f7 (i : Int)).f0 = 2) := rfl
      congr 1
      generalize (decide ((rd_T98 r.f7 (i : Int)).f0 = 0) && _) = A
      generalize (decide ((rd_T98 r.f7 (i : Int)).f0 = 1) && _) = B
      generalize ((rd_T98 r.f7 (i : Int)).f0 == 2) = C at e2 ⊢
      rw [← e2]
      generalize List.any _ _ = D
      cases A <;> cases B <;> cases C <;> cases D <;> rfl
theorem Able_ev (r : S26) (p : S41) (hr : VR r) (hp : VP r p) (hc : Ev (fun k => place_Check.f k r.f0 r.f1 r.f2 r.f3 r.f4 r.f5 r.f6 r.f7 r.f8 r.f9 r.f10 p.f0 p.f1.f0 p.f1.f1 p.f2 p.f3) 0) (pl : Int) (hpl : pl = 0 ∨ pl = 1) : Ev (fun k => claim_Able.f k r.f0 r.f1 r.f2 r.f3 r.f4 r.f5 r.f6 r.f7 r.f8 r.f9 r.f10 p.f0 p.f1.f0 p.f1.f1 p.f2 p.f3 pl) (ableV r p pl, 0) := by
  unfold claim_Able.f
  refine Ev.bind hc ?_
  refine ite (fun _ => ?_) (fun h => absurd rfl h)
  refine ite (fun h => absurd h (by omega)) (fun _ => ?_)
  rw [decide_eq_false (show ¬ pl > 1 by omega), ableV_is r p hr hp pl hpl]
  refine Ev.step (fun k => by rw [claim_Able.j0]) ?_
  refine ite (fun h => absurd h (by decide)) (fun _ => ?_)
  refine ite (fun h => ?_) (fun h => now ?_)
  · rw [bne_eq_false_iff_eq.mpr h, Bool.false_or]
    exact able_l0 r p hr hp pl hpl r.f7.length 0 (by omega)
  · rw [bne_iff_ne.mpr h]; rfl
theorem Able_no (r : S26) (p : S41) (hc : Ev (fun k => place_Check.f k r.f0 r.f1 r.f2 r.f3 r.f4 r.f5 r.f6 r.f7 r.f8 r.f9 r.f10 p.f0 p.f1.f0 p.f1.f1 p.f2 p.f3) 0) (pl : Int) (hpl : pl < 0 ∨ pl > 1) : Ev (fun k => claim_Able.f k r.f0 r.f1 r.f2 r.f3 r.f4 r.f5 r.f6 r.f7 r.f8 r.f9 r.f10 p.f0 p.f1.f0 p.f1.f1 p.f2 p.f3 pl) (false, 1) := by
  unfold claim_Able.f
  refine Ev.bind hc ?_
  refine ite (fun _ => ?_) (fun h => absurd rfl h)
  have k : Ev (fun k => claim_Able.j0 k pl true r.f0 r.f1 r.f2 r.f3 r.f4 r.f5 r.f6 r.f7 r.f8 r.f9 r.f10 p.f0 p.f1.f0 p.f1.f1 p.f2 p.f3) (false, 1) := Ev.step (fun k => by rw [claim_Able.j0]) (ite (fun _ => now rfl) (fun h => absurd rfl h))
  refine ite (fun _ => k) (fun h => ?_)
  rw [decide_eq_true (show pl > 1 by omega)]
  exact k
theorem Able_bad (r : S26) (p : S41) (e : Int) (he : e ≠ 0) (hc : Ev (fun k => place_Check.f k r.f0 r.f1 r.f2 r.f3 r.f4 r.f5 r.f6 r.f7 r.f8 r.f9 r.f10 p.f0 p.f1.f0 p.f1.f1 p.f2 p.f3) e) (pl : Int) : Ev (fun k => claim_Able.f k r.f0 r.f1 r.f2 r.f3 r.f4 r.f5 r.f6 r.f7 r.f8 r.f9 r.f10 p.f0 p.f1.f0 p.f1.f1 p.f2 p.f3 pl) (false, e) := by
  unfold claim_Able.f
  exact Ev.bind hc (ite (fun h => absurd h he) (fun _ => now rfl))
theorem Fallen_no (r : S26) (p : S41) (e : Int) (he : e ≠ 0) (pl : Int) (h : Ev (fun k => claim_Able.f k r.f0 r.f1 r.f2 r.f3 r.f4 r.f5 r.f6 r.f7 r.f8 r.f9 r.f10 p.f0 p.f1.f0 p.f1.f1 p.f2 p.f3 (wrap64 (1 - pl))) (false, e)) : Ev (fun k => claim_Fallen.f k r.f0 r.f1 r.f2 r.f3 r.f4 r.f5 r.f6 r.f7 r.f8 r.f9 r.f10 p.f0 p.f1.f0 p.f1.f1 p.f2 p.f3 pl) (0, e) := by
  unfold claim_Fallen.f
  exact Ev.bind h (ite (fun h => absurd h he) (fun _ => now rfl))
/-! three in a row, no moves -/
def ticR : S26 := ⟨⟨#[84, 73, 67]⟩, 3, 3, [⟨83, 5, 0, []⟩], List.replicate 9 0, false, false, [⟨0, 0, 3, false⟩], 2, 0, 0⟩
def p0T : S41 := ⟨List.replicate 9 0, ⟨[5], [5]⟩, 0, 0⟩
def movT : List S38 := (List.range 9).map fun i => ⟨-1, (i : Nat), 0⟩
set_option maxRecDepth 100000 in
theorem gen_tic : Ev (fun k => moves_Gen.f k ticR.f0 ticR.f1 ticR.f2 ticR.f3 ticR.f4 ticR.f5 ticR.f6 ticR.f7 ticR.f8 ticR.f9 ticR.f10 p0T.f0 p0T.f1.f0 p0T.f1.f1 p0T.f2 p0T.f3) (onceM movT) := Ev.of (fun k => moves_Gen.mono _ _ _ _ _ _ _ _ _ _ _ _ _ _ _ _ k) (k := 400) (by kernel_rfl)
theorem once_tic : 0 < (onceM movT).length := by
  have h := ((once_spec movT).2 ⟨-1, 0, 0⟩).2 (by decide)
  cases hx : onceM movT with
  | nil => rw [hx] at h; cases h
  | cons a l => simp
set_option maxRecDepth 100000 in
theorem res_tic : Ev (fun k => ends_Result.f k ticR.f0 ticR.f1 ticR.f2 ticR.f3 ticR.f4 ticR.f5 ticR.f6 ticR.f7 ticR.f8 ticR.f9 ticR.f10 p0T.f0 p0T.f1.f0 p0T.f1.f1 p0T.f2 p0T.f3) 0 := by
  unfold ends_Result.f
  refine Ev.step (fun k => by rw [ends_Result.l0]) ?_
  refine ite (fun _ => ?_) (fun h => absurd (by decide) h)
  refine ite (fun _ => ?_) (fun h => absurd (by decide) h)
  refine ite (fun _ => ?_) (fun h => absurd (by decide) h)
  refine Ev.bind (a := false) (Ev.of (fun k => ends_holds.mono _ _ _ _ _ _ _ _ _ _ _ _ _ _ _ _ _ _ _ _ k) (k := 400) (by decide +kernel)) ?_
  refine ite (fun h => absurd h (by decide)) (fun _ => ?_)
  refine Ev.step (fun k => by rw [ends_Result.l0]) ?_
  refine ite (fun h => absurd h (by decide +kernel)) (fun _ => ?_)
  refine ite (fun h => absurd h (by decide)) (fun _ => ?_)
  refine Ev.step (fun k => by rw [ends_Result.j1]) ?_
  refine ite (fun h => absurd h (by decide)) (fun _ => ?_)
  refine Ev.bind gen_tic ?_
  have := once_tic
  exact ite (fun _ => now rfl) (fun h => absurd (by omega) h)
set_option maxRecDepth 100000 in
theorem run_tic : Ev (fun k => pl_all k ticR) (List.replicate 9 0, [5], [5], 0, 0, 0, 0) := by
  unfold pl_all
  refine Ev.bind (a := (List.replicate 9 0, [5], [5], 0, 0, 0)) (Ev.of (fun k => place_Begin.mono _ _ _ _ _ _ _ _ _ _ _ k) (k := 400) (by decide +kernel)) ?_
  refine ite (fun _ => ?_) (fun h => absurd rfl h)
  refine Ev.bind (a := ticR) (Ev.of (fun k => copied.mono ticR k) (k := 400) (by kernel_rfl)) ?_
  unfold pl_end
  refine ite (fun _ => ?_) (fun h => absurd rfl h)
  refine bind_now (a := (List.replicate 9 0, [5], [5], 0, 0)) (by decide +kernel) ?_
  have e : Ev (fun k => pl_result k ticR [p0T]) 0 := by
    unfold pl_result
    refine Ev.bind (a := 0) res_tic ?_
    refine ite (fun _ => ?_) (fun h => absurd rfl h)
    exact ite (fun h => absurd h (by decide)) (fun _ => now rfl)
  exact Ev.bind (a := 0) e (now rfl)
set_option maxRecDepth 100000 in
theorem claims_f : Ev (fun k => gamehalllaw3_claims.f k) true := by
  have rep : Ev (fun k => claim_Repeats.f k ticR.f0 ticR.f1 ticR.f2 ticR.f3 ticR.f4 ticR.f5 ticR.f6 ticR.f7 ticR.f8 ticR.f9 ticR.f10 []) (1, 0) := by
    unfold claim_Repeats.f
    refine ite (fun _ => ?_) (fun h => absurd rfl h)
    unfold rep0
    refine Ev.bind run_tic ?_
    refine ite (fun _ => ?_) (fun h => absurd rfl h)
    refine Ev.bind (a := (List.replicate 9 0, [5], [5], 0, 0)) (Ev.of (fun k => place_Fresh.mono _ _ _ _ _ _ _ _ _ _ _ k) (k := 400) (by decide +kernel)) ?_
    refine Ev.bind (a := true) (Ev.of (fun k => place_Same.mono _ _ _ _ _ _ _ _ _ _ k) (k := 400) (by decide +kernel)) ?_
    exact now rfl
  unfold gamehalllaw3_claims.f
  have T : gamehalllaw3_tic.f = some (ticR.f0, ticR.f1, ticR.f2, ticR.f3, ticR.f4, ticR.f5, ticR.f6, ticR.f7, ticR.f8, ticR.f9, ticR.f10) := by
    unfold gamehalllaw3_tic.f; rw [if_pos (by decide)]; rfl
  refine bind_now T ?_
  refine Ev.bind rep ?_
  exact ite (fun _ => now rfl) (fun h => absurd rfl h)
theorem law_f (r : S26) (p : S41) (a : Int) (hw : wf26 r) (hwp : wf41 p) (ha : -9223372036854775808 ≤ a ∧ a ≤ 9223372036854775807) : Ev (fun k => gamehalllaw3_ClaimFalls.f k r.f0 r.f1 r.f2 r.f3 r.f4 r.f5 r.f6 r.f7 r.f8 r.f9 r.f10 p.f0 p.f1.f0 p.f1.f1 p.f2 p.f3 a) true := by
  unfold gamehalllaw3_ClaimFalls.f
  refine Ev.bind claims_f ?_
  refine ite (fun _ => ?_) (fun h => absurd rfl h)
  refine bind_now (a := decide ((r.f4.length : Int) > 20)) rfl ?_
  refine ite (fun _ => now rfl) (fun _ => ?_)
  obtain ⟨e0, e, _, hc, _, hv⟩ := place_one r p hw hwp
  by_cases he : e = 0
  · subst he
    obtain ⟨hr, hp⟩ := hv rfl
    by_cases hpl : a = 0 ∨ a = 1
    · have h1 : wrap64 (1 - a) = 0 ∨ wrap64 (1 - a) = 1 := by rw [w64 (by omega) (by omega)]; omega
      have hA := able_ev r p hr hp a hpl
      have hO := able_ev r p hr hp (wrap64 (1 - a)) h1
      have hF : Ev (fun k => claim_Fallen.f k r.f0 r.f1 r.f2 r.f3 r.f4 r.f5 r.f6 r.f7 r.f8 r.f9 r.f10 p.f0 p.f1.f0 p.f1.f1 p.f2 p.f3 a) (if ableV r p (wrap64 (1 - a)) = true then wrap64 (2 - a) else 3, 0) := by
        unfold claim_Fallen.f
        refine Ev.bind (Able_ev r p hr hp hc _ h1) ?_
        refine ite (fun _ => ?_) (fun h => absurd rfl h)
        exact ite (fun h => now (by rw [if_pos h])) (fun h => now (by rw [if_neg h]))
      refine Ev.bind (Able_ev r p hr hp hc a hpl) (Ev.bind hF (Ev.bind hc ?_))
      refine ite (fun _ => ?_) (fun h => absurd rfl h)
      have hj : Ev (fun k => gamehalllaw3_ClaimFalls.j0 k a (ableV r p a) 0 (if ableV r p (wrap64 (1 - a)) = true then wrap64 (2 - a) else 3) 0 false r.f0 r.f1 r.f2 r.f3 r.f4 r.f5 r.f6 r.f7 r.f8 r.f9 r.f10 p.f0 p.f1.f0 p.f1.f1 p.f2 p.f3) true := by
        refine Ev.step (fun k => by rw [gamehalllaw3_ClaimFalls.j0]) ?_
        refine ite (fun h => absurd h (by decide)) (fun _ => ?_)
        refine Ev.bind hO ?_
        refine ite (fun h => ?_) (fun h => ?_)
        · refine ite (fun _ => ?_) (fun h => absurd rfl h)
          refine Ev.bind hA ?_
          refine ite (fun _ => ?_) (fun h => absurd (beq_self_eq_true _) h)
          refine ite (fun _ => now ?_) (fun h => absurd rfl h)
          rw [if_pos h]; exact beq_self_eq_true _
        · refine ite (fun _ => ?_) (fun h => absurd rfl h)
          refine Ev.bind hA ?_
          refine ite (fun _ => ?_) (fun h => absurd (beq_self_eq_true _) h)
          refine ite (fun _ => now ?_) (fun h => absurd rfl h)
          rw [if_neg h]; rfl
      refine ite (fun _ => hj) (fun h => ?_)
      rw [bne_eq_false_iff_eq.mpr (show a = 1 by omega)]
      exact hj
    · have h1 : wrap64 (1 - a) < 0 ∨ wrap64 (1 - a) > 1 := by unfold wrap64; omega
      refine Ev.bind (Able_no r p hc a (by omega)) (Ev.bind (Fallen_no r p 1 (by decide) a (Able_no r p hc _ h1)) (Ev.bind hc ?_))
      refine ite (fun _ => ?_) (fun h => absurd rfl h)
      refine ite (fun h => absurd (.inl h) hpl) (fun _ => ?_)
      rw [bne_iff_ne.mpr (show a ≠ 1 from fun h => hpl (.inr h))]
      refine Ev.step (fun k => by rw [gamehalllaw3_ClaimFalls.j0]) ?_
      refine ite (fun _ => ?_) (fun h => absurd rfl h)
      refine ite (fun _ => ?_) (fun h => absurd rfl h)
      refine ite (fun _ => ?_) (fun h => absurd rfl h)
      exact ite (fun h => absurd h (by decide)) (fun _ => now rfl)
  · refine Ev.bind (Able_bad r p e he hc a) (Ev.bind (Fallen_no r p e he a (Able_bad r p e he hc _)) (Ev.bind hc ?_))
    refine ite (fun h => absurd h he) (fun _ => ?_)
    refine ite (fun _ => ?_) (fun h => absurd rfl h)
    refine ite (fun _ => ?_) (fun h => absurd rfl h)
    exact ite (fun h => absurd h Bool.false_ne_true) (fun _ => now rfl)
end Co
theorem ClaimFalls : gamehalllaw3_ClaimFalls.Pure := fun x y a hx hy ha => (Co.law_f x y a hx hy (Aid.wf_i64 ha)).rounds
end Go.Proofs.Ytkpphlimnnifkaa.Pure
