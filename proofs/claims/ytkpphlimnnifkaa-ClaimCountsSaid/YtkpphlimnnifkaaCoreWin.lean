/- ends.Result at valid positions (no reference). -/
import Derived.Test.YtkpphlimnnifkaaPlaceSide
import Derived.Test.YtkpphlimnnifkaaPClaimCountsx10
namespace Go.Proofs.Ytkpphlimnnifkaa.Pure
open Go.RowKit Go.Proofs.Ytkpphlimnnifkaa.PClaimCounts Go.Proofs.YtkpphlimnnifkaaW.PrintWords Go.Proofs.YtkpphlimnnifkaaW.PrintLast
set_option linter.unusedSimpArgs false
set_option linter.unusedVariables false
namespace Co
open Aid
def run (r : S26) (p : S41) (pl dx dy : Int) : Nat → Int → Int → Bool
  | 0, _, _ => true
  | n + 1, x, y => if onB r x y ∧ own (rd p.f0 (sq r x y)) = pl then run r p pl dx dy n (x + dx) (y + dy) else false
def DX (i : Nat) : Int := rd ([1, 0, 1, 1] : List Int) (i : Int)
def DY (i : Nat) : Int := rd ([0, 1, 1, -1] : List Int) (i : Int)
def rowB (r : S26) (p : S41) (pl c : Int) : Bool := (List.range' 0 p.f0.length).any fun s => (List.range' 0 4).any fun i => run r p pl (DX i) (DY i) c.toNat ((s : Int) % r.f1) ((s : Int) / r.f1)
theorem row_l2 (r : S26) (p : S41) (hr : VR r) (hp : VP r p) (pl c s m u v dx dy : Int) (c1 : 1 ≤ c) (c2 : c ≤ 64) (hdx : -1 ≤ dx ∧ dx ≤ 1) (hdy : -1 ≤ dy ∧ dy ≤ 1) (res : Bool) (e : Ev (fun k => ends_row.l1 k pl c s m u (wrap64 (v + 1)) 1 0 0 1 1 1 1 (-1) r.f0 r.f1 r.f2 r.f3 r.f4 r.f5 r.f6 r.f7 r.f8 r.f9 r.f10 p.f0 p.f1.f0 p.f1.f1 p.f2 p.f3) res) :
    ∀ (d : Nat) (n x y : Int), 0 ≤ n → n + d = c → -100 + n ≤ x → x ≤ 100 + n → -100 + n ≤ y → y ≤ 100 + n → Ev (fun k => ends_row.l2 k pl c s x y n m u v 1 0 0 1 1 1 1 (-1) r.f0 r.f1 r.f2 r.f3 r.f4 r.f5 r.f6 r.f7 r.f8 r.f9 r.f10 p.f0 p.f1.f0 p.f1.f1 p.f2 p.f3 dx dy) (if run r p pl dx dy d x y = true then true else res) := by
  obtain ⟨w0, w1⟩ := hr.w
  obtain ⟨v0, v1⟩ := hr.h
  have ex : ∀ n : Int, ∀ b : Bool, (n = c → b = true) → (n ≠ c → b = res) → Ev (fun k => if n = c then some true else ends_row.l1 k pl c s m u (wrap64 (v + 1)) 1 0 0 1 1 1 1 (-1) r.f0 r.f1 r.f2 r.f3 r.f4 r.f5 r.f6 r.f7 r.f8 r.f9 r.f10 p.f0 p.f1.f0 p.f1.f1 p.f2 p.f3) b := by
    intro n b h1 h2
    exact ite (fun h => now (h1 h).symm) (fun h => ev_eq e (h2 h).symm)
  intro d
  induction d with
  | zero =>
    intro n x y n0 hn x0 x1 y0 y1
    have hnc : n = c := by omega
    refine Ev.step (fun k => by rw [ends_row.l2]) ?_
    rw [run, if_pos rfl]
    have f := ex n true (fun _ => rfl) (fun h => absurd hnc h)
    exact ite (fun _ => ite (fun _ => ite (fun _ => ite (fun _ => ite (fun h => absurd h (by omega)) (fun _ => f)) (fun _ => f)) (fun _ => f)) (fun _ => f)) (fun _ => f)
  | succ d ih =>
    intro n x y n0 hn x0 x1 y0 y1
    refine Ev.step (fun k => by rw [ends_row.l2]) ?_
    rw [run]
    have hnc : n ≠ c := by omega
    have off : ¬ onB r x y → Ev (fun k => if n = c then some true else ends_row.l1 k pl c s m u (wrap64 (v + 1)) 1 0 0 1 1 1 1 (-1) r.f0 r.f1 r.f2 r.f3 r.f4 r.f5 r.f6 r.f7 r.f8 r.f9 r.f10 p.f0 p.f1.f0 p.f1.f1 p.f2 p.f3) (if (if onB r x y ∧ own (rd p.f0 (sq r x y)) = pl then run r p pl dx dy d (x + dx) (y + dy) else false) = true then true else res) := by
      intro h
      refine ex n _ (fun hh => absurd hh hnc) (fun _ => ?_)
      rw [if_neg (c := onB r x y ∧ own (rd p.f0 (sq r x y)) = pl) (fun hh => h hh.1)]; rfl
    refine ite (fun h1 => ?_) (fun h => off (fun hb => by obtain ⟨a, _⟩ := hb; omega))
    refine ite (fun h2 => ?_) (fun h => off (fun hb => by obtain ⟨_, a, _⟩ := hb; omega))
    refine ite (fun h3 => ?_) (fun h => off (fun hb => by obtain ⟨_, _, a, _⟩ := hb; omega))
    refine ite (fun h4 => ?_) (fun h => off (fun hb => by obtain ⟨_, _, _, a⟩ := hb; omega))
    have hb : onB r x y := ⟨h1, h2, h3, h4⟩
    obtain ⟨s0, s1, s2, s3⟩ := sq_in hr hb
    have ha := area hr
    have hl := hp.n
    refine ite (fun _ => ?_) (fun h => absurd (by omega) h)
    have ei : wrap64 (wrap64 (y * r.f1) + x) = sq r x y := by
      rw [w64 (n := y * r.f1) (by omega) (by omega), w64 (by omega) (by omega)]; rfl
    rw [ei]
    refine ite (fun _ => ?_) (fun h => absurd s2 h)
    refine ite (fun _ => ?_) (fun h => absurd (by omega) h)
    have hc := hp.cell hr _ s2 (by omega)
    refine bind_now (owner_f _ ⟨hc.1, hc.2.1⟩) ?_
    refine ite (fun ho => ?_) (fun ho => ?_)
    · rw [if_pos (c := onB r x y ∧ own (rd p.f0 (sq r x y)) = pl) ⟨hb, ho⟩, w64 (n := x + dx) (by omega) (by omega), w64 (n := y + dy) (by omega) (by omega), w64 (n := n + 1) (by omega) (by omega)]
      exact ih (n + 1) (x + dx) (y + dy) (by omega) (by omega) (by omega) (by omega) (by omega) (by omega)
    · refine ex n _ (fun hh => absurd hh hnc) (fun _ => ?_)
      rw [if_neg (c := onB r x y ∧ own (rd p.f0 (sq r x y)) = pl) (fun hh => ho hh.2)]; rfl
theorem DX_in (i : Nat) (h : i < 4) : (-1 ≤ DX i ∧ DX i ≤ 1) ∧ (-1 ≤ DY i ∧ DY i ≤ 1) := by
  have : i = 0 ∨ i = 1 ∨ i = 2 ∨ i = 3 := by omega
  rcases this with h | h | h | h <;> subst h <;> decide
theorem row_l1 (r : S26) (p : S41) (hr : VR r) (hp : VP r p) (pl c m : Int) (u : Nat) (hu : (u : Int) < (p.f0.length : Int)) (c1 : 1 ≤ c) (c2 : c ≤ 64) (res : Bool) (e : Ev (fun k => ends_row.l0 k pl c m (wrap64 ((u : Int) + 1)) r.f0 r.f1 r.f2 r.f3 r.f4 r.f5 r.f6 r.f7 r.f8 r.f9 r.f10 p.f0 p.f1.f0 p.f1.f1 p.f2 p.f3) res) :
    ∀ (d i : Nat), i + d = 4 → Ev (fun k => ends_row.l1 k pl c (u : Int) m (u : Int) (i : Int) 1 0 0 1 1 1 1 (-1) r.f0 r.f1 r.f2 r.f3 r.f4 r.f5 r.f6 r.f7 r.f8 r.f9 r.f10 p.f0 p.f1.f0 p.f1.f1 p.f2 p.f3) (if ((List.range' i d).any fun i => run r p pl (DX i) (DY i) c.toNat ((u : Int) % r.f1) ((u : Int) / r.f1)) = true then true else res) := by
  obtain ⟨w0, w1⟩ := hr.w
  have hl := hp.len hr
  have hn := hp.n
  have hon := (onB_of r hr (u : Int) (by omega) (by omega)).1
  obtain ⟨o0, o1, o2, o3⟩ := hon
  obtain ⟨v0, v1⟩ := hr.h
  intro d
  induction d with
  | zero =>
    intro i hi
    refine Ev.step (fun k => by rw [ends_row.l1]) ?_
    exact ite (fun h => absurd h (by omega)) (fun _ => by simpa using e)
  | succ d ih =>
    intro i hi
    have hi4 : (i : Int) < 4 := by omega
    have hi5 : i < 4 := by omega
    have hi0 : (0 : Int) ≤ (i : Int) := by omega
    have hid : i + 1 + d = 4 := by omega
    have hd : 0 ≤ (u : Int) / r.f1 ∧ (u : Int) / r.f1 ≤ (u : Int) := ⟨Int.ediv_nonneg (by omega) (by omega), Int.ediv_le_self _ (by omega)⟩
    have hw1 : r.f1 ≠ 0 := by omega
    have e2 := ih (i + 1) hid
    rw [show ((i + 1 : Nat) : Int) = wrap64 ((i : Int) + 1) by rw [w64s (by omega) (by omega)]; omega] at e2
    refine Ev.step (fun k => by rw [ends_row.l1]) ?_
    refine ite (fun _ => ?_) (fun h => absurd (by first | exact hi4 | exact ⟨hi0, hi4⟩ | exact ⟨hi4, hi0⟩ | exact hi0 | exact hw1) h)
    refine ite (fun _ => ?_) (fun h => absurd (by first | exact hi4 | exact ⟨hi0, hi4⟩ | exact ⟨hi4, hi0⟩ | exact hi0 | exact hw1) h)
    refine ite (fun h => absurd h (by first | exact hw1 | omega)) (fun _ => ?_)
    rw [Int.tmod_eq_emod_of_nonneg (a := (u : Int)) (by omega), Int.tdiv_eq_ediv_of_nonneg (a := (u : Int)) (by omega), w64 (n := (u : Int) / r.f1) (by omega) (by omega)]
    have hD := DX_in i hi5
    have h := row_l2 r p hr hp pl c (u : Int) m (u : Int) (i : Int) (DX i) (DY i) c1 c2 hD.1 hD.2 _ e2 c.toNat 0 ((u : Int) % r.f1) ((u : Int) / r.f1) (by omega) (by omega) (by omega) (by omega) (by omega) (by omega)
    refine ev_eq h ?_
    rw [List.range'_succ, List.any_cons]
    cases run r p pl (DX i) (DY i) c.toNat ((u : Int) % r.f1) ((u : Int) / r.f1) <;> simp
theorem row_l0 (r : S26) (p : S41) (hr : VR r) (hp : VP r p) (pl c : Int) (c1 : 1 ≤ c) (c2 : c ≤ 64) :
    ∀ (d s : Nat), s + d = p.f0.length → Ev (fun k => ends_row.l0 k pl c (p.f0.length : Int) (s : Int) r.f0 r.f1 r.f2 r.f3 r.f4 r.f5 r.f6 r.f7 r.f8 r.f9 r.f10 p.f0 p.f1.f0 p.f1.f1 p.f2 p.f3) ((List.range' s d).any fun s => (List.range' 0 4).any fun i => run r p pl (DX i) (DY i) c.toNat ((s : Int) % r.f1) ((s : Int) / r.f1)) := by
  have hl := hp.len hr
  intro d
  induction d with
  | zero =>
    intro s hs
    refine Ev.step (fun k => by rw [ends_row.l0]) ?_
    exact ite (fun h => absurd h (by omega)) (fun _ => now (by simp))
  | succ d ih =>
    intro s hs
    have hwr : ((s + 1 : Nat) : Int) = wrap64 ((s : Int) + 1) := by rw [w64s (by omega) (by omega)]; omega
    refine Ev.step (fun k => by rw [ends_row.l0]) ?_
    refine ite (fun _ => ?_) (fun h => absurd (by omega) h)
    have e := ih (s + 1) (by omega)
    rw [hwr] at e
    have h := row_l1 r p hr hp pl c (p.f0.length : Int) s (by omega) c1 c2 _ e 4 0 (by omega)
    refine ev_eq h ?_
    rw [List.range'_succ (s := s), List.any_cons]
    cases (List.range' 0 4).any fun i => run r p pl (DX i) (DY i) c.toNat ((s : Int) % r.f1) ((s : Int) / r.f1) <;> simp
theorem row_f (r : S26) (p : S41) (hr : VR r) (hp : VP r p) (pl c : Int) (c1 : 1 ≤ c) (c2 : c ≤ 64) : Ev (fun k => ends_row.f k r.f0 r.f1 r.f2 r.f3 r.f4 r.f5 r.f6 r.f7 r.f8 r.f9 r.f10 p.f0 p.f1.f0 p.f1.f1 p.f2 p.f3 pl c) (rowB r p pl c) := by
  unfold ends_row.f rowB
  exact row_l0 r p hr hp pl c c1 c2 p.f0.length 0 (by omega)
/-! the reference's rows -/
def v1 (q : S98) (pl : Int) : Int := 2 * q.f1 + pl + 1
def anyF (r : S26) (p : S41) (pl v : Int) (s d : Nat) : Bool := (List.range' s d).any fun s => decide (rd p.f0 (s : Int) = v) && farB r pl (s : Int)
def cnt (p : S41) (v : Int) (s : Nat) : Int := (((p.f0.drop s).count v : Nat) : Int)
def holdsB (r : S26) (p : S41) (q : S98) : Bool := if q.f0 = 0 then rowB r p (1 - p.f2) q.f2 else if q.f0 = 1 then anyF r p (1 - p.f2) (v1 q (1 - p.f2)) 0 p.f0.length else decide (cnt p (v1 q p.f2) 0 < q.f2)
def resL (r : S26) (p : S41) (tl : Int) : List S98 → Int
  | [] => tl
  | q :: qs => if holdsB r p q = true then (if q.f3 = true then 1 + p.f2 else 1 + (1 - p.f2)) else resL r p tl qs
def tailR (r : S26) (p : S41) : Int := if r.f9 > 0 ∧ p.f3 ≥ r.f9 then 3 else if ((onceM (rawM r p)).length : Int) > 0 then 0 else if r.f8 = 0 then 1 + (1 - p.f2) else if r.f8 = 1 then 1 + p.f2 else 3
structure QV (r : S26) (q : S98) : Prop where
  k : 0 ≤ q.f0 ∧ q.f0 ≤ 2
  p : 0 ≤ q.f1 ∧ q.f1 ≤ 6
  c : q.f0 ≠ 1 → 1 ≤ q.f2 ∧ q.f2 ≤ 64
theorem qv_of (r : S26) (hr : VR r) (q : S98) (h : q ∈ r.f7) : QV r q := by
  obtain ⟨h0, h1, h2, h3, h4⟩ := hr.e.2 q h
  have ht := hr.t
  refine ⟨⟨h0, h1⟩, ?_, ?_⟩
  · rcases (show q.f0 = 0 ∨ q.f0 = 1 ∨ q.f0 = 2 by omega) with h | h | h
    · have := h2 h; omega
    · have := h3 h; omega
    · have := h4 h; omega
  · intro hk
    rcases (show q.f0 = 0 ∨ q.f0 = 2 by omega) with h | h
    · have := h2 h; omega
    · have := h4 h; omega
theorem cell_v (a pl : Int) (h : 0 ≤ a ∧ a ≤ 6) (hpl : 0 ≤ pl ∧ pl ≤ 1) : wrap64 (wrap64 (wrap64 (2 * a) + pl) + 1) = 2 * a + pl + 1 := by
  rw [w64 (n := 2 * a) (by omega) (by omega), w64 (n := 2 * a + pl) (by omega) (by omega), w64 (by omega) (by omega)]
theorem Cell_f (q : S98) (pl : Int) (h : 0 ≤ q.f1 ∧ q.f1 ≤ 6) (hpl : 0 ≤ pl ∧ pl ≤ 1) : moves_Cell.f q.f1 pl = some (v1 q pl) := by
  unfold moves_Cell.f v1; rw [cell_v _ _ h hpl]
theorem drop_rd (xs : List Int) (s : Nat) (h : s < xs.length) : xs.drop s = rd xs (s : Int) :: xs.drop (s + 1) := by
  rw [List.drop_eq_getElem_cons h, rd_nat xs s h]
theorem cnt_step (p : S41) (v : Int) (s : Nat) (h : s < p.f0.length) : cnt p v s = (if rd p.f0 (s : Int) = v then 1 else 0) + cnt p v (s + 1) := by
  unfold cnt
  rw [drop_rd p.f0 s h, List.count_cons]
  by_cases h : rd p.f0 (s : Int) = v
  · simp [h]; omega
  · simp [h]
theorem cnt_end (p : S41) (v : Int) (s : Nat) (h : s = p.f0.length) : cnt p v s = 0 := by
  unfold cnt; rw [h, List.drop_length]; rfl
theorem drop_en (xs : List S98) (s : Nat) (h : s < xs.length) : xs.drop s = rd_T98 xs (s : Int) :: xs.drop (s + 1) := by
  rw [List.drop_eq_getElem_cons h]; simp [rd_T98, List.getD_eq_getElem?_getD, h]
theorem en_mem (xs : List S98) (s : Nat) (h : s < xs.length) : rd_T98 xs (s : Int) ∈ xs := by
  have : rd_T98 xs (s : Int) = xs[s] := by simp [rd_T98, List.getD_eq_getElem?_getD, h]
  rw [this]; exact List.getElem_mem h
theorem nxt (s n : Nat) (h : s < n) (hn : n ≤ 100) : wrap64 ((s : Int) + 1) = ((s + 1 : Nat) : Int) := by rw [w64s (by omega) (by omega)]; omega
/-! ends.holds -/
theorem hold_l0 (r : S26) (p : S41) (hr : VR r) (hp : VP r p) (q : S98) (hq : QV r q) (pl : Int) (hpl : 0 ≤ pl ∧ pl ≤ 1) :
    ∀ (d s : Nat), s + d = p.f0.length → Ev (fun k => ends_holds.l0 k pl p.f0 (p.f0.length : Int) (s : Int) r.f0 r.f1 r.f2 r.f3 r.f4 r.f5 r.f6 r.f7 r.f8 r.f9 r.f10 q.f0 q.f1 q.f2 q.f3) (anyF r p pl (v1 q pl) s d) := by
  have hl := hp.len hr
  intro d
  induction d with
  | zero =>
    intro s hs
    refine Ev.step (fun k => by rw [ends_holds.l0]) ?_
    exact ite (fun h => absurd h (by omega)) (fun _ => now (by simp [anyF]))
  | succ d ih =>
    intro s hs
    have hs1 : s < p.f0.length := by omega
    have hs2 : (s : Int) < (p.f0.length : Int) := by omega
    have e2 := ih (s + 1) (by omega)
    rw [← nxt s _ hs1 (by omega)] at e2
    refine Ev.step (fun k => by rw [ends_holds.l0]) ?_
    refine ite (fun _ => ?_) (fun h => absurd hs2 h)
    refine ite (fun _ => ?_) (fun h => absurd (Int.natCast_nonneg _) h)
    refine ite (fun _ => ?_) (fun h => absurd hs2 h)
    refine bind_now (Cell_f q pl hq.p hpl) ?_
    unfold anyF
    rw [List.range'_succ, List.any_cons]
    refine ite (fun h => ?_) (fun h => ?_)
    · refine bind_now (far_f r hr pl (s : Int) (by omega) (by omega)) ?_
      refine ite (fun h2 => now (by simp [h, h2])) (fun h2 => ev_eq e2 (by simp [h, h2, anyF]))
    · exact ev_eq e2 (by simp [h, anyF])
theorem hold_l1 (r : S26) (p : S41) (hr : VR r) (hp : VP r p) (q : S98) (hq : QV r q) :
    ∀ (d s : Nat) (n : Int), s + d = p.f0.length → 0 ≤ n → n ≤ s → Ev (fun k => ends_holds.l1 k n p.f0 (p.f0.length : Int) (s : Int) p.f0 p.f1.f0 p.f1.f1 p.f2 p.f3 q.f0 q.f1 q.f2 q.f3) (decide (n + cnt p (v1 q p.f2) s < q.f2)) := by
  have hl := hp.len hr
  have ht : 0 ≤ p.f2 ∧ p.f2 ≤ 1 := by have := hp.t; omega
  intro d
  induction d with
  | zero =>
    intro s n hs n0 n1
    refine Ev.step (fun k => by rw [ends_holds.l1]) ?_
    exact ite (fun h => absurd h (by omega)) (fun _ => now (by rw [cnt_end p _ s (by omega), Int.add_zero]))
  | succ d ih =>
    intro s n hs n0 n1
    have hs1 : s < p.f0.length := by omega
    have hs2 : (s : Int) < (p.f0.length : Int) := by omega
    have hid : s + 1 + d = p.f0.length := by omega
    have i1 := ih (s + 1) (n + 1) hid (by omega) (by omega)
    have i0 := ih (s + 1) n hid n0 (by omega)
    have hn : wrap64 (n + 1) = n + 1 := w64 (by omega) (by omega)
    rw [← nxt s _ hs1 (by omega)] at i1 i0
    refine Ev.step (fun k => by rw [ends_holds.l1]) ?_
    refine ite (fun _ => ?_) (fun h => absurd hs2 h)
    refine ite (fun _ => ?_) (fun h => absurd (Int.natCast_nonneg _) h)
    refine ite (fun _ => ?_) (fun h => absurd hs2 h)
    refine bind_now (Cell_f q p.f2 hq.p ht) ?_
    rw [cnt_step p _ s hs1, hn]
    refine ite (fun h => ?_) (fun h => ?_)
    · rw [if_pos h, ← Int.add_assoc]; exact i1
    · rw [if_neg h, Int.zero_add]; exact i0
theorem holds_f (r : S26) (p : S41) (hr : VR r) (hp : VP r p) (q : S98) (hq : QV r q) : Ev (fun k => ends_holds.f k r.f0 r.f1 r.f2 r.f3 r.f4 r.f5 r.f6 r.f7 r.f8 r.f9 r.f10 p.f0 p.f1.f0 p.f1.f1 p.f2 p.f3 q.f0 q.f1 q.f2 q.f3) (holdsB r p q) := by
  have ht := hp.t
  have hm : wrap64 (1 - p.f2) = 1 - p.f2 := w64 (by omega) (by omega)
  unfold ends_holds.f holdsB
  rw [hm]
  refine ite (fun h => ?_) (fun h => ?_)
  · rw [if_pos h]
    have hc := hq.c (by omega)
    exact Ev.bind (row_f r p hr hp _ _ hc.1 hc.2) (now rfl)
  · rw [if_neg h]
    refine ite (fun h2 => ?_) (fun h2 => ?_)
    · rw [if_pos h2]
      exact hold_l0 r p hr hp q hq (1 - p.f2) (by omega) p.f0.length 0 (by omega)
    · rw [if_neg h2]
      exact ev_eq (hold_l1 r p hr hp q hq p.f0.length 0 0 (by omega) (by omega) (by omega)) (by rw [Int.zero_add])
/-! ends.Result -/
theorem tail_of (r : S26) (p : S41) (b : Bool) (h : b = true ↔ (r.f9 > 0 ∧ p.f3 ≥ r.f9)) : (if b = true then 3 else if ((onceM (rawM r p)).length : Int) > 0 then 0 else if r.f8 = 0 then 1 + (1 - p.f2) else if r.f8 = 1 then 1 + p.f2 else 3) = tailR r p := by
  unfold tailR
  by_cases hb : b = true
  · rw [if_pos hb, if_pos (h.1 hb)]
  · rw [if_neg hb, if_neg (fun hh => hb (h.2 hh))]
theorem wins_f (pl : Int) (h : 0 ≤ pl ∧ pl ≤ 1) : ends_wins.f pl = some (1 + pl) := by
  unfold ends_wins.f; rw [w64 (by omega) (by omega)]
theorem eres_j1 (r : S26) (p : S41) (hr : VR r) (hp : VP r p) (b : Bool) : Ev (fun k => ends_Result.j1 k (1 - p.f2) b r.f0 r.f1 r.f2 r.f3 r.f4 r.f5 r.f6 r.f7 r.f8 r.f9 r.f10 p.f0 p.f1.f0 p.f1.f1 p.f2 p.f3) (if b = true then 3 else if ((onceM (rawM r p)).length : Int) > 0 then 0 else if r.f8 = 0 then 1 + (1 - p.f2) else if r.f8 = 1 then 1 + p.f2 else 3) := by
  have ht := hp.t
  refine Ev.step (fun k => by rw [ends_Result.j1]) ?_
  refine ite (fun h => now (by rw [if_pos h])) (fun h => ?_)
  rw [if_neg h]
  have g := gen_f r p hr hp
  refine Ev.bind g ?_
  refine ite (fun h => now (by rw [if_pos h])) (fun h => ?_)
  rw [if_neg h]
  refine ite (fun h => ?_) (fun h => ?_)
  · rw [if_pos h]; exact bind_now (wins_f (1 - p.f2) (by omega)) (now rfl)
  · rw [if_neg h]
    refine ite (fun h => ?_) (fun h => now (by rw [if_neg h]))
    rw [if_pos h]; exact bind_now (wins_f p.f2 (by omega)) (now rfl)
theorem eres_f (r : S26) (p : S41) (hr : VR r) (hp : VP r p) : Ev (fun k => ends_Result.f k r.f0 r.f1 r.f2 r.f3 r.f4 r.f5 r.f6 r.f7 r.f8 r.f9 r.f10 p.f0 p.f1.f0 p.f1.f1 p.f2 p.f3) (resL r p (tailR r p) r.f7) := by
  have ht := hp.t
  have hle := hr.e.1
  have hm : wrap64 (1 - p.f2) = 1 - p.f2 := w64 (by omega) (by omega)
  have w1 := wins_f p.f2 (by omega)
  have w2 := wins_f (1 - p.f2) (by omega)
  have l0 : ∀ (d i : Nat), i + d = r.f7.length → Ev (fun k => ends_Result.l0 k (1 - p.f2) r.f7 (r.f7.length : Int) (i : Int) r.f0 r.f1 r.f2 r.f3 r.f4 r.f5 r.f6 r.f7 r.f8 r.f9 r.f10 p.f0 p.f1.f0 p.f1.f1 p.f2 p.f3) (resL r p (tailR r p) (r.f7.drop i)) := by
    intro d
    induction d with
    | zero =>
      intro i hi
      rw [List.drop_of_length_le (by omega)]
      unfold resL
      refine Ev.step (fun k => by rw [ends_Result.l0]) ?_
      refine ite (fun h => absurd h (by omega)) (fun _ => ?_)
      refine ite (fun h => ?_) (fun h => ?_)
      · exact ev_eq (eres_j1 r p hr hp _) (tail_of r p _ ⟨fun hh => ⟨h, of_decide_eq_true hh⟩, fun hh => decide_eq_true hh.2⟩)
      · exact ev_eq (eres_j1 r p hr hp _) (tail_of r p _ ⟨fun hh => absurd hh (by decide), fun hh => absurd hh.1 h⟩)
    | succ d ih =>
      intro i hi
      have hi1 : i < r.f7.length := by omega
      have hi2 : (i : Int) < (r.f7.length : Int) := by omega
      have e2 := ih (i + 1) (by omega)
      rw [← nxt i _ hi1 (by omega)] at e2
      rw [drop_en r.f7 i hi1]
      unfold resL
      refine Ev.step (fun k => by rw [ends_Result.l0]) ?_
      refine ite (fun _ => ?_) (fun h => absurd hi2 h)
      refine ite (fun _ => ?_) (fun h => absurd (Int.natCast_nonneg _) h)
      refine ite (fun _ => ?_) (fun h => absurd hi2 h)
      refine Ev.bind (holds_f r p hr hp _ (qv_of r hr _ (en_mem _ i hi1))) ?_
      refine ite (fun h => ?_) (fun h => ?_)
      · rw [if_pos h]
        refine ite (fun h => ?_) (fun h => ?_)
        · rw [if_pos h]; exact bind_now w1 (now rfl)
        · rw [if_neg h]; exact bind_now w2 (now rfl)
      · rw [if_neg h]; exact e2
  unfold ends_Result.f
  rw [hm]
  exact l0 r.f7.length 0 (by omega)
end Co
end Go.Proofs.Ytkpphlimnnifkaa.Pure
