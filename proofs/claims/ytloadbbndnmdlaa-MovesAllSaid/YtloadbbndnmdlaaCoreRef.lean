/- The reference: which moves it allows, and the list of them. -/
import Derived.Test.YtloadbbndnmdlaaPMovesAllx15
import Derived.Test.YtloadbbndnmdlaaCoreGen
namespace Go.Proofs.Ytloadbbndnmdlaa.Pure
open Go.RowKit Go.Proofs.Ytloadbbndnmdlaa.PMovesAll Go.Proofs.YtloadbbndnmdlaaW.PrintWords Go.Proofs.YtloadbbndnmdlaaW.PrintLast
set_option linter.unusedSimpArgs false
set_option linter.unusedVariables false
namespace Co
open Aid
theorem in_f (a b c : Int) : gamehallref1_In.f a b c = some (decide (b ≤ a ∧ a ≤ c)) := by
  unfold gamehallref1_In.f
  by_cases h1 : a ≥ b <;> by_cases h2 : a ≤ c <;> simp [h1, h2] <;> omega
theorem at_f (r : S26) (p : S29) (hr : VR r) (hp : VP r p) (x y : Int) : gamehallref1_At.f r.f0 r.f1 r.f2 r.f3 r.f4 r.f5 r.f6 r.f7 r.f8 r.f9 r.f10 p.f0 p.f1.f0 p.f1.f1 p.f2 p.f3 x y = some (if onB r x y then rd p.f0 (sq r x y) else -1) := by
  obtain ⟨w0, w1⟩ := hr.w
  obtain ⟨v0, v1⟩ := hr.h
  unfold gamehallref1_At.f
  rw [in_f, w64 (n := r.f1 - 1) (by omega) (by omega), Option.bind_some]
  by_cases h1 : 0 ≤ x ∧ x ≤ r.f1 - 1
  · rw [if_pos (by simpa using h1), in_f, w64 (n := r.f2 - 1) (by omega) (by omega), Option.bind_some]
    by_cases h2 : 0 ≤ y ∧ y ≤ r.f2 - 1
    · have hon : onB r x y := ⟨by omega, by omega, by omega, by omega⟩
      obtain ⟨s0, s1, s2, s3⟩ := sq_in hr hon
      have ha := area hr
      have hn := hp.n
      have e : wrap64 (wrap64 (y * r.f1) + x) = sq r x y := by
        rw [w64 (n := y * r.f1) (by omega) (by omega), w64 (by omega) (by omega)]; rfl
      rw [if_pos (by simpa using h2), e, if_pos s2, if_pos (by omega), if_pos hon]
    · rw [if_neg (by simpa using h2), if_neg (fun h => h2 (by obtain ⟨a, b, c, d⟩ := h; omega))]
  · rw [if_neg (by simpa using h1), if_neg (fun h => h1 (by obtain ⟨a, b, c, d⟩ := h; omega))]
def mine (c pl : Int) : Bool := decide (0 < c ∧ (c - 1) % 2 = pl)
theorem mine_f (c pl : Int) (h : c ≤ 12) : gamehallref1_Mine.f c pl = some (mine c pl) := by
  unfold gamehallref1_Mine.f mine
  by_cases h0 : c > 0
  · rw [if_pos h0, w64 (by omega) (by omega), Int.tmod_eq_emod_of_nonneg (by omega)]
    by_cases h1 : (c - 1) % 2 = pl <;> simp [h1] <;> omega
  · rw [if_neg h0]; simp; omega
theorem mine_own (c pl : Int) (h : 0 ≤ c) (hp : 0 ≤ pl) : mine c pl = true ↔ own c = pl := by
  unfold mine own
  by_cases h0 : c = 0
  · subst h0; simp; omega
  · rw [if_neg h0]; simp; omega
def reachB (r : S26) (p : S29) (dx dy take tq : Int) : Nat → Int → Int → Bool
  | 0, _, _ => false
  | n + 1, x, y => if onB r (x + dx) (y + dy) then (if sq r (x + dx) (y + dy) = tq then decide (takes p take (rd p.f0 (sq r (x + dx) (y + dy)))) else if 0 ≤ own (rd p.f0 (sq r (x + dx) (y + dy))) then false else reachB r p dx dy take tq n (x + dx) (y + dy)) else false
theorem ray_far (r : S26) (p : S29) (dx dy take tq : Int) : ∀ n x y, tq ∈ ray r p dx dy take n x y → ∃ j : Nat, 1 ≤ j ∧ onB r (x + j * dx) (y + j * dy) ∧ tq = sq r (x + j * dx) (y + j * dy) := by
  intro n
  induction n with
  | zero => intro x y h; simp [ray] at h
  | succ n ih =>
    intro x y h
    rw [ray] at h
    by_cases hb : onB r (x + dx) (y + dy)
    · rw [if_pos hb, List.mem_append] at h
      rcases h with h | h
      · split at h
        · rw [List.mem_singleton] at h
          exact ⟨1, Nat.le_refl _, by simpa using hb, by simpa using h⟩
        · cases h
      · split at h
        · cases h
        · obtain ⟨j, h1, h2, h3⟩ := ih _ _ h
          have ex : x + dx + j * dx = x + ((j + 1 : Nat) : Int) * dx := by rw [Int.natCast_add, Int.add_mul]; simp; omega
          have ey : y + dy + j * dy = y + ((j + 1 : Nat) : Int) * dy := by rw [Int.natCast_add, Int.add_mul]; simp; omega
          rw [ex, ey] at h2 h3
          exact ⟨j + 1, by omega, h2, h3⟩
    · rw [if_neg hb] at h; cases h
theorem mem_ray (r : S26) (p : S29) (dx dy take tq : Int) (hd : ¬ (dx = 0 ∧ dy = 0)) : ∀ n x y, tq ∈ ray r p dx dy take n x y ↔ reachB r p dx dy take tq n x y = true := by
  intro n
  induction n with
  | zero => intro x y; simp [ray, reachB]
  | succ n ih =>
    intro x y
    rw [ray, reachB]
    by_cases hb : onB r (x + dx) (y + dy)
    · rw [if_pos hb, if_pos hb, List.mem_append]
      by_cases he : sq r (x + dx) (y + dy) = tq
      · rw [if_pos he, decide_eq_true_iff]
        constructor
        · rintro (h | h)
          · split at h
            · assumption
            · cases h
          · split at h
            · cases h
            · obtain ⟨j, h1, h2, h3⟩ := ray_far r p dx dy take tq n _ _ h
              rw [← he] at h3
              obtain ⟨e1, e2⟩ := sq_inj hb h2 h3
              have m1 : (j : Int) * dx = 0 := by omega
              have m2 : (j : Int) * dy = 0 := by omega
              exact absurd ⟨(Int.mul_eq_zero.1 m1).resolve_left (by omega), (Int.mul_eq_zero.1 m2).resolve_left (by omega)⟩ hd
        · intro h; rw [if_pos h]; exact .inl (by simp [he])
      · rw [if_neg he]
        have h1 : ¬ tq ∈ (if takes p take (rd p.f0 (sq r (x + dx) (y + dy))) then [sq r (x + dx) (y + dy)] else []) := by
          split
          · intro h; exact he (List.mem_singleton.1 h).symm
          · simp
        by_cases ho : 0 ≤ own (rd p.f0 (sq r (x + dx) (y + dy)))
        · rw [if_pos ho, if_pos ho]; simp [h1]
        · rw [if_neg ho, if_neg ho, ← ih]; simp [h1]
    · rw [if_neg hb, if_neg hb]; simp
theorem reaches_l0 (r : S26) (p : S29) (hr : VR r) (hp : VP r p) (tq up x0 y0 dx dy0 most take : Int) (hup : up = 1 ∨ up = -1) (hx0 : 0 ≤ x0 ∧ x0 ≤ 64) (hy0 : 0 ≤ y0 ∧ y0 ≤ 64) (hdx : -7 ≤ dx ∧ dx ≤ 7) (hdy : -7 ≤ dy0 ∧ dy0 ≤ 7) (hm : most ≤ 7) :
    ∀ (n j : Nat), (j : Int) + n = most → Ev (fun k => gamehallref1_reaches.l0 k tq up x0 y0 ((j : Int) + 1) r.f0 r.f1 r.f2 r.f3 r.f4 r.f5 r.f6 r.f7 r.f8 r.f9 r.f10 p.f0 p.f1.f0 p.f1.f1 p.f2 p.f3 dx dy0 most take) (reachB r p dx (dy0 * up) take tq n (x0 + j * dx) (y0 + j * (dy0 * up))) := by
  obtain ⟨w0, w1⟩ := hr.w
  obtain ⟨v0, v1⟩ := hr.h
  have htu : 0 ≤ p.f2 ∧ p.f2 ≤ 1 := by rcases hp.t with h | h <;> omega
  intro n
  induction n with
  | zero =>
    intro j hj
    refine Ev.step (fun k => by rw [gamehallref1_reaches.l0]) ?_
    exact ite (fun h => absurd h (by omega)) (fun _ => now (by simp [reachB]))
  | succ n ih =>
    intro j hj
    have hj7 : (j : Int) ≤ 6 := by omega
    have b1 : -49 ≤ ((j : Int) + 1) * dx ∧ ((j : Int) + 1) * dx ≤ 49 := by
      have : j = 0 ∨ j = 1 ∨ j = 2 ∨ j = 3 ∨ j = 4 ∨ j = 5 ∨ j = 6 := by omega
      rcases this with h | h | h | h | h | h | h <;> subst h <;> simp <;> omega
    have b2 : -49 ≤ ((j : Int) + 1) * dy0 ∧ ((j : Int) + 1) * dy0 ≤ 49 := by
      have : j = 0 ∨ j = 1 ∨ j = 2 ∨ j = 3 ∨ j = 4 ∨ j = 5 ∨ j = 6 := by omega
      rcases this with h | h | h | h | h | h | h <;> subst h <;> simp <;> omega
    have b3 : -49 ≤ ((j : Int) + 1) * dy0 * up ∧ ((j : Int) + 1) * dy0 * up ≤ 49 := by rcases hup with h | h <;> subst h <;> omega
    have ex : x0 + ((j : Int) + 1) * dx = x0 + j * dx + dx := by rw [Int.add_mul]; omega
    have ey : y0 + ((j : Int) + 1) * dy0 * up = y0 + j * (dy0 * up) + dy0 * up := by rw [Int.mul_assoc, Int.add_mul]; omega
    refine Ev.step (fun k => by rw [gamehallref1_reaches.l0]) ?_
    refine ite (fun _ => ?_) (fun h => absurd (by omega) h)
    rw [w64 (n := ((j : Int) + 1) * dx) (by omega) (by omega), w64 (n := ((j : Int) + 1) * dy0) (by omega) (by omega), w64 (n := ((j : Int) + 1) * dy0 * up) (by omega) (by omega), w64 (n := x0 + ((j : Int) + 1) * dx) (by omega) (by omega), w64 (n := y0 + ((j : Int) + 1) * dy0 * up) (by omega) (by omega), ex, ey]
    rw [reachB]
    refine bind_now (at_f r p hr hp _ _) ?_
    by_cases hb : onB r (x0 + j * dx + dx) (y0 + j * (dy0 * up) + dy0 * up)
    · rw [if_pos hb, if_pos hb]
      obtain ⟨s0, s1, s2, s3⟩ := sq_in hr hb
      have ha := area hr
      have hn := hp.n
      have hc := hp.cell hr _ s2 (by omega)
      refine ite (fun h => absurd h (by omega)) (fun _ => ?_)
      have ei : wrap64 (wrap64 (wrap64 ((y0 + j * (dy0 * up) + dy0 * up) * r.f1) + x0) + ((j : Int) + 1) * dx) = sq r (x0 + j * dx + dx) (y0 + j * (dy0 * up) + dy0 * up) := by
        rw [w64 (n := (y0 + j * (dy0 * up) + dy0 * up) * r.f1) (by omega) (by omega), w64 (n := (y0 + j * (dy0 * up) + dy0 * up) * r.f1 + x0) (by omega) (by omega), w64 (by omega) (by omega)]
        unfold sq; omega
      rw [ei]
      refine ite (fun he => ?_) (fun he => ?_)
      · rw [if_pos he, w64 (n := 1 - p.f2) (by omega) (by omega)]
        refine bind_now (mine_f _ _ hc.2.1) ?_
        have hmo := mine_own (rd p.f0 (sq r (x0 + j * dx + dx) (y0 + j * (dy0 * up) + dy0 * up))) (1 - p.f2) hc.1 (by omega)
        generalize rd p.f0 (sq r (x0 + j * dx + dx) (y0 + j * (dy0 * up) + dy0 * up)) = c at hc hmo ⊢
        have hown : own c < 0 ↔ c = 0 := by unfold own; split <;> omega
        refine ite (fun h0 => ?_) (fun h0 => ?_)
        · have hm0 : mine c (1 - p.f2) = false := by rw [Bool.eq_false_iff]; intro h; have := hmo.1 h; have := hown.2 h0; omega
          refine ite (fun ht => ?_) (fun ht => ?_)
          · refine ite (fun h => absurd (h.symm.trans hm0) (by decide)) (fun _ => now ?_)
            symm; rw [decide_eq_false_iff_not]; unfold takes
            rintro (h | h)
            · exact h.2 ht
            · have := hown.2 h0; omega
          · exact now (by symm; rw [decide_eq_true_iff]; exact .inl ⟨hown.2 h0, ht⟩)
        · refine ite (fun h => now ?_) (fun h => now ?_)
          · have h1 := hmo.1 h
            by_cases ht : take = 0
            · subst ht
              symm
              simp only [bne_self_eq_false]
              rw [decide_eq_false_iff_not]; unfold takes
              rintro (h | h)
              · exact h0 (hown.1 h.1)
              · exact h.2 rfl
            · have : (take != 0) = true := by simpa using ht
              rw [this]; symm; rw [decide_eq_true_iff]; exact .inr ⟨h1, ht⟩
          · symm; rw [decide_eq_false_iff_not]; unfold takes
            rintro (h2 | h2)
            · exact h0 (hown.1 h2.1)
            · exact h (hmo.2 h2.1)
      · rw [if_neg he]
        have hown : ∀ c : Int, 0 ≤ c → (0 ≤ own c ↔ c ≠ 0) := by intro c hc; unfold own; split <;> omega
        refine ite (fun h0 => ?_) (fun h0 => ?_)
        · rw [if_neg (fun h => (hown _ hc.1).1 h h0)]
          have e := ih (j + 1) (by omega)
          have hw : ((j + 1 : Nat) : Int) + 1 = wrap64 ((j : Int) + 1 + 1) := by rw [w64 (by omega) (by omega)]; omega
          rw [hw] at e
          have ex2 : x0 + ((j + 1 : Nat) : Int) * dx = x0 + j * dx + dx := by rw [Int.natCast_add, Int.add_mul]; simp; omega
          have ey2 : y0 + ((j + 1 : Nat) : Int) * (dy0 * up) = y0 + j * (dy0 * up) + dy0 * up := by rw [Int.natCast_add, Int.add_mul]; simp; omega
          rw [ex2, ey2] at e
          exact e
        · rw [if_pos ((hown _ hc.1).2 h0)]
          exact now rfl
    · rw [if_neg hb, if_neg hb]
      exact ite (fun _ => now rfl) (fun h => absurd (by decide) h)
def upW (p : S29) : Int := 1 - 2 * p.f2
theorem dyW_up (p : S29) (w : S74) (h : p.f2 = 0 ∨ p.f2 = 1) : dyW p w = w.f1 * upW p := by
  unfold dyW upW
  rcases h with h | h <;> rw [h] <;> simp
def wayB (r : S26) (p : S29) (s tq : Int) (w : S74) : Bool := reachB r p w.f0 (dyW p w) w.f3 tq w.f2.toNat (s % r.f1) (s / r.f1)
theorem reaches_f (r : S26) (p : S29) (hr : VR r) (hp : VP r p) (s tq : Int) (h0 : 0 ≤ s) (h1 : s ≤ 64) (w : S74) (hw : -7 ≤ w.f0 ∧ w.f0 ≤ 7 ∧ -7 ≤ w.f1 ∧ w.f1 ≤ 7 ∧ 1 ≤ w.f2 ∧ w.f2 ≤ 7) :
    Ev (fun k => gamehallref1_reaches.f k r.f0 r.f1 r.f2 r.f3 r.f4 r.f5 r.f6 r.f7 r.f8 r.f9 r.f10 p.f0 p.f1.f0 p.f1.f1 p.f2 p.f3 s tq w.f0 w.f1 w.f2 w.f3) (wayB r p s tq w) := by
  obtain ⟨w0, w1⟩ := hr.w
  have hd : 0 ≤ s / r.f1 ∧ s / r.f1 ≤ s := ⟨Int.ediv_nonneg h0 (by omega), Int.ediv_le_self _ h0⟩
  have hm : 0 ≤ s % r.f1 ∧ s % r.f1 < r.f1 := ⟨Int.emod_nonneg _ (by omega), Int.emod_lt_of_pos _ (by omega)⟩
  have hup : upW p = 1 ∨ upW p = -1 := by unfold upW; rcases hp.t with h | h <;> omega
  unfold gamehallref1_reaches.f
  refine ite (fun h => absurd h (by omega)) (fun _ => ?_)
  rw [Int.tmod_eq_emod_of_nonneg h0, Int.tdiv_eq_ediv_of_nonneg h0, w64 (n := s / r.f1) (by omega) (by omega), w64 (n := 2 * p.f2) (by rcases hp.t with h | h <;> omega) (by rcases hp.t with h | h <;> omega), w64 (n := 1 - 2 * p.f2) (by rcases hp.t with h | h <;> omega) (by rcases hp.t with h | h <;> omega)]
  have h := reaches_l0 r p hr hp tq (upW p) (s % r.f1) (s / r.f1) w.f0 w.f1 w.f2 w.f3 hup (by omega) (by omega) (by omega) (by omega) (by omega) w.f2.toNat 0 (by omega)
  unfold wayB
  rw [dyW_up p w hp.t]
  simp only [Int.natCast_zero, Int.zero_mul, Int.add_zero, Int.zero_add] at h
  exact h
def upB (r : S26) (p : S29) (tq : Int) : Nat → Int → Bool
  | 0, _ => true
  | n + 1, s => if s < tq then (if rd p.f0 s = 0 then false else upB r p tq n (s + r.f1)) else true
def moveB (r : S26) (p : S29) (m : S39) : Bool :=
  mine (rd p.f0 m.f0) p.f2 && (decide (arr r p.f2 (knd (rd p.f0 m.f0)) m.f1 = m.f2) && ((rd_T62 r.f3 (knd (rd p.f0 m.f0))).f3).any (wayB r p m.f0 m.f1))
def putB (r : S26) (p : S29) (m : S39) : Bool := decide (rd (hand p) m.f2 ≠ 0) && (decide (rd p.f0 m.f1 = 0) && (!r.f5 || upB r p m.f1 64 (m.f1 % r.f1)))
def inM (r : S26) (p : S29) (m : S39) : Prop := (-1 ≤ m.f0 ∧ m.f0 ≤ (p.f0.length : Int) - 1) ∧ (0 ≤ m.f1 ∧ m.f1 ≤ (p.f0.length : Int) - 1) ∧ 0 ≤ m.f2 ∧ m.f2 ≤ (r.f3.length : Int) - 1
instance (r : S26) (p : S29) (m : S39) : Decidable (inM r p m) := by unfold inM; exact inferInstance
def allowB (r : S26) (p : S29) (m : S39) : Bool := if inM r p m then (if m.f0 = -1 then putB r p m else moveB r p m) else false
theorem allowed_up (r : S26) (p : S29) (hr : VR r) (hp : VP r p) (m : S39) (hf : r.f5 = true) (h1 : m.f1 < (p.f0.length : Int)) : ∀ (n : Nat) (s : Int), m.f1 < s + n → 0 ≤ s → s ≤ 72 → Ev (fun k => gamehallref1_Allowed.l0 k s r.f0 r.f1 r.f2 r.f3 r.f4 r.f5 r.f6 r.f7 r.f8 r.f9 r.f10 p.f0 p.f1.f0 p.f1.f1 p.f2 p.f3 m.f0 m.f1 m.f2) (upB r p m.f1 n s) := by
  obtain ⟨w0, w1⟩ := hr.w
  have hl := hp.len hr
  intro n
  induction n with
  | zero =>
    intro s h2 h3 h4
    refine Ev.step (fun k => by rw [gamehallref1_Allowed.l0]) ?_
    refine ite (fun _ => ?_) (fun h => absurd hf h)
    rw [show decide (s < m.f1) = false from decide_eq_false (by omega)]
    refine Ev.step (fun k => by rw [gamehallref1_Allowed.j3]) ?_
    exact ite (fun h => absurd h (by decide)) (fun _ => now rfl)
  | succ n ih =>
    intro s h2 h3 h4
    refine Ev.step (fun k => by rw [gamehallref1_Allowed.l0]) ?_
    refine ite (fun _ => ?_) (fun h => absurd hf h)
    rw [upB]
    by_cases hs : s < m.f1
    · rw [show decide (s < m.f1) = true from decide_eq_true hs, if_pos hs]
      refine Ev.step (fun k => by rw [gamehallref1_Allowed.j3]) ?_
      refine ite (fun _ => ?_) (fun h => absurd rfl h)
      refine ite (fun _ => ?_) (fun h => absurd h3 h)
      refine ite (fun _ => ?_) (fun h => absurd (by omega) h)
      refine ite (fun h0 => now (by rw [if_pos h0])) (fun h0 => ?_)
      rw [if_neg h0, w64 (by omega) (by omega)]
      exact ih _ (by omega) (by omega) (by omega)
    · rw [show decide (s < m.f1) = false from decide_eq_false hs, if_neg hs]
      refine Ev.step (fun k => by rw [gamehallref1_Allowed.j3]) ?_
      exact ite (fun h => absurd h (by decide)) (fun _ => now rfl)
theorem allowed_ways (r : S26) (p : S29) (hr : VR r) (hp : VP r p) (m : S39) (h0 : 0 ≤ m.f0) (h1 : m.f0 ≤ 64) (ws : List S74) (hws : ws.length ≤ 16) (hw : ∀ w ∈ ws, -7 ≤ w.f0 ∧ w.f0 ≤ 7 ∧ -7 ≤ w.f1 ∧ w.f1 ≤ 7 ∧ 1 ≤ w.f2 ∧ w.f2 ≤ 7) :
    ∀ (d j : Nat), j + d = ws.length → Ev (fun k => gamehallref1_Allowed.l1 k ws (ws.length : Int) (j : Int) r.f0 r.f1 r.f2 r.f3 r.f4 r.f5 r.f6 r.f7 r.f8 r.f9 r.f10 p.f0 p.f1.f0 p.f1.f1 p.f2 p.f3 m.f0 m.f1 m.f2) ((ws.drop j).any (wayB r p m.f0 m.f1)) := by
  intro d
  induction d with
  | zero =>
    intro j hj
    refine Ev.step (fun k => by rw [gamehallref1_Allowed.l1]) ?_
    exact ite (fun h => absurd h (by omega)) (fun _ => now (by rw [List.drop_of_length_le (by omega)]; rfl))
  | succ d ih =>
    intro j hj
    have hwr : ((j + 1 : Nat) : Int) = wrap64 ((j : Int) + 1) := by rw [w64s (by omega) (by omega)]; omega
    have hjl : j < ws.length := by omega
    refine Ev.step (fun k => by rw [gamehallref1_Allowed.l1]) ?_
    refine ite (fun _ => ?_) (fun h => absurd (by omega) h)
    refine ite (fun _ => ?_) (fun h => absurd (by omega) h)
    refine ite (fun _ => ?_) (fun h => absurd (by omega) h)
    rw [rdW_nat ws j hjl]
    refine Ev.bind (reaches_f r p hr hp m.f0 m.f1 h0 h1 ws[j] (hw _ (List.getElem_mem hjl))) ?_
    rw [List.drop_eq_getElem_cons hjl, List.any_cons]
    refine ite (fun h => now (by rw [h]; rfl)) (fun h => ?_)
    rw [Bool.eq_false_iff.2 h, Bool.false_or]
    have e := ih (j + 1) (by omega)
    rw [hwr] at e; exact e
theorem far_ref (r : S26) (hr : VR r) (pl s : Int) (hpl : pl = 0 ∨ pl = 1) (h0 : 0 ≤ s) (h1 : s ≤ 64) : gamehallref1_far.f r.f0 r.f1 r.f2 r.f3 r.f4 r.f5 r.f6 r.f7 r.f8 r.f9 r.f10 pl (s / r.f1) = some (farB r pl s) := by
  obtain ⟨v0, v1⟩ := hr.h
  unfold gamehallref1_far.f farB
  rw [w64 (n := r.f2 - 1) (by omega) (by omega)]
  rcases hpl with h | h
  · subst h
    by_cases h2 : s / r.f1 = r.f2 - 1 <;> simp [h2]
  · subst h; simp
theorem allowed_put (r : S26) (p : S29) (hr : VR r) (hp : VP r p) (m : S39) (hm : inM r p m) (hf : m.f0 = -1) (hs : List Int) (he : hs = hand p) (B : Nat → Bool → Option Bool) (hB : ∀ k b, B k b = gamehallref1_Allowed.j1 k b r.f0 r.f1 r.f2 r.f3 r.f4 r.f5 r.f6 r.f7 r.f8 r.f9 r.f10 p.f0 p.f1.f0 p.f1.f1 p.f2 p.f3 m.f0 m.f1 m.f2) :
    Ev (fun k => if 0 ≤ m.f2 then (if m.f2 < (hs.length : Int) then (if (rd hs m.f2) = 0 then (B k true) else (if 0 ≤ m.f1 then (if m.f1 < (p.f0.length : Int) then (B k ((rd p.f0 m.f1) != 0)) else none) else none)) else none) else none) (putB r p m) := by
  obtain ⟨⟨a0, a1⟩, ⟨b0, b1⟩, c0, c1⟩ := hm
  obtain ⟨w0, w1⟩ := hr.w
  have hl := hp.len hr
  have hh := hp.hlen
  subst he
  simp only [hB]
  unfold putB
  refine ite (fun _ => ?_) (fun h => absurd c0 h)
  refine ite (fun _ => ?_) (fun h => absurd (by omega) h)
  refine ite (fun h0 => ?_) (fun h0 => ?_)
  · refine Ev.step (fun k => by rw [gamehallref1_Allowed.j1]) ?_
    exact ite (fun _ => now (by simp [h0])) (fun h => absurd rfl h)
  · refine ite (fun _ => ?_) (fun h => absurd b0 h)
    refine ite (fun _ => ?_) (fun h => absurd (by omega) h)
    refine Ev.step (fun k => by rw [gamehallref1_Allowed.j1]) ?_
    refine ite (fun h => now (by have h' : rd p.f0 m.f1 ≠ 0 := by simpa using h
                                 simp [h'])) (fun h => ?_)
    have h' : rd p.f0 m.f1 = 0 := by simpa using h
    refine ite (fun h => absurd h (by omega)) (fun _ => ?_)
    rw [Int.tmod_eq_emod_of_nonneg b0]
    have hmm : 0 ≤ m.f1 % r.f1 ∧ m.f1 % r.f1 < r.f1 := ⟨Int.emod_nonneg _ (by omega), Int.emod_lt_of_pos _ (by omega)⟩
    by_cases h5 : r.f5 = true
    · exact ev_eq (allowed_up r p hr hp m h5 (by omega) 64 (m.f1 % r.f1) (by omega) hmm.1 (by omega)) (by simp [h0, h', h5])
    · refine Ev.step (fun k => by rw [gamehallref1_Allowed.l0]) ?_
      refine ite (fun h => absurd h h5) (fun _ => ?_)
      refine Ev.step (fun k => by rw [gamehallref1_Allowed.j3]) ?_
      exact ite (fun h => absurd h (by decide)) (fun _ => now (by simp [h0, h', h5]))
theorem allowed_f (r : S26) (p : S29) (hr : VR r) (hp : VP r p) (m : S39) : Ev (fun k => gamehallref1_Allowed.f k r.f0 r.f1 r.f2 r.f3 r.f4 r.f5 r.f6 r.f7 r.f8 r.f9 r.f10 p.f0 p.f1.f0 p.f1.f1 p.f2 p.f3 m.f0 m.f1 m.f2) (allowB r p m) := by
  obtain ⟨w0, w1⟩ := hr.w
  have hl := hp.len hr
  have hrt := hr.t
  have htu : 0 ≤ p.f2 ∧ p.f2 ≤ 1 := by rcases hp.t with h | h <;> omega
  unfold gamehallref1_Allowed.f
  rw [w64 (n := (p.f0.length : Int) - 1) (by omega) (by omega), w64 (n := (r.f3.length : Int) - 1) (by omega) (by omega)]
  have out : ∀ b : Bool, b = true → ¬ inM r p m → Ev (fun k => gamehallref1_Allowed.j0 k b r.f0 r.f1 r.f2 r.f3 r.f4 r.f5 r.f6 r.f7 r.f8 r.f9 r.f10 p.f0 p.f1.f0 p.f1.f1 p.f2 p.f3 m.f0 m.f1 m.f2) (allowB r p m) := by
    intro b hb hn
    subst hb
    refine Ev.step (fun k => by rw [gamehallref1_Allowed.j0]) ?_
    exact ite (fun _ => now (by unfold allowB; rw [if_neg hn])) (fun h => absurd rfl h)
  refine bind_now (in_f _ _ _) ?_
  refine ite (fun h1 => ?_) (fun h1 => out _ rfl (fun hm => h1 (by simpa using hm.1)))
  have h1' : -1 ≤ m.f0 ∧ m.f0 ≤ (p.f0.length : Int) - 1 := by simpa using h1
  refine bind_now (in_f _ _ _) ?_
  refine ite (fun h2 => ?_) (fun h2 => out _ rfl (fun hm => h2 (by simpa using hm.2.1)))
  have h2' : 0 ≤ m.f1 ∧ m.f1 ≤ (p.f0.length : Int) - 1 := by simpa using h2
  refine bind_now (in_f _ _ _) ?_
  by_cases h3 : 0 ≤ m.f2 ∧ m.f2 ≤ (r.f3.length : Int) - 1
  · rw [show (!decide (0 ≤ m.f2 ∧ m.f2 ≤ (r.f3.length : Int) - 1)) = false by simp [h3]]
    have hm : inM r p m := ⟨h1', h2', h3⟩
    refine Ev.step (fun k => by rw [gamehallref1_Allowed.j0]) ?_
    refine ite (fun h => absurd h (by decide)) (fun _ => ?_)
    unfold allowB
    rw [if_pos hm]
    refine ite (fun hf => ?_) (fun hf => ?_)
    · rw [if_pos hf]
      refine ite (fun _ => ?_) (fun h => absurd htu.1 h)
      refine ite (fun _ => ?_) (fun h => absurd (by omega) h)
      refine ite (fun ht => ?_) (fun ht => ?_)
      · exact allowed_put r p hr hp m hm hf p.f1.f0 (by unfold hand; rw [if_pos ht]) _ (fun _ _ => rfl)
      · exact allowed_put r p hr hp m hm hf p.f1.f1 (by unfold hand; rw [if_neg ht]) _ (fun _ _ => rfl)
    · rw [if_neg hf]
      have hm0 : 0 ≤ m.f0 := by omega
      have hc := hp.cell hr m.f0 hm0 (by omega)
      refine ite (fun _ => ?_) (fun h => absurd hm0 h)
      refine ite (fun _ => ?_) (fun h => absurd (by omega) h)
      refine bind_now (mine_f _ _ hc.2.1) ?_
      unfold moveB
      refine ite (fun hmi => ?_) (fun hmi => now (by rw [Bool.eq_false_iff.2 hmi]; rfl))
      have hpos : 1 ≤ rd p.f0 m.f0 := by
        unfold mine at hmi
        have := (decide_eq_true_iff.1 hmi).1; omega
      rw [hmi, Bool.true_and, w64 (n := rd p.f0 m.f0 - 1) (by omega) (by omega), Int.tdiv_eq_ediv_of_nonneg (by omega), w64 (n := (rd p.f0 m.f0 - 1) / 2) (by omega) (by omega)]
      have hk := knd_lt (rd p.f0 m.f0) r.f3.length ⟨hpos, hc.2.2⟩
      rw [show (rd p.f0 m.f0 - 1) / 2 = knd (rd p.f0 m.f0) from rfl]
      have hq := hr.pc _ (rdP_mem _ _ hk.1 hk.2)
      have hwl : ∀ w ∈ (rd_T62 r.f3 (knd (rd p.f0 m.f0))).f3, -7 ≤ w.f0 ∧ w.f0 ≤ 7 ∧ -7 ≤ w.f1 ∧ w.f1 ≤ 7 ∧ 1 ≤ w.f2 ∧ w.f2 ≤ 7 := fun w hw => by have := hq.2.2.2.2.2 w hw; omega
      have j5 : ∀ b, b = arr r p.f2 (knd (rd p.f0 m.f0)) m.f1 → Ev (fun k => gamehallref1_Allowed.j5 k (knd (rd p.f0 m.f0)) b r.f0 r.f1 r.f2 r.f3 r.f4 r.f5 r.f6 r.f7 r.f8 r.f9 r.f10 p.f0 p.f1.f0 p.f1.f1 p.f2 p.f3 m.f0 m.f1 m.f2) (decide (arr r p.f2 (knd (rd p.f0 m.f0)) m.f1 = m.f2) && ((rd_T62 r.f3 (knd (rd p.f0 m.f0))).f3).any (wayB r p m.f0 m.f1)) := by
        intro b hb
        refine Ev.step (fun k => by rw [gamehallref1_Allowed.j5]) ?_
        refine ite (fun h => ?_) (fun h => now (by rw [decide_eq_false (by rw [← hb]; exact h)]; rfl))
        rw [decide_eq_true (by rw [← hb]; exact h), Bool.true_and]
        refine ite (fun _ => ?_) (fun h => absurd hk.1 h)
        refine ite (fun _ => ?_) (fun h => absurd hk.2 h)
        have e := allowed_ways r p hr hp m hm0 (by omega) _ hq.2.2.2.2.1 hwl (rd_T62 r.f3 (knd (rd p.f0 m.f0))).f3.length 0 (by omega)
        rw [List.drop_zero] at e
        exact e
      refine ite (fun _ => ?_) (fun h => absurd hk.1 h)
      refine ite (fun _ => ?_) (fun h => absurd hk.2 h)
      refine ite (fun hz => ?_) (fun hz => ?_)
      · refine Ev.step (fun k => by rw [gamehallref1_Allowed.j4]) ?_
        refine ite (fun h => absurd h (by decide)) (fun _ => j5 _ ?_)
        unfold arr; rw [if_neg (by omega)]
      · refine ite (fun h => absurd h (by omega)) (fun _ => ?_)
        have hd : 0 ≤ m.f1 / r.f1 ∧ m.f1 / r.f1 ≤ m.f1 := ⟨Int.ediv_nonneg h2'.1 (by omega), Int.ediv_le_self _ h2'.1⟩
        rw [Int.tdiv_eq_ediv_of_nonneg h2'.1, w64 (n := m.f1 / r.f1) (by omega) (by omega)]
        refine bind_now (far_ref r hr p.f2 m.f1 hp.t h2'.1 (by omega)) ?_
        refine Ev.step (fun k => by rw [gamehallref1_Allowed.j4]) ?_
        refine ite (fun h => ?_) (fun h => j5 _ ?_)
        · rw [w64 (by omega) (by omega)]
          refine j5 _ ?_
          unfold arr; rw [if_pos ⟨by omega, h⟩]
        · unfold arr; rw [if_neg (fun hh => h hh.2)]
  · rw [show (!decide (0 ≤ m.f2 ∧ m.f2 ≤ (r.f3.length : Int) - 1)) = true by simp [h3]]
    exact out true rfl (fun hm => h3 hm.2.2)
/-! the list of all -/
def mT (r : S26) (p : S29) (f s : Int) (t : Nat) : List S39 := if allowB r p ⟨f, s, (t : Int)⟩ = true then [⟨f, s, (t : Int)⟩] else []
def mS (r : S26) (p : S29) (f : Int) (s : Nat) : List S39 := (List.range' 0 r.f3.length).flatMap (mT r p f (s : Int))
def mF (r : S26) (p : S29) (i : Nat) : List S39 := (List.range' 0 p.f0.length).flatMap (mS r p ((i : Int) - 1))
def movesL (r : S26) (p : S29) : List S39 := (List.range' 0 (p.f0.length + 1)).flatMap (mF r p)
theorem flat_le {α : Type} (f : Nat → List α) (b : Nat) (h : ∀ i, (f i).length ≤ b) : ∀ d i, ((List.range' i d).flatMap f).length ≤ b * d := by
  intro d
  induction d with
  | zero => intro i; simp
  | succ d ih =>
    intro i
    rw [List.range'_succ, List.flatMap_cons, List.length_append, Nat.mul_add, Nat.mul_one]
    have := ih (i + 1); have := h i; omega
theorem mT_le (r : S26) (p : S29) (f s : Int) (t : Nat) : (mT r p f s t).length ≤ 1 := by unfold mT; split <;> simp
theorem moves_l2 (r : S26) (p : S29) (hr : VR r) (hp : VP r p) (f s m u : Int) (res : List S39) : ∀ (d t : Nat) (out : List S39), t + d = r.f3.length → out.length + d ≤ 1000000 →
    Ev (fun k => gamehallref1_Moves.l1 k (out ++ (List.range' t d).flatMap (mT r p f s)) f m (wrap64 (u + 1)) r.f0 r.f1 r.f2 r.f3 r.f4 r.f5 r.f6 r.f7 r.f8 r.f9 r.f10 p.f0 p.f1.f0 p.f1.f1 p.f2 p.f3) res → Ev (fun k => gamehallref1_Moves.l2 k out f s m u (r.f3.length : Int) (t : Int) r.f0 r.f1 r.f2 r.f3 r.f4 r.f5 r.f6 r.f7 r.f8 r.f9 r.f10 p.f0 p.f1.f0 p.f1.f1 p.f2 p.f3) res := by
  have hrt := hr.t
  intro d
  induction d with
  | zero =>
    intro t out hi hl e
    refine Ev.step (fun k => by rw [gamehallref1_Moves.l2]) (ite (fun h => absurd h (by omega)) (fun _ => ?_))
    simpa using e
  | succ d ih =>
    intro t out hi hl e
    have hwr : ((t + 1 : Nat) : Int) = wrap64 ((t : Int) + 1) := by rw [w64s (by omega) (by omega)]; omega
    refine Ev.step (fun k => by rw [gamehallref1_Moves.l2]) (ite (fun _ => ?_) (fun h => absurd (by omega) h))
    refine Ev.bind (allowed_f r p hr hp ⟨f, s, (t : Int)⟩) ?_
    rw [List.range'_succ, List.flatMap_cons, ← List.append_assoc] at e
    refine ite (fun h => ?_) (fun h => ?_)
    · refine ite (fun _ => ?_) (fun h => absurd (by omega) h)
      have e3 : mT r p f s t = [⟨f, s, (t : Int)⟩] := by unfold mT; rw [if_pos h]
      rw [e3] at e
      have h2 := ih (t + 1) _ (by omega) (by simp; omega) e
      rw [hwr] at h2; exact h2
    · have e3 : mT r p f s t = [] := by unfold mT; rw [if_neg h]
      rw [e3, List.append_nil] at e
      have h2 := ih (t + 1) _ (by omega) (by omega) e
      rw [hwr] at h2; exact h2
theorem moves_l1 (r : S26) (p : S29) (hr : VR r) (hp : VP r p) (f : Int) (res : List S39) : ∀ (d s : Nat) (out : List S39), s + d = p.f0.length → out.length + 6 * d ≤ 900000 →
    Ev (fun k => gamehallref1_Moves.l0 k (out ++ (List.range' s d).flatMap (mS r p f)) (wrap64 (f + 1)) r.f0 r.f1 r.f2 r.f3 r.f4 r.f5 r.f6 r.f7 r.f8 r.f9 r.f10 p.f0 p.f1.f0 p.f1.f1 p.f2 p.f3) res → Ev (fun k => gamehallref1_Moves.l1 k out f (p.f0.length : Int) (s : Int) r.f0 r.f1 r.f2 r.f3 r.f4 r.f5 r.f6 r.f7 r.f8 r.f9 r.f10 p.f0 p.f1.f0 p.f1.f1 p.f2 p.f3) res := by
  have hrt := hr.t
  have hlen := hp.len hr
  intro d
  induction d with
  | zero =>
    intro s out hi hl e
    refine Ev.step (fun k => by rw [gamehallref1_Moves.l1]) (ite (fun h => absurd h (by omega)) (fun _ => ?_))
    simpa using e
  | succ d ih =>
    intro s out hi hl e
    have hwr : ((s + 1 : Nat) : Int) = wrap64 ((s : Int) + 1) := by rw [w64s (by omega) (by omega)]; omega
    refine Ev.step (fun k => by rw [gamehallref1_Moves.l1]) (ite (fun _ => ?_) (fun h => absurd (by omega) h))
    rw [List.range'_succ, List.flatMap_cons, ← List.append_assoc] at e
    have hb := flat_le (mT r p f (s : Int)) 1 (mT_le r p f s) r.f3.length 0
    have h2 := ih (s + 1) (out ++ mS r p f s) (by omega) (by rw [List.length_append]; unfold mS; omega) e
    rw [hwr] at h2
    exact moves_l2 r p hr hp f (s : Int) (p.f0.length : Int) (s : Int) res r.f3.length 0 out (by omega) (by omega) h2
theorem mS_le (r : S26) (p : S29) (h : r.f3.length ≤ 6) (f : Int) (s : Nat) : (mS r p f s).length ≤ 6 := by
  have := flat_le (mT r p f (s : Int)) 1 (mT_le r p f s) r.f3.length 0
  unfold mS; omega
theorem moves_l0 (r : S26) (p : S29) (hr : VR r) (hp : VP r p) : ∀ (d i : Nat) (out : List S39), i + d = p.f0.length + 1 → out.length + 384 * d ≤ 100000 →
    Ev (fun k => gamehallref1_Moves.l0 k out ((i : Int) - 1) r.f0 r.f1 r.f2 r.f3 r.f4 r.f5 r.f6 r.f7 r.f8 r.f9 r.f10 p.f0 p.f1.f0 p.f1.f1 p.f2 p.f3) (out ++ (List.range' i d).flatMap (mF r p)) := by
  have hrt := hr.t
  have hlen := hp.len hr
  intro d
  induction d with
  | zero =>
    intro i out hi hl
    refine Ev.step (fun k => by rw [gamehallref1_Moves.l0]) (ite (fun h => absurd h (by omega)) (fun _ => now (by simp)))
  | succ d ih =>
    intro i out hi hl
    refine Ev.step (fun k => by rw [gamehallref1_Moves.l0]) (ite (fun _ => ?_) (fun h => absurd (by omega) h))
    rw [List.range'_succ, List.flatMap_cons, ← List.append_assoc]
    have hb := flat_le (mS r p ((i : Int) - 1)) 6 (mS_le r p hrt.2 _) p.f0.length 0
    have h2 := ih (i + 1) (out ++ mF r p i) (by omega) (by rw [List.length_append]; unfold mF; omega)
    have hw : ((i + 1 : Nat) : Int) - 1 = wrap64 ((i : Int) - 1 + 1) := by rw [w64 (by omega) (by omega)]; omega
    rw [hw] at h2
    exact moves_l1 r p hr hp ((i : Int) - 1) _ p.f0.length 0 out (by omega) (by omega) h2
theorem moves_f (r : S26) (p : S29) (hr : VR r) (hp : VP r p) : Ev (fun k => gamehallref1_Moves.f k r.f0 r.f1 r.f2 r.f3 r.f4 r.f5 r.f6 r.f7 r.f8 r.f9 r.f10 p.f0 p.f1.f0 p.f1.f1 p.f2 p.f3) (movesL r p) := by
  have hlen := hp.len hr
  have h := moves_l0 r p hr hp (p.f0.length + 1) 0 [] (by omega) (by simp; omega)
  unfold gamehallref1_Moves.f movesL
  simpa using h
end Co
end Go.Proofs.Ytloadbbndnmdlaa.Pure
