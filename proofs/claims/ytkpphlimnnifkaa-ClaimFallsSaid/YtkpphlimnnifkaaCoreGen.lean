/- moves.Gen: which list it returns (no reference). -/
import Derived.Test.YtkpphlimnnifkaaPClaimFallsx8
import Derived.Test.YtkpphlimnnifkaaAid
namespace Go.Proofs.Ytkpphlimnnifkaa.Pure
open Go.RowKit Go.Proofs.Ytkpphlimnnifkaa.PClaimFalls Go.Proofs.YtkpphlimnnifkaaW.PrintWords Go.Proofs.YtkpphlimnnifkaaW.PrintLast
set_option linter.unusedSimpArgs false
set_option linter.unusedVariables false
namespace Co
open Aid
/-- rules that rules.Check accepts (what is needed of them) -/
structure VR (r : S26) : Prop where
  w : 1 ≤ r.f1 ∧ r.f1 ≤ 8
  h : 1 ≤ r.f2 ∧ r.f2 ≤ 8
  t : 1 ≤ r.f3.length ∧ r.f3.length ≤ 6
  pc : ∀ q ∈ r.f3, 0 ≤ q.f1 ∧ q.f1 ≤ 64 ∧ 0 ≤ q.f2 ∧ q.f2 ≤ (r.f3.length : Int) ∧ q.f3.length ≤ 16 ∧ ∀ w ∈ q.f3, -7 ≤ w.f0 ∧ w.f0 ≤ 7 ∧ -7 ≤ w.f1 ∧ w.f1 ≤ 7 ∧ ¬ (w.f0 = 0 ∧ w.f1 = 0) ∧ 1 ≤ w.f2 ∧ w.f2 ≤ 7 ∧ 0 ≤ w.f3 ∧ w.f3 ≤ 2
  st : (r.f4.length : Int) = r.f1 * r.f2 ∧ ∀ c ∈ r.f4, 0 ≤ c ∧ c ≤ 2 * (r.f3.length : Int)
  e : r.f7.length ≤ 6 ∧ ∀ x ∈ r.f7, 0 ≤ x.f0 ∧ x.f0 ≤ 2 ∧ (x.f0 = 0 → x.f1 = 0 ∧ 1 ≤ x.f2 ∧ x.f2 ≤ 64) ∧ (x.f0 = 1 → 0 ≤ x.f1 ∧ x.f1 < (r.f3.length : Int) ∧ x.f2 = 0) ∧ (x.f0 = 2 → 0 ≤ x.f1 ∧ x.f1 < (r.f3.length : Int) ∧ 1 ≤ x.f2 ∧ x.f2 ≤ 64)
  l : 0 ≤ r.f8 ∧ r.f8 ≤ 2 ∧ 0 ≤ r.f9 ∧ r.f9 ≤ 200 ∧ (r.f10 = 0 ∨ 2 ≤ r.f10 ∧ r.f10 ≤ 5)
/-- a position that place.Check accepts under such rules -/
structure VP (r : S26) (p : S41) : Prop where
  n : (p.f0.length : Int) = r.f1 * r.f2
  c : ∀ c ∈ p.f0, 0 ≤ c ∧ c ≤ 2 * (r.f3.length : Int)
  h0 : p.f1.f0.length = r.f3.length
  h1 : p.f1.f1.length = r.f3.length
  b0 : ∀ c ∈ p.f1.f0, 0 ≤ c ∧ c ≤ 1000
  b1 : ∀ c ∈ p.f1.f1, 0 ≤ c ∧ c ≤ 1000
  t : p.f2 = 0 ∨ p.f2 = 1
  q : 0 ≤ p.f3 ∧ p.f3 ≤ 200
def own (c : Int) : Int := if c = 0 then -1 else (c - 1) % 2
def knd (c : Int) : Int := (c - 1) / 2
def hand (p : S41) : List Int := if p.f2 = 0 then p.f1.f0 else p.f1.f1
theorem rd_mem (xs : List Int) (i : Int) (h0 : 0 ≤ i) (h1 : i < (xs.length : Int)) : rd xs i ∈ xs := by
  obtain ⟨n, rfl⟩ := Int.eq_ofNat_of_zero_le h0
  have h : n < xs.length := by omega
  have : rd xs (n : Int) = xs[n] := by simp [rd, List.getD_eq_getElem?_getD, h]
  rw [this]; exact List.getElem_mem h
theorem rd_nat (xs : List Int) (i : Nat) (h : i < xs.length) : rd xs (i : Int) = xs[i] := by simp [rd, List.getD_eq_getElem?_getD, h]
theorem rdP_mem (xs : List S104) (i : Int) (h0 : 0 ≤ i) (h1 : i < (xs.length : Int)) : rd_T104 xs i ∈ xs := by
  obtain ⟨n, rfl⟩ := Int.eq_ofNat_of_zero_le h0
  have h : n < xs.length := by omega
  have : rd_T104 xs (n : Int) = xs[n] := by simp [rd_T104, List.getD_eq_getElem?_getD, h]
  rw [this]; exact List.getElem_mem h
theorem rdW_nat (xs : List S106) (i : Nat) (h : i < xs.length) : rd_T106 xs (i : Int) = xs[i] := by simp [rd_T106, List.getD_eq_getElem?_getD, h]
theorem area {r : S26} (hr : VR r) : 1 ≤ r.f1 * r.f2 ∧ r.f1 * r.f2 ≤ 64 := by
  obtain ⟨a, b⟩ := hr.w; obtain ⟨c, d⟩ := hr.h
  have h1 : r.f1 * r.f2 ≤ 8 * r.f2 := Int.mul_le_mul_of_nonneg_right b (by omega)
  have h2 : 1 * r.f2 ≤ r.f1 * r.f2 := Int.mul_le_mul_of_nonneg_right a (by omega)
  omega
theorem VP.len {r : S26} {p : S41} (hr : VR r) (hp : VP r p) : 1 ≤ p.f0.length ∧ p.f0.length ≤ 64 := by
  have := area hr; have := hp.n; omega
theorem VP.cell {r : S26} {p : S41} (hr : VR r) (hp : VP r p) (s : Int) (h0 : 0 ≤ s) (h1 : s < (p.f0.length : Int)) : 0 ≤ rd p.f0 s ∧ rd p.f0 s ≤ 12 ∧ rd p.f0 s ≤ 2 * (r.f3.length : Int) := by
  have h := hp.c _ (rd_mem _ s h0 h1); have := hr.t; omega
theorem VP.hlen {r : S26} {p : S41} (hp : VP r p) : (hand p).length = r.f3.length := by
  unfold hand; split
  · exact hp.h0
  · exact hp.h1
theorem owner_f (c : Int) (h : 0 ≤ c ∧ c ≤ 12) : moves_Owner.f c = some (own c) := by
  unfold moves_Owner.f own
  by_cases h0 : c = 0
  · rw [if_pos h0, if_pos h0]
  · rw [if_neg h0, if_neg h0, w64 (by omega) (by omega), Int.tmod_eq_emod_of_nonneg (by omega)]
theorem kind_f (c : Int) (h : 1 ≤ c ∧ c ≤ 12) : moves_Kind.f c = some (knd c) := by
  unfold moves_Kind.f knd
  rw [w64 (n := c - 1) (by omega) (by omega), Int.tdiv_eq_ediv_of_nonneg (by omega), w64 (by omega) (by omega)]
theorem knd_lt (c n : Int) (h : 1 ≤ c ∧ c ≤ 2 * n) : 0 ≤ knd c ∧ knd c < n := by unfold knd; omega
/-! rays -/
def onB (r : S26) (x y : Int) : Prop := 0 ≤ x ∧ x < r.f1 ∧ 0 ≤ y ∧ y < r.f2
instance (r : S26) (x y : Int) : Decidable (onB r x y) := by unfold onB; exact inferInstance
def sq (r : S26) (x y : Int) : Int := y * r.f1 + x
theorem sq_in {r : S26} (hr : VR r) {x y : Int} (h : onB r x y) : 0 ≤ y * r.f1 ∧ y * r.f1 ≤ 64 ∧ 0 ≤ sq r x y ∧ sq r x y < r.f1 * r.f2 := by
  obtain ⟨a, b, c, d⟩ := h
  obtain ⟨w0, w1⟩ := hr.w
  obtain ⟨h0, h1⟩ := hr.h
  have e1 : 0 ≤ y * r.f1 := Int.mul_nonneg c (by omega)
  have e2 : (y + 1) * r.f1 ≤ r.f2 * r.f1 := Int.mul_le_mul_of_nonneg_right (by omega) (by omega)
  rw [Int.add_mul, Int.one_mul, Int.mul_comm r.f2 r.f1] at e2
  have := area hr
  unfold sq
  omega
theorem sq_inj {r : S26} {a b c d : Int} (h1 : onB r a b) (h2 : onB r c d) (e : sq r a b = sq r c d) : a = c ∧ b = d := by
  obtain ⟨a0, a1, b0, b1⟩ := h1; obtain ⟨c0, c1, d0, d1⟩ := h2
  unfold sq at e
  have hw : r.f1 ≠ 0 := by omega
  have e1 : (b * r.f1 + a) % r.f1 = a := by rw [Int.add_comm, Int.add_mul_emod_self_right]; exact Int.emod_eq_of_lt a0 a1
  have e2 : (d * r.f1 + c) % r.f1 = c := by rw [Int.add_comm, Int.add_mul_emod_self_right]; exact Int.emod_eq_of_lt c0 c1
  have f1 : (b * r.f1 + a) / r.f1 = b := by rw [Int.add_comm, Int.add_mul_ediv_right _ _ hw, Int.ediv_eq_zero_of_lt a0 a1, Int.zero_add]
  have f2 : (d * r.f1 + c) / r.f1 = d := by rw [Int.add_comm, Int.add_mul_ediv_right _ _ hw, Int.ediv_eq_zero_of_lt c0 c1, Int.zero_add]
  exact ⟨by rw [← e1, ← e2, e], by rw [← f1, ← f2, e]⟩
def takes (p : S41) (take c : Int) : Prop := own c < 0 ∧ take ≠ 2 ∨ own c = 1 - p.f2 ∧ take ≠ 0
instance (p : S41) (t c : Int) : Decidable (takes p t c) := by unfold takes; exact inferInstance
def ray (r : S26) (p : S41) (dx dy take : Int) : Nat → Int → Int → List Int
  | 0, _, _ => []
  | n + 1, x, y => if onB r (x + dx) (y + dy) then (if takes p take (rd p.f0 (sq r (x + dx) (y + dy))) then [sq r (x + dx) (y + dy)] else []) ++ (if 0 ≤ own (rd p.f0 (sq r (x + dx) (y + dy))) then [] else ray r p dx dy take n (x + dx) (y + dy)) else []
theorem ray_len (r : S26) (p : S41) (dx dy take : Int) : ∀ n x y, (ray r p dx dy take n x y).length ≤ n := by
  intro n
  induction n with
  | zero => intro x y; simp [ray]
  | succ n ih =>
    intro x y
    unfold ray
    have := ih (x + dx) (y + dy)
    split
    · split <;> split <;> simp <;> omega
    · simp
def farB (r : S26) (player s : Int) : Bool := if player = 0 then s / r.f1 == r.f2 - 1 else s / r.f1 == 0
def arr (r : S26) (player kind tq : Int) : Int := if (rd_T104 r.f3 kind).f2 > 0 ∧ farB r player tq = true then (rd_T104 r.f3 kind).f2 - 1 else kind
theorem far_f (r : S26) (hr : VR r) (player s : Int) (h0 : 0 ≤ s) (h1 : s ≤ 64) : rules_Far.f r.f0 r.f1 r.f2 r.f3 r.f4 r.f5 r.f6 r.f7 r.f8 r.f9 r.f10 player s = some (farB r player s) := by
  obtain ⟨w0, w1⟩ := hr.w
  obtain ⟨v0, v1⟩ := hr.h
  have hd : 0 ≤ s / r.f1 ∧ s / r.f1 ≤ s := ⟨Int.ediv_nonneg h0 (by omega), Int.ediv_le_self _ h0⟩
  unfold rules_Far.f farB
  rw [Int.tdiv_eq_ediv_of_nonneg h0, w64 (n := s / r.f1) (by omega) (by omega), w64 (n := r.f2 - 1) (by omega) (by omega)]
  by_cases hp : player = 0
  · rw [if_pos hp, if_neg (by omega), if_pos hp]
  · rw [if_neg hp, if_neg (by omega), if_neg hp]
theorem arrives_f (r : S26) (hr : VR r) (player kind s : Int) (h0 : 0 ≤ s) (h1 : s ≤ 64) (k0 : 0 ≤ kind) (k1 : kind < (r.f3.length : Int)) : moves_arrives.f r.f0 r.f1 r.f2 r.f3 r.f4 r.f5 r.f6 r.f7 r.f8 r.f9 r.f10 player kind s = some (arr r player kind s) := by
  unfold moves_arrives.f arr
  have hq := (hr.pc _ (rdP_mem _ kind k0 k1))
  have ht := hr.t
  rw [if_pos k0, if_pos k1]
  by_cases h : (rd_T104 r.f3 kind).f2 > 0
  · rw [if_pos h, far_f r hr player s h0 h1]
    simp only [Option.bind_some]
    by_cases hf : farB r player s = true
    · rw [if_pos hf, if_pos ⟨h, hf⟩, w64 (by omega) (by omega)]
    · rw [if_neg hf, if_neg (fun h => hf h.2)]
  · rw [if_neg h, if_neg (fun h2 => h h2.1)]
theorem arr_in (r : S26) (hr : VR r) (player kind s : Int) (k0 : 0 ≤ kind) (k1 : kind < (r.f3.length : Int)) : 0 ≤ arr r player kind s ∧ arr r player kind s < (r.f3.length : Int) := by
  have hq := (hr.pc _ (rdP_mem _ kind k0 k1))
  unfold arr
  split <;> omega
/-- the moves of a piece by a way -/
theorem along_l0 (r : S26) (p : S41) (hr : VR r) (hp : VP r p) (fr kind dx dy0 dy take most : Int) (hdx : -7 ≤ dx ∧ dx ≤ 7) (hdy : -7 ≤ dy ∧ dy ≤ 7) (hm : 1 ≤ most ∧ most ≤ 7) (k0 : 0 ≤ kind) (k1 : kind < (r.f3.length : Int)) :
    ∀ (n i : Nat) (x y : Int) (out : List S38), (i : Int) + n = most → onB r x y → out.length + n ≤ 1000000 →
      Ev (fun k => moves_along.l0 k out fr kind dy x y most (i : Int) r.f0 r.f1 r.f2 r.f3 r.f4 r.f5 r.f6 r.f7 r.f8 r.f9 r.f10 p.f0 p.f1.f0 p.f1.f1 p.f2 p.f3 dx dy0 most take) (out ++ (ray r p dx dy take n x y).map fun s => ⟨fr, s, arr r p.f2 kind s⟩) := by
  have ht := hr.t
  obtain ⟨w0, w1⟩ := hr.w
  obtain ⟨v0, v1⟩ := hr.h
  have htu : 0 ≤ p.f2 ∧ p.f2 ≤ 1 := by rcases hp.t with h | h <;> omega
  intro n
  induction n with
  | zero =>
    intro i x y out hi hb hl
    refine Ev.step (fun k => by rw [moves_along.l0]) (ite (fun h => absurd h (by omega)) (fun _ => ?_))
    exact now (by simp [ray])
  | succ n ih =>
    intro i x y out hi hb hl
    obtain ⟨x0, x1, y0, y1⟩ := hb
    refine Ev.step (fun k => by rw [moves_along.l0]) (ite (fun _ => ?_) (fun h => absurd (by omega) h))
    rw [w64 (n := x + dx) (by omega) (by omega), w64 (n := y + dy) (by omega) (by omega)]
    have off : ∀ b : Bool, b = true → ¬ onB r (x + dx) (y + dy) → Ev (fun k => moves_along.j2 k out fr kind dy (x + dx) (y + dy) most (i : Int) b r.f0 r.f1 r.f2 r.f3 r.f4 r.f5 r.f6 r.f7 r.f8 r.f9 r.f10 p.f0 p.f1.f0 p.f1.f1 p.f2 p.f3 dx dy0 most take) (out ++ (ray r p dx dy take (n + 1) x y).map fun s => ⟨fr, s, arr r p.f2 kind s⟩) := by
      intro b hb2 hn
      subst hb2
      refine Ev.step (fun k => by rw [moves_along.j2]) (ite (fun _ => now (by rw [ray, if_neg hn]; simp)) (fun h => absurd rfl h))
    refine ite (fun h => off true rfl (fun hb => by obtain ⟨a, _⟩ := hb; omega)) (fun h1 => ?_)
    refine ite (fun h => off true rfl (fun hb => by obtain ⟨_, a, _⟩ := hb; omega)) (fun h2 => ?_)
    refine ite (fun h => off true rfl (fun hb => by obtain ⟨_, _, a, _⟩ := hb; omega)) (fun h3 => ?_)
    by_cases h4 : y + dy ≥ r.f2
    · exact off _ (decide_eq_true h4) (fun hb => by obtain ⟨_, _, _, a⟩ := hb; omega)
    rw [show decide (y + dy ≥ r.f2) = false from decide_eq_false h4]
    have hon : onB r (x + dx) (y + dy) := ⟨by omega, by omega, by omega, by omega⟩
    obtain ⟨s0, s1, s2, s3⟩ := sq_in hr hon
    have hn := hp.n
    have s2' : 0 ≤ (y + dy) * r.f1 + (x + dx) := s2
    have s3' : (y + dy) * r.f1 + (x + dx) < (p.f0.length : Int) := by rw [hn]; exact s3
    refine Ev.step (fun k => by rw [moves_along.j2]) (ite (fun h => absurd h (by decide)) (fun _ => ?_))
    rw [w64 (n := (y + dy) * r.f1) (by omega) (by omega), w64 (n := (y + dy) * r.f1 + (x + dx)) (by unfold sq at s2; omega) (by unfold sq at s3; have := area hr; omega)]
    show Ev (fun k => if 0 ≤ sq r (x + dx) (y + dy) then _ else _) _
    refine ite (fun _ => ?_) (fun h => absurd s2 h)
    refine ite (fun _ => ?_) (fun h => absurd (by omega) h)
    show Ev (fun k => (moves_Owner.f (rd p.f0 (sq r (x + dx) (y + dy)))).bind _) _
    have hc := hp.cell hr (sq r (x + dx) (y + dy)) s2 (by omega)
    refine bind_now (owner_f _ ⟨hc.1, hc.2.1⟩) ?_
    rw [w64 (n := 1 - p.f2) (by omega) (by omega)]
    have fin : ∀ (b : Bool) (o : Int), o = own (rd p.f0 (sq r (x + dx) (y + dy))) → (b = true ↔ takes p take (rd p.f0 (sq r (x + dx) (y + dy)))) → Ev (fun k => moves_along.j3 k out fr kind dy (x + dx) (y + dy) (sq r (x + dx) (y + dy)) o most (i : Int) b r.f0 r.f1 r.f2 r.f3 r.f4 r.f5 r.f6 r.f7 r.f8 r.f9 r.f10 p.f0 p.f1.f0 p.f1.f1 p.f2 p.f3 dx dy0 most take) (out ++ (ray r p dx dy take (n + 1) x y).map fun s => ⟨fr, s, arr r p.f2 kind s⟩) := by
      intro b o ho hbt
      have hw : ((i + 1 : Nat) : Int) = wrap64 ((i : Int) + 1) := by rw [w64s (by omega) (by omega)]; omega
      refine Ev.step (fun k => by rw [moves_along.j3]) ?_
      rw [ray, if_pos hon]
      refine ite (fun hb1 => ?_) (fun hb1 => ?_)
      · rw [if_pos (hbt.1 hb1)]
        refine bind_now (arrives_f r hr p.f2 kind _ s2 (by have := area hr; omega) k0 k1) ?_
        refine ite (fun _ => ?_) (fun h => absurd (by omega) h)
        refine bind_now rfl ?_
        refine ite (fun h => ?_) (fun h => ?_)
        · rw [if_pos (by rw [← ho]; omega)]
          exact now (by simp)
        · rw [if_neg (by rw [← ho]; omega)]
          have e := ih (i + 1) (x + dx) (y + dy) (out ++ [⟨fr, sq r (x + dx) (y + dy), arr r p.f2 kind (sq r (x + dx) (y + dy))⟩]) (by omega) hon (by simp; omega)
          rw [hw] at e
          simpa using e
      · rw [if_neg (fun h => hb1 (hbt.2 h))]
        refine ite (fun h => ?_) (fun h => ?_)
        · rw [if_pos (by rw [← ho]; omega)]
          exact now (by simp)
        · rw [if_neg (by rw [← ho]; omega)]
          have e := ih (i + 1) (x + dx) (y + dy) out (by omega) hon (by omega)
          rw [hw] at e
          simpa using e
    refine ite (fun ho => ?_) (fun ho => ?_)
    · refine ite (fun ht2 => ?_) (fun ht2 => ?_)
      · refine ite (fun h => absurd h (by omega)) (fun _ => fin _ _ rfl ?_)
        unfold takes
        constructor
        · intro h; cases h
        · intro h; omega
      · refine fin _ _ rfl ?_
        unfold takes
        exact ⟨fun _ => .inl ⟨ho, ht2⟩, fun _ => rfl⟩
    · refine ite (fun h => ?_) (fun h => ?_)
      · refine fin _ _ rfl ?_
        unfold takes
        constructor
        · intro hh; exact .inr ⟨h, by simpa using hh⟩
        · rintro (hh | hh)
          · omega
          · simpa using hh.2
      · refine fin _ _ rfl ?_
        unfold takes
        constructor
        · intro hh; cases hh
        · rintro (hh | hh) <;> omega
/-! drops -/
def lowB (r : S26) (p : S41) : Nat → Int → Bool
  | 0, _ => true
  | n + 1, s => if 0 ≤ s then (if rd p.f0 s = 0 then false else lowB r p n (s - r.f1)) else true
def openB (r : S26) (p : S41) (s : Int) : Bool := decide (rd p.f0 s = 0) && (!r.f5 || lowB r p 64 (s - r.f1))
theorem open_l0 (r : S26) (p : S41) (hr : VR r) (hp : VP r p) : ∀ (n : Nat) (s : Int), s < n → s < (p.f0.length : Int) → -64 ≤ s → Ev (fun k => moves_open.l0 k s r.f0 r.f1 r.f2 r.f3 r.f4 r.f5 r.f6 r.f7 r.f8 r.f9 r.f10 p.f0 p.f1.f0 p.f1.f1 p.f2 p.f3) (lowB r p n s) := by
  obtain ⟨w0, w1⟩ := hr.w
  have hl := hp.len hr
  intro n
  induction n with
  | zero =>
    intro s h1 h2 h3
    refine Ev.step (fun k => by rw [moves_open.l0]) ?_
    exact ite (fun h => absurd h (by omega)) (fun _ => now rfl)
  | succ n ih =>
    intro s h1 h2 h3
    refine Ev.step (fun k => by rw [moves_open.l0]) ?_
    rw [lowB]
    refine ite (fun h => ?_) (fun h => now (by rw [if_neg (by omega)]))
    rw [if_pos (by omega)]
    refine ite (fun _ => ?_) (fun h => absurd (by omega) h)
    refine ite (fun _ => ?_) (fun h => absurd h2 h)
    refine ite (fun h => now (by rw [if_pos h])) (fun h0 => ?_)
    rw [if_neg h0, w64 (by omega) (by omega)]
    exact ih _ (by omega) (by omega) (by omega)
theorem open_f (r : S26) (p : S41) (hr : VR r) (hp : VP r p) (s : Int) (h0 : 0 ≤ s) (h1 : s < (p.f0.length : Int)) : Ev (fun k => moves_open.f k r.f0 r.f1 r.f2 r.f3 r.f4 r.f5 r.f6 r.f7 r.f8 r.f9 r.f10 p.f0 p.f1.f0 p.f1.f1 p.f2 p.f3 s) (openB r p s) := by
  obtain ⟨w0, w1⟩ := hr.w
  have hl := hp.len hr
  unfold moves_open.f openB
  refine ite (fun _ => ?_) (fun h => absurd h0 h)
  refine ite (fun _ => ?_) (fun h => absurd h1 h)
  refine ite (fun hc => ?_) (fun hc => now (by simp [hc]))
  refine ite (fun hf => ?_) (fun hf => now (by simp [hc, hf]))
  rw [w64 (by omega) (by omega)]
  exact ev_eq (open_l0 r p hr hp 64 (s - r.f1) (by omega) (by omega) (by omega)) (by simp [hc, hf])
def dropS (r : S26) (p : S41) (t : Int) (i : Nat) : List S38 := if openB r p (i : Int) = true then [⟨-1, (i : Int), t⟩] else []
def dropK (r : S26) (p : S41) (t n : Int) (i d : Nat) : List S38 := if n > 0 then (List.range' i d).flatMap (dropS r p t) else []
theorem dropS_len (r : S26) (p : S41) (t : Int) (i : Nat) : (dropS r p t i).length ≤ 1 := by unfold dropS; split <;> simp
theorem gen_l1 (r : S26) (p : S41) (hr : VR r) (hp : VP r p) (t n : Int) (hs : List Int) (m u : Int) (res : List S38) :
    ∀ (d i : Nat) (out : List S38), i + d = p.f0.length → out.length + d ≤ 1000000 →
      Ev (fun k => moves_Gen.l0 k (out ++ dropK r p t n i d) hs m (wrap64 (u + 1)) r.f0 r.f1 r.f2 r.f3 r.f4 r.f5 r.f6 r.f7 r.f8 r.f9 r.f10 p.f0 p.f1.f0 p.f1.f1 p.f2 p.f3) res → Ev (fun k => moves_Gen.l1 k out t n hs m u (p.f0.length : Int) (i : Int) r.f0 r.f1 r.f2 r.f3 r.f4 r.f5 r.f6 r.f7 r.f8 r.f9 r.f10 p.f0 p.f1.f0 p.f1.f1 p.f2 p.f3) res := by
  intro d
  induction d with
  | zero =>
    intro i out hi hl e
    refine Ev.step (fun k => by rw [moves_Gen.l1]) (ite (fun h => absurd h (by omega)) (fun _ => ?_))
    have : dropK r p t n i 0 = [] := by unfold dropK; split <;> simp
    rw [this, List.append_nil] at e
    exact e
  | succ d ih =>
    intro i out hi hl e
    have hw : ((i + 1 : Nat) : Int) = wrap64 ((i : Int) + 1) := by have := hp.len hr; rw [w64s (by omega) (by omega)]; omega
    refine Ev.step (fun k => by rw [moves_Gen.l1]) (ite (fun _ => ?_) (fun h => absurd (by omega) h))
    refine ite (fun hn => ?_) (fun hn => ?_)
    · refine Ev.bind (open_f r p hr hp (i : Int) (by omega) (by omega)) ?_
      have e2 : dropK r p t n i (d + 1) = dropS r p t i ++ dropK r p t n (i + 1) d := by unfold dropK; rw [if_pos hn, if_pos hn, List.range'_succ]; simp
      rw [e2] at e
      refine ite (fun ho => ?_) (fun ho => ?_)
      · have e3 : dropS r p t i = [⟨-1, (i : Int), t⟩] := by unfold dropS; rw [if_pos ho]
        rw [e3, ← List.append_assoc] at e
        refine ite (fun _ => ?_) (fun h => absurd (by omega) h)
        have h := ih (i + 1) (out ++ [⟨-1, (i : Int), t⟩]) (by omega) (by simp; omega) e
        rw [hw] at h; exact h
      · have e3 : dropS r p t i = [] := by unfold dropS; rw [if_neg ho]
        rw [e3, List.nil_append] at e
        have h := ih (i + 1) out (by omega) (by omega) e
        rw [hw] at h; exact h
    · have e2 : dropK r p t n i (d + 1) = dropK r p t n (i + 1) d := by unfold dropK; rw [if_neg hn, if_neg hn]
      rw [e2] at e
      have h := ih (i + 1) out (by omega) (by omega) e
      rw [hw] at h; exact h
/-! pieces -/
def dyW (p : S41) (w : S106) : Int := if p.f2 = 1 then -w.f1 else w.f1
def wayM (r : S26) (p : S41) (s : Int) (w : S106) : List S38 := (ray r p w.f0 (dyW p w) w.f3 w.f2.toNat (s % r.f1) (s / r.f1)).map fun q => ⟨s, q, arr r p.f2 (knd (rd p.f0 s)) q⟩
def pieceM (r : S26) (p : S41) (i : Nat) : List S38 := if own (rd p.f0 (i : Int)) = p.f2 then (rd_T104 r.f3 (knd (rd p.f0 (i : Int)))).f3.flatMap (wayM r p (i : Int)) else []
theorem onB_of (r : S26) (hr : VR r) (s : Int) (h0 : 0 ≤ s) (h1 : s < r.f1 * r.f2) : onB r (s % r.f1) (s / r.f1) ∧ sq r (s % r.f1) (s / r.f1) = s := by
  obtain ⟨w0, w1⟩ := hr.w
  refine ⟨⟨Int.emod_nonneg _ (by omega), Int.emod_lt_of_pos _ (by omega), Int.ediv_nonneg h0 (by omega), Int.ediv_lt_of_lt_mul (by omega) (by rw [Int.mul_comm]; exact h1)⟩, ?_⟩
  unfold sq
  have := Int.mul_ediv_add_emod s r.f1
  rw [Int.mul_comm] at this
  exact this
theorem wayM_len (r : S26) (p : S41) (s : Int) (w : S106) (h : w.f2 ≤ 7) : (wayM r p s w).length ≤ 7 := by
  unfold wayM
  have := ray_len r p w.f0 (dyW p w) w.f3 w.f2.toNat (s % r.f1) (s / r.f1)
  simp only [List.length_map]; omega
theorem along_f (r : S26) (p : S41) (hr : VR r) (hp : VP r p) (s : Int) (h0 : 0 ≤ s) (h1 : s < (p.f0.length : Int)) (hc : 1 ≤ rd p.f0 s) (w : S106) (hw : -7 ≤ w.f0 ∧ w.f0 ≤ 7 ∧ -7 ≤ w.f1 ∧ w.f1 ≤ 7 ∧ 1 ≤ w.f2 ∧ w.f2 ≤ 7) (out : List S38) (hl : out.length + 7 ≤ 1000000) :
    Ev (fun k => moves_along.f k out r.f0 r.f1 r.f2 r.f3 r.f4 r.f5 r.f6 r.f7 r.f8 r.f9 r.f10 p.f0 p.f1.f0 p.f1.f1 p.f2 p.f3 s w.f0 w.f1 w.f2 w.f3) (out ++ wayM r p s w) := by
  obtain ⟨w0, w1⟩ := hr.w
  have hcc := hp.cell hr s h0 h1
  have hk := knd_lt (rd p.f0 s) r.f3.length ⟨hc, hcc.2.2⟩
  have hn := hp.n
  have ha := area hr
  unfold moves_along.f
  refine ite (fun _ => ?_) (fun h => absurd h0 h)
  refine ite (fun _ => ?_) (fun h => absurd h1 h)
  refine bind_now (kind_f _ ⟨hc, hcc.2.1⟩) ?_
  have hd : 0 ≤ s / r.f1 ∧ s / r.f1 ≤ s := ⟨Int.ediv_nonneg h0 (by omega), Int.ediv_le_self _ h0⟩
  have j : ∀ dy, -7 ≤ dy ∧ dy ≤ 7 → dy = dyW p w → Ev (fun k => moves_along.j0 k out s (knd (rd p.f0 s)) dy r.f0 r.f1 r.f2 r.f3 r.f4 r.f5 r.f6 r.f7 r.f8 r.f9 r.f10 p.f0 p.f1.f0 p.f1.f1 p.f2 p.f3 w.f0 w.f1 w.f2 w.f3) (out ++ wayM r p s w) := by
    intro dy hdy e
    refine Ev.step (fun k => by rw [moves_along.j0]) (ite (fun h => absurd h (by omega)) (fun _ => ?_))
    rw [Int.tmod_eq_emod_of_nonneg h0, Int.tdiv_eq_ediv_of_nonneg h0, w64 (n := s / r.f1) (by omega) (by omega)]
    have h := along_l0 r p hr hp s (knd (rd p.f0 s)) w.f0 w.f1 dy w.f3 w.f2 (by omega) hdy (by omega) hk.1 hk.2 w.f2.toNat 0 (s % r.f1) (s / r.f1) out (by omega) (onB_of r hr s h0 (by omega)).1 (by omega)
    unfold wayM; rw [← e]
    exact h
  refine ite (fun ht => ?_) (fun ht => ?_)
  · rw [w64 (by omega) (by omega)]
    exact j _ (by omega) (by unfold dyW; rw [if_pos ht])
  · exact j _ (by omega) (by unfold dyW; rw [if_neg ht])
theorem gen_l3 (r : S26) (p : S41) (hr : VR r) (hp : VP r p) (s : Int) (h0 : 0 ≤ s) (h1 : s < (p.f0.length : Int)) (hc : 1 ≤ rd p.f0 s) (ws : List S106) (hws : ws.length ≤ 16) (hw : ∀ w ∈ ws, -7 ≤ w.f0 ∧ w.f0 ≤ 7 ∧ -7 ≤ w.f1 ∧ w.f1 ≤ 7 ∧ 1 ≤ w.f2 ∧ w.f2 ≤ 7) (u : Int) (res : List S38) :
    ∀ (d j : Nat) (out : List S38), j + d = ws.length → out.length + 7 * d ≤ 1000000 →
      Ev (fun k => moves_Gen.l2 k (out ++ (ws.drop j).flatMap (wayM r p s)) p.f0 (p.f0.length : Int) (wrap64 (u + 1)) r.f0 r.f1 r.f2 r.f3 r.f4 r.f5 r.f6 r.f7 r.f8 r.f9 r.f10 p.f0 p.f1.f0 p.f1.f1 p.f2 p.f3) res → Ev (fun k => moves_Gen.l3 k out s p.f0 (p.f0.length : Int) u ws (ws.length : Int) (j : Int) r.f0 r.f1 r.f2 r.f3 r.f4 r.f5 r.f6 r.f7 r.f8 r.f9 r.f10 p.f0 p.f1.f0 p.f1.f1 p.f2 p.f3) res := by
  intro d
  induction d with
  | zero =>
    intro j out hj hl e
    refine Ev.step (fun k => by rw [moves_Gen.l3]) (ite (fun h => absurd h (by omega)) (fun _ => ?_))
    rw [List.drop_of_length_le (by omega)] at e
    simpa using e
  | succ d ih =>
    intro j out hj hl e
    have hwr : ((j + 1 : Nat) : Int) = wrap64 ((j : Int) + 1) := by rw [w64s (by omega) (by omega)]; omega
    have hjl : j < ws.length := by omega
    refine Ev.step (fun k => by rw [moves_Gen.l3]) (ite (fun _ => ?_) (fun h => absurd (by omega) h))
    refine ite (fun _ => ?_) (fun h => absurd (by omega) h)
    refine ite (fun _ => ?_) (fun h => absurd (by omega) h)
    rw [rdW_nat ws j hjl]
    have hwj := hw _ (List.getElem_mem hjl)
    refine Ev.bind (along_f r p hr hp s h0 h1 hc ws[j] hwj out (by omega)) ?_
    rw [List.drop_eq_getElem_cons hjl, List.flatMap_cons, ← List.append_assoc] at e
    have h := ih (j + 1) (out ++ wayM r p s ws[j]) (by omega) (by have := wayM_len r p s ws[j] (by omega); simp; omega) e
    rw [hwr] at h; exact h
theorem flat_len (f : S106 → List S38) (b : Nat) : ∀ ws : List S106, (∀ w ∈ ws, (f w).length ≤ b) → (ws.flatMap f).length ≤ b * ws.length
  | [], _ => by simp
  | w :: ws, h => by
    have h1 := flat_len f b ws (fun x hx => h x (List.mem_cons_of_mem _ hx))
    have h2 := h w List.mem_cons_self
    rw [List.flatMap_cons, List.length_append, List.length_cons, Nat.mul_add, Nat.mul_one]; omega
theorem gen_l2 (r : S26) (p : S41) (hr : VR r) (hp : VP r p) : ∀ (d i : Nat) (out : List S38), i + d = p.f0.length → out.length + 112 * d ≤ 900000 →
      Ev (fun k => moves_Gen.l2 k out p.f0 (p.f0.length : Int) (i : Int) r.f0 r.f1 r.f2 r.f3 r.f4 r.f5 r.f6 r.f7 r.f8 r.f9 r.f10 p.f0 p.f1.f0 p.f1.f1 p.f2 p.f3) (onceM (out ++ (List.range' i d).flatMap (pieceM r p))) := by
  have hlen := hp.len hr
  intro d
  induction d with
  | zero =>
    intro i out hi hl
    refine Ev.step (fun k => by rw [moves_Gen.l2]) (ite (fun h => absurd h (by omega)) (fun _ => ?_))
    exact ite (fun _ => now (by simp)) (fun h => absurd (by omega) h)
  | succ d ih =>
    intro i out hi hl
    have hwr : ((i + 1 : Nat) : Int) = wrap64 ((i : Int) + 1) := by rw [w64s (by omega) (by omega)]; omega
    refine Ev.step (fun k => by rw [moves_Gen.l2]) (ite (fun _ => ?_) (fun h => absurd (by omega) h))
    refine ite (fun _ => ?_) (fun h => absurd (by omega) h)
    refine ite (fun _ => ?_) (fun h => absurd (by omega) h)
    have hcc := hp.cell hr (i : Int) (by omega) (by omega)
    refine bind_now (owner_f _ ⟨hcc.1, hcc.2.1⟩) ?_
    rw [List.range'_succ, List.flatMap_cons]
    refine ite (fun ho => ?_) (fun ho => ?_)
    · have hc1 : 1 ≤ rd p.f0 (i : Int) := by
        have ht := hp.t
        by_cases h : rd p.f0 (i : Int) = 0
        · unfold own at ho; rw [if_pos h] at ho; omega
        · omega
      have hk := knd_lt (rd p.f0 (i : Int)) r.f3.length ⟨hc1, hcc.2.2⟩
      refine bind_now (kind_f _ ⟨hc1, hcc.2.1⟩) ?_
      refine ite (fun _ => ?_) (fun h => absurd hk.1 h)
      refine ite (fun _ => ?_) (fun h => absurd hk.2 h)
      have hq := hr.pc _ (rdP_mem _ _ hk.1 hk.2)
      have hwl : ∀ w ∈ (rd_T104 r.f3 (knd (rd p.f0 (i : Int)))).f3, -7 ≤ w.f0 ∧ w.f0 ≤ 7 ∧ -7 ≤ w.f1 ∧ w.f1 ≤ 7 ∧ 1 ≤ w.f2 ∧ w.f2 ≤ 7 := fun w hw => by have := hq.2.2.2.2.2 w hw; omega
      have e3 : pieceM r p i = (rd_T104 r.f3 (knd (rd p.f0 (i : Int)))).f3.flatMap (wayM r p (i : Int)) := by unfold pieceM; rw [if_pos ho]
      rw [e3, ← List.append_assoc]
      have hfl := flat_len (wayM r p (i : Int)) 7 (rd_T104 r.f3 (knd (rd p.f0 (i : Int)))).f3 (fun w hw => wayM_len r p _ w (hwl w hw).2.2.2.2.2)
      have hq16 := hq.2.2.2.2.1
      have h := ih (i + 1) (out ++ (rd_T104 r.f3 (knd (rd p.f0 (i : Int)))).f3.flatMap (wayM r p (i : Int))) (by omega) (by rw [List.length_append]; omega)
      rw [hwr] at h
      exact gen_l3 r p hr hp (i : Int) (by omega) (by omega) hc1 _ hq16 hwl (i : Int) _ (rd_T104 r.f3 (knd (rd p.f0 (i : Int)))).f3.length 0 out (by omega) (by omega) (by rw [List.drop_zero]; exact h)
    · have e3 : pieceM r p i = [] := by unfold pieceM; rw [if_neg ho]
      rw [e3, List.nil_append]
      have h := ih (i + 1) out (by omega) (by omega)
      rw [hwr] at h; exact h
/-- all that moves.Gen finds, in the order in which it finds it -/
def drops (r : S26) (p : S41) (i d : Nat) : List S38 := (List.range' i d).flatMap fun (t : Nat) => dropK r p (t : Int) (rd (hand p) (t : Int)) 0 p.f0.length
def rawM (r : S26) (p : S41) : List S38 := drops r p 0 r.f3.length ++ (List.range' 0 p.f0.length).flatMap (pieceM r p)
theorem dropK_len (r : S26) (p : S41) (t n : Int) (i d : Nat) : (dropK r p t n i d).length ≤ d := by
  unfold dropK
  split
  · induction d generalizing i with
    | zero => simp
    | succ d ih =>
      rw [List.range'_succ, List.flatMap_cons, List.length_append]
      have := ih (i + 1); have := dropS_len r p t i; omega
  · simp
theorem gen_l0 (r : S26) (p : S41) (hr : VR r) (hp : VP r p) : ∀ (d i : Nat) (out : List S38), i + d = r.f3.length → out.length + 64 * d ≤ 1000 →
      Ev (fun k => moves_Gen.l0 k out (hand p) (r.f3.length : Int) (i : Int) r.f0 r.f1 r.f2 r.f3 r.f4 r.f5 r.f6 r.f7 r.f8 r.f9 r.f10 p.f0 p.f1.f0 p.f1.f1 p.f2 p.f3) (onceM (out ++ drops r p i d ++ (List.range' 0 p.f0.length).flatMap (pieceM r p))) := by
  have hlen := hp.len hr
  have hrt := hr.t
  have hh := hp.hlen
  intro d
  induction d with
  | zero =>
    intro i out hi hl
    refine Ev.step (fun k => by rw [moves_Gen.l0]) (ite (fun h => absurd h (by omega)) (fun _ => ?_))
    have h := gen_l2 r p hr hp p.f0.length 0 out (by omega) (by omega)
    simpa [drops] using h
  | succ d ih =>
    intro i out hi hl
    have hwr : ((i + 1 : Nat) : Int) = wrap64 ((i : Int) + 1) := by rw [w64s (by omega) (by omega)]; omega
    refine Ev.step (fun k => by rw [moves_Gen.l0]) (ite (fun _ => ?_) (fun h => absurd (by omega) h))
    refine ite (fun _ => ?_) (fun h => absurd (by omega) h)
    refine ite (fun _ => ?_) (fun h => absurd (by omega) h)
    have hdl := dropK_len r p (i : Int) (rd (hand p) (i : Int)) 0 p.f0.length
    have h := ih (i + 1) (out ++ dropK r p (i : Int) (rd (hand p) (i : Int)) 0 p.f0.length) (by omega) (by rw [List.length_append]; omega)
    rw [hwr] at h
    have e : out ++ drops r p i (d + 1) = out ++ dropK r p (i : Int) (rd (hand p) (i : Int)) 0 p.f0.length ++ drops r p (i + 1) d := by
      unfold drops; rw [List.range'_succ, List.flatMap_cons, List.append_assoc]
    rw [e]
    exact gen_l1 r p hr hp (i : Int) (rd (hand p) (i : Int)) (hand p) (r.f3.length : Int) (i : Int) _ p.f0.length 0 out (by omega) (by omega) h
/-- what moves.Gen returns -/
theorem gen_f (r : S26) (p : S41) (hr : VR r) (hp : VP r p) : Ev (fun k => moves_Gen.f k r.f0 r.f1 r.f2 r.f3 r.f4 r.f5 r.f6 r.f7 r.f8 r.f9 r.f10 p.f0 p.f1.f0 p.f1.f1 p.f2 p.f3) (onceM (rawM r p)) := by
  have hrt := hr.t
  have h0 := hp.h0
  have h1 := hp.h1
  have htu : 0 ≤ p.f2 ∧ p.f2 ≤ 1 := by rcases hp.t with h | h <;> omega
  have h := gen_l0 r p hr hp r.f3.length 0 [] (by omega) (by simp; omega)
  rw [List.nil_append] at h
  unfold moves_Gen.f
  refine ite (fun _ => ?_) (fun h => absurd htu.1 h)
  refine ite (fun _ => ?_) (fun h => absurd (by omega) h)
  refine ite (fun ht => ?_) (fun ht => ?_)
  · refine Ev.step (fun k => by rw [moves_Gen.j0]) ?_
    rw [show p.f1.f0 = hand p by unfold hand; rw [if_pos ht], show ((hand p).length : Int) = (r.f3.length : Int) by rw [hp.hlen]]
    have e : Ev (fun k => moves_Gen.l0 k [] (hand p) (r.f3.length : Int) 0 r.f0 r.f1 r.f2 r.f3 r.f4 r.f5 r.f6 r.f7 r.f8 r.f9 r.f10 p.f0 p.f1.f0 p.f1.f1 p.f2 p.f3) (onceM (rawM r p)) := h
    rw [show hand p = p.f1.f0 by unfold hand; rw [if_pos ht]] at e ⊢
    exact e
  · refine Ev.step (fun k => by rw [moves_Gen.j0]) ?_
    have e : Ev (fun k => moves_Gen.l0 k [] (hand p) (r.f3.length : Int) 0 r.f0 r.f1 r.f2 r.f3 r.f4 r.f5 r.f6 r.f7 r.f8 r.f9 r.f10 p.f0 p.f1.f0 p.f1.f1 p.f2 p.f3) (onceM (rawM r p)) := h
    rw [show hand p = p.f1.f1 by unfold hand; rw [if_neg ht]] at e
    rw [h1]
    exact e
end Co
end Go.Proofs.Ytkpphlimnnifkaa.Pure
