/- KnockoutPlays: for every input the law answers true. The brackets of 2 to 32 players are finite facts; the games are followed round by round, code and law at once. -/
import Derived.Test.YteooljkamebenaaPKnockoutPlaysx6
import Derived.Test.YteooljkamebenaaAid
namespace Go.Proofs.Yteooljkamebenaa.Pure
open Go.RowKit Go.Proofs.Yteooljkamebenaa.PKnockoutPlays Go.Proofs.YteooljkamebenaaW.PrintWords Go.Proofs.YteooljkamebenaaW.PrintLast

set_option linter.unusedSimpArgs false
set_option linter.unusedVariables false
namespace Kp
open Aid
theorem rd_at (xs : List Int) (i : Nat) (h : i < xs.length) : rd xs (i : Int) = xs[i] := by simp [rd, List.getD_eq_getElem?_getD, h]

/-! the games -/
theorem winner_f (p a b r : Int) : knockout_winner.f p a b r = some (if b < 0 then a else if a < 0 then b else if r = 2 then a else b) := by
  unfold knockout_winner.f
  repeat' split
  all_goals first | rfl | (exfalso; omega)
theorem dec_or {p q : Prop} [Decidable p] [Decidable q] (h : ¬ p) : decide (p ∨ q) = decide q := by simp [h]
theorem late_f (x12 : Int) (x1 : List Int) : knockout_late.f x12 x1 = some (if x12 < (x1.length : Int) then 2 else 0) := by
  unfold knockout_late.f; split <;> rfl
theorem rd148 (xs : List S148) (i : Nat) (h : i < xs.length) : rd_T148 xs (i : Int) = xs[i] := by simp [rd_T148, List.getD_eq_getElem?_getD, h]
section
variable (x1 : List Int)
theorem code_step (x7 : List Int) (M : Nat) (hM : x7.length = 2 * M) (hb : M ≤ 16) (x12 x13 : Int) (i : Nat) (hi : i < M) (a b : Int) (ha : Aside0 (rd x7 ((2 * i : Nat) : Int) = a)) (hb2 : Aside0 (rd x7 ((2 * i + 1 : Nat) : Int) = b)) (x11 y : List S148) (hy : Aside0 (x11 ++ [(⟨x13, a, b⟩ : S148)] = y)) (h11 : x11.length ≤ 100) (x14 : List Int) (r : List S148 × Int × Int)
    (h : Ev (fun k => knockout_Play.j3 k x1 x7 y x12 x13 x14 ((2 * i : Nat) : Int) (decide (a < 0 ∨ b < 0)) x13 (a) (b)) r) :
    Ev (fun k => knockout_Play.l2 k x1 x7 x11 x12 x13 x14 ((2 * i : Nat) : Int)) r := by
  refine Ev.step (fun k => by rw [knockout_Play.l2]) ?_
  have hw := Aside0.mk (show wrap64 (((2 * i : Nat) : Int) + 1) = ((2 * i + 1 : Nat) : Int) from by rw [w64 (by omega) (by omega)]; omega)
  rw [hw.out]
  simp only [ha.out, hb2.out]
  obtain ⟨hy⟩ := hy
  subst hy
  refine ite (fun _ => ?_) (fun h => absurd (show ((2 * i + 1 : Nat) : Int) < (x7.length : Int) by omega) h)
  refine ite (fun _ => ?_) (fun h => absurd (show (0 : Int) ≤ ((2 * i : Nat) : Int) by omega) h)
  refine ite (fun _ => ?_) (fun h => absurd (show ((2 * i : Nat) : Int) < (x7.length : Int) by omega) h)
  refine ite (fun _ => ?_) (fun h => absurd (show (0 : Int) ≤ ((2 * i + 1 : Nat) : Int) by omega) h)
  refine ite (fun _ => ?_) (fun h => absurd (show x11.length < 5864062014805 by omega) h)
  refine bind_now rfl ?_
  refine ite (fun hc => ?_) (fun hc => ?_)
  · rw [show decide (a < 0 ∨ b < 0) = true from decide_eq_true (Or.inl hc)] at h; exact h
  · rw [show decide (a < 0 ∨ b < 0) = decide (b < 0) from dec_or hc] at h; exact h
theorem played_step (x7 : List Int) (M : Nat) (hM : x7.length = 2 * M) (hb : M ≤ 16) (x12 x13 : Int) (i : Nat) (hi : i < M) (a b : Int) (ha : Aside0 (rd x7 ((2 * i : Nat) : Int) = a)) (hb2 : Aside0 (rd x7 ((2 * i + 1 : Nat) : Int) = b)) (x11 y : List S148) (hy : Aside0 (x11 ++ [(⟨x13, a, b⟩ : S148)] = y)) (h11 : x11.length ≤ 100) (z : List Int) (g : List S148) (c e : Int) (s : Bool)
    (hg : (e = 0 ∧ y <+: g) ∨ e ≠ 0)
    (h : Ev (fun k => gamehalllaw3_played.j5 k x7 x1 g c e x12 ((x11.length + 1 : Nat) : Int) s x13 z (i : Int) (a) (b) (M : Int) (i : Int) (decide (a = -1 ∨ b = -1))) true) :
    Ev (fun k => gamehalllaw3_played.l2 k x7 x1 g c e x12 (x11.length : Int) s x13 z (M : Int) (i : Int)) true := by
  refine Ev.step (fun k => by rw [gamehalllaw3_played.l2]) ?_
  have hw0 := Aside0.mk (show wrap64 (2 * (i : Int)) = ((2 * i : Nat) : Int) from by rw [w64 (by omega) (by omega)]; omega)
  have hw := Aside0.mk (show wrap64 (((2 * i : Nat) : Int) + 1) = ((2 * i + 1 : Nat) : Int) from by rw [w64 (by omega) (by omega)]; omega)
  have hw1 := Aside0.mk (show wrap64 ((x11.length : Int) + 1) = ((x11.length + 1 : Nat) : Int) from by rw [w64 (by omega) (by omega)]; omega)
  rw [hw0.out, hw.out]
  simp only [ha.out, hb2.out]
  obtain ⟨hy⟩ := hy
  subst hy
  refine ite (fun _ => ?_) (fun h => absurd (show (i : Int) < (M : Int) by omega) h)
  refine ite (fun _ => ?_) (fun h => absurd (show (0 : Int) ≤ ((2 * i : Nat) : Int) by omega) h)
  refine ite (fun _ => ?_) (fun h => absurd (show ((2 * i : Nat) : Int) < (x7.length : Int) by omega) h)
  refine ite (fun _ => ?_) (fun h => absurd (show (0 : Int) ≤ ((2 * i + 1 : Nat) : Int) by omega) h)
  refine ite (fun _ => ?_) (fun h => absurd (show ((2 * i + 1 : Nat) : Int) < (x7.length : Int) by omega) h)
  have go : Ev (fun k => gamehalllaw3_played.j4 k x7 x1 g c e x12 (x11.length : Int) s x13 z (i : Int) (a) (b) (M : Int) (i : Int) false) true := by
    refine Ev.step (fun k => by rw [gamehalllaw3_played.j4]) ?_
    rw [hw1.out]
    refine ite (fun h => absurd h (by decide)) (fun _ => ?_)
    refine ite (fun hc => ?_) (fun hc => ?_)
    · rw [show decide (a = -1 ∨ b = -1) = true from decide_eq_true (Or.inl hc)] at h; exact h
    · rw [show decide (a = -1 ∨ b = -1) = (b == -1) from (dec_or hc).trans rfl] at h; exact h
  refine ite (fun he => ?_) (fun _ => go)
  obtain ⟨_, t, rfl⟩ := hg.resolve_right (fun h => h he)
  have hlen : x11.length < ((x11 ++ [(⟨x13, a, b⟩ : S148)]) ++ t).length := by simp
  refine ite (fun h => absurd h (by omega)) (fun _ => ?_)
  refine ite (fun _ => ?_) (fun h => absurd (show (0 : Int) ≤ (x11.length : Int) by omega) h)
  refine ite (fun _ => ?_) (fun h => absurd (show (x11.length : Int) < _ by omega) h)
  rw [rd148 _ x11.length hlen]
  have hget : ((x11 ++ [(⟨x13, a, b⟩ : S148)]) ++ t)[x11.length]'hlen = ⟨x13, a, b⟩ := by
    rw [List.getElem_append_left (by simp), List.getElem_append_right (by omega)]; simp
  rw [hget]
  simp only [beq_self_eq_true, Bool.not_true, Bool.or_self]
  exact go
theorem bye_eq (a b : Int) (ha : -1 ≤ a) (hb : -1 ≤ b) : decide (a = -1 ∨ b = -1) = decide (a < 0 ∨ b < 0) := by
  congr 1; apply propext; constructor <;> intro <;> omega
theorem rd_ge (x7 : List Int) (hv : ∀ v ∈ x7, -1 ≤ v) (i : Nat) (h : i < x7.length) : -1 ≤ rd x7 (i : Int) := by
  rw [rd_at _ _ h]; exact hv _ (List.getElem_mem _)
/-- the results are used up: what is left of a round -/
theorem short (x7 : List Int) (M : Nat) (hM : x7.length = 2 * M) (hb : M ≤ 16) (x12 x13 : Int) (h12 : x12 = (x1.length : Int)) (hv : ∀ v ∈ x7, -1 ≤ v) : ∀ (d i : Nat) (x11 : List S148) (x14 z : List Int), i + d = M → x14.length < i → z.length = M → x11.length + d ≤ 32 →
    ∃ g, Ev (fun k => knockout_Play.l2 k x1 x7 x11 x12 x13 x14 ((2 * i : Nat) : Int)) (g, -1, 0) ∧ x11 <+: g ∧
      Ev (fun k => gamehalllaw3_played.l2 k x7 x1 g (-1) 0 x12 (x11.length : Int) true x13 z (M : Int) (i : Int)) true := by
  intro d
  induction d with
  | zero =>
    intro i x11 x14 z hi h14 hz h11
    refine ⟨x11, Ev.step (fun k => by rw [knockout_Play.l2]) ?_, List.prefix_rfl, Ev.step (fun k => by rw [gamehalllaw3_played.l2]) ?_⟩
    · rw [w64 (n := ((2 * i : Nat) : Int) + 1) (by omega) (by omega), w64 (n := (x14.length : Int) * 2) (by omega) (by omega)]
      refine ite (fun h => absurd h (by omega)) (fun _ => ?_)
      refine ite (fun _ => ?_) (fun h => absurd (show (x14.length : Int) * 2 < (x7.length : Int) by omega) h)
      refine bind_now (late_f _ _) ?_
      rw [if_neg (c := x12 < (x1.length : Int)) (by omega)]
      exact ite (fun _ => Ev.now _) (fun h => absurd rfl h)
    · refine ite (fun h => absurd h (by omega)) (fun _ => ?_)
      refine Ev.step (fun k => by rw [gamehalllaw3_played.l1]) ?_
      have tail : Ev (fun k => gamehalllaw3_played.j2 k z x1 x11 (-1) 0 x12 (x11.length : Int) true (wrap64 (x13 + 1)) false) true := by
        refine Ev.step (fun k => by rw [gamehalllaw3_played.j2]) ?_
        refine ite (fun h => absurd h (by decide)) (fun _ => ?_)
        refine ite (fun h => absurd h (by omega)) (fun _ => ?_)
        refine ite (fun _ => ?_) (fun h => absurd rfl h)
        refine ite (fun _ => ?_) (fun h => absurd rfl h)
        refine ite (fun _ => ?_) (fun h => absurd rfl h)
        exact now (by simp)
      exact ite (fun _ => tail) (fun _ => tail)
  | succ d ih =>
    intro i x11 x14 z hi h14 hz h11
    obtain ⟨a, ha0⟩ : ∃ a, rd x7 ((2 * i : Nat) : Int) = a := ⟨_, rfl⟩
    obtain ⟨b, hb0⟩ : ∃ b, rd x7 ((2 * i + 1 : Nat) : Int) = b := ⟨_, rfl⟩
    have hv0 : -1 ≤ a := ha0 ▸ rd_ge x7 hv (2 * i) (by omega)
    have hv1 : -1 ≤ b := hb0 ▸ rd_ge x7 hv (2 * i + 1) (by omega)
    have ha := Aside0.mk ha0
    have hb2 := Aside0.mk hb0
    clear ha0 hb0
    obtain ⟨y, hy0⟩ : ∃ y, x11 ++ [(⟨x13, a, b⟩ : S148)] = y := ⟨_, rfl⟩
    have hlen : y.length = x11.length + 1 := by rw [← hy0]; simp
    have hxy : x11 <+: y := hy0 ▸ List.prefix_append _ _
    have hy := Aside0.mk hy0
    clear hy0
    have hw2 := Aside0.mk (show wrap64 (((2 * i : Nat) : Int) + 2) = ((2 * (i + 1) : Nat) : Int) from by rw [w64 (by omega) (by omega)]; omega)
    have hw3 := Aside0.mk (show wrap64 ((i : Int) + 1) = ((i + 1 : Nat) : Int) from by rw [w64 (by omega) (by omega)]; omega)
    by_cases hbye : a < 0 ∨ b < 0
    · obtain ⟨g, e1, e2, e3⟩ := ih (i + 1) y (x14 ++ [if b < 0 then a else if a < 0 then b else if (0 : Int) = 2 then a else b])
        (z.set i (mx (a) (b))) (by omega) (by simp; omega) (by simpa using hz) (by rw [hlen]; omega)
      rw [hlen] at e3
      refine ⟨g, code_step x1 x7 M hM hb x12 x13 i (by omega) a b ha hb2 x11 y hy (by omega) x14 _ ?_, hxy.trans e2, played_step x1 x7 M hM hb x12 x13 i (by omega) a b ha hb2 x11 y hy (by omega) z g _ _ _ (.inl ⟨rfl, e2⟩) ?_⟩
      · rw [decide_eq_true hbye]
        refine Ev.step (fun k => by rw [knockout_Play.j3]) ?_
        refine ite (fun _ => ?_) (fun h => absurd rfl h)
        refine bind_now (winner_f _ _ _ _) ?_
        refine ite (fun _ => ?_) (fun h => absurd (show x14.length < 17592186044416 by omega) h)
        rw [hw2.out]; exact e1
      · rw [bye_eq _ _ hv0 hv1, decide_eq_true hbye]
        refine Ev.step (fun k => by rw [gamehalllaw3_played.j5]) ?_
        refine ite (fun _ => ?_) (fun h => absurd rfl h)
        refine ite (fun _ => ?_) (fun h => absurd (show (0 : Int) ≤ (i : Int) by omega) h)
        refine ite (fun _ => ?_) (fun h => absurd (show (i : Int) < (z.length : Int) by omega) h)
        rw [hw3.out, Int.toNat_natCast]; exact e3
    · obtain ⟨g, e1, e2, e3⟩ := ih (i + 1) y x14 z (by omega) (by omega) hz (by rw [hlen]; omega)
      rw [hlen] at e3
      refine ⟨g, code_step x1 x7 M hM hb x12 x13 i (by omega) a b ha hb2 x11 y hy (by omega) x14 _ ?_, hxy.trans e2, played_step x1 x7 M hM hb x12 x13 i (by omega) a b ha hb2 x11 y hy (by omega) z g _ _ _ (.inl ⟨rfl, e2⟩) ?_⟩
      · rw [decide_eq_false hbye]
        refine Ev.step (fun k => by rw [knockout_Play.j3]) ?_
        refine ite (fun h => absurd h (by decide)) (fun _ => ?_)
        refine ite (fun h => absurd h (by omega)) (fun _ => ?_)
        rw [hw2.out]; exact e1
      · rw [bye_eq _ _ hv0 hv1, decide_eq_false hbye]
        refine Ev.step (fun k => by rw [gamehalllaw3_played.j5]) ?_
        refine ite (fun h => absurd h (by decide)) (fun _ => ?_)
        refine ite (fun _ => ?_) (fun h => absurd h12 h)
        rw [hw3.out]; exact e3
theorem set_mid (a z : List Int) (y v : Int) (i : Nat) (h : a.length = i) : (a ++ y :: z).set i v = (a ++ [v]) ++ z := by
  subst h
  rw [List.set_append_right _ _ (Nat.le_refl _)]
  simp
/-- a round, with results left -/
theorem round (x7 : List Int) (M : Nat) (hM : x7.length = 2 * M) (hb : M ≤ 16) (hl : x1.length ≤ 140737488351232) (x13 : Int) (hv : ∀ v ∈ x7, -1 ≤ v)
    (next : ∀ (x14 : List Int) (x11 : List S148) (x12 : Int), x14.length = M → (∀ v ∈ x14, -1 ≤ v) → x11.length + M ≤ 32 → 0 ≤ x12 → x12 ≤ (x1.length : Int) →
      ∃ g c e, Ev (fun k => knockout_Play.l1 k x1 x14 x11 x12 (wrap64 (x13 + 1))) (g, c, e) ∧ ((e = 0 ∧ x11 <+: g) ∨ (e = 2 ∧ g = [] ∧ c = 0)) ∧
        Ev (fun k => gamehalllaw3_played.l1 k x14 x1 g c e x12 (x11.length : Int) false (wrap64 (x13 + 1))) true) :
    ∀ (d i : Nat) (x11 : List S148) (x14 z : List Int) (x12 : Int), i + d = M → x14.length = i → z.length = d → (∀ v ∈ x14, -1 ≤ v) → x11.length + d + M ≤ 32 → 0 ≤ x12 → x12 ≤ (x1.length : Int) →
    ∃ g c e, Ev (fun k => knockout_Play.l2 k x1 x7 x11 x12 x13 x14 ((2 * i : Nat) : Int)) (g, c, e) ∧ ((e = 0 ∧ x11 <+: g) ∨ (e = 2 ∧ g = [] ∧ c = 0)) ∧
      Ev (fun k => gamehalllaw3_played.l2 k x7 x1 g c e x12 (x11.length : Int) false x13 (x14 ++ z) (M : Int) (i : Int)) true := by
  intro d
  induction d with
  | zero =>
    intro i x11 x14 z x12 hi h14 hz hv14 h11 h0 h1
    obtain rfl : z = [] := List.eq_nil_of_length_eq_zero hz
    obtain ⟨g, c, e, e1, e2, e3⟩ := next x14 x11 x12 (by omega) hv14 (by omega) h0 h1
    refine ⟨g, c, e, Ev.step (fun k => by rw [knockout_Play.l2]) ?_, e2, Ev.step (fun k => by rw [gamehalllaw3_played.l2]) ?_⟩
    · rw [w64 (n := ((2 * i : Nat) : Int) + 1) (by omega) (by omega), w64 (n := (x14.length : Int) * 2) (by omega) (by omega)]
      refine ite (fun h => absurd h (by omega)) (fun _ => ?_)
      exact ite (fun h => absurd h (by omega)) (fun _ => e1)
    · rw [List.append_nil]
      exact ite (fun h => absurd h (by omega)) (fun _ => e3)
  | succ d ih =>
    intro i x11 x14 z x12 hi h14 hz hv14 h11 h0 h1
    obtain ⟨u, z, rfl⟩ : ∃ u z', z = u :: z' := by cases z with | nil => simp at hz | cons u z => exact ⟨u, z, rfl⟩
    have hz : z.length = d := by simpa using hz
    obtain ⟨a, ha0⟩ : ∃ a, rd x7 ((2 * i : Nat) : Int) = a := ⟨_, rfl⟩
    obtain ⟨b, hb0⟩ : ∃ b, rd x7 ((2 * i + 1 : Nat) : Int) = b := ⟨_, rfl⟩
    have hv0 : -1 ≤ a := ha0 ▸ rd_ge x7 hv (2 * i) (by omega)
    have hv1 : -1 ≤ b := hb0 ▸ rd_ge x7 hv (2 * i + 1) (by omega)
    have ha := Aside0.mk ha0
    have hb2 := Aside0.mk hb0
    clear ha0 hb0
    obtain ⟨y, hy0⟩ : ∃ y, x11 ++ [(⟨x13, a, b⟩ : S148)] = y := ⟨_, rfl⟩
    have hlen : y.length = x11.length + 1 := by rw [← hy0]; simp
    have hxy : x11 <+: y := hy0 ▸ List.prefix_append _ _
    have hy := Aside0.mk hy0
    clear hy0
    have hw2 := Aside0.mk (show wrap64 (((2 * i : Nat) : Int) + 2) = ((2 * (i + 1) : Nat) : Int) from by rw [w64 (by omega) (by omega)]; omega)
    have hw3 := Aside0.mk (show wrap64 ((i : Int) + 1) = ((i + 1 : Nat) : Int) from by rw [w64 (by omega) (by omega)]; omega)
    obtain ⟨q, hq0⟩ : ∃ q, x14 ++ u :: z = q := ⟨_, rfl⟩
    have hzl : q.length = M := by rw [← hq0]; simp; omega
    have hset : ∀ v, q.set i v = (x14 ++ [v]) ++ z := fun v => by rw [← hq0]; exact set_mid x14 z u v i h14
    rw [hq0]
    clear hq0
    have pre : ∀ {g : List S148} {c e : Int}, ((e = 0 ∧ y <+: g) ∨ (e = 2 ∧ g = [] ∧ c = 0)) → ((e = 0 ∧ x11 <+: g) ∨ (e = 2 ∧ g = [] ∧ c = 0)) := by
      intro g c e h
      exact h.imp (fun h => ⟨h.1, hxy.trans h.2⟩) id
    have pre' : ∀ {g : List S148} {c e : Int}, ((e = 0 ∧ y <+: g) ∨ (e = 2 ∧ g = [] ∧ c = 0)) → ((e = 0 ∧ y <+: g) ∨ e ≠ 0) := by
      intro g c e h
      exact h.imp id (fun h => by omega)
    have more : ∀ w, -1 ≤ w → ∀ v ∈ x14 ++ [w], -1 ≤ v := by
      intro w hw v hm
      rcases List.mem_append.mp hm with h | h
      · exact hv14 v h
      · rw [List.mem_singleton.mp h]; exact hw
    by_cases hbye : a < 0 ∨ b < 0
    · have hwin : (if b < 0 then a else if a < 0 then b else if (0 : Int) = 2 then a else b) = mx (a) (b) := by
        unfold mx
        repeat' split
        all_goals omega
      obtain ⟨g, c, e, e1, e2, e3⟩ := ih (i + 1) y (x14 ++ [mx (a) (b)]) z x12
        (by omega) (by simp; omega) hz (more _ (by unfold mx; split <;> omega)) (by rw [hlen]; omega) h0 h1
      rw [hlen] at e3
      refine ⟨g, c, e, code_step x1 x7 M hM hb x12 x13 i (by omega) a b ha hb2 x11 y hy (by omega) x14 _ ?_, pre e2, played_step x1 x7 M hM hb x12 x13 i (by omega) a b ha hb2 x11 y hy (by omega) _ g _ _ _ (pre' e2) ?_⟩
      · rw [decide_eq_true hbye]
        refine Ev.step (fun k => by rw [knockout_Play.j3]) ?_
        refine ite (fun _ => ?_) (fun h => absurd rfl h)
        refine bind_now (winner_f _ _ _ _) ?_
        refine ite (fun _ => ?_) (fun h => absurd (show x14.length < 17592186044416 by omega) h)
        rw [hw2.out, hwin]; exact e1
      · rw [bye_eq _ _ hv0 hv1, decide_eq_true hbye]
        refine Ev.step (fun k => by rw [gamehalllaw3_played.j5]) ?_
        refine ite (fun _ => ?_) (fun h => absurd rfl h)
        refine ite (fun _ => ?_) (fun h => absurd (show (0 : Int) ≤ (i : Int) by omega) h)
        refine ite (fun _ => ?_) (fun h => absurd (show (i : Int) < (q.length : Int) by omega) h)
        rw [hw3.out, Int.toNat_natCast, hset]; exact e3
    · by_cases hx : x12 < (x1.length : Int)
      · have hw4 := Aside0.mk (show wrap64 (x12 + 1) = x12 + 1 from w64 (by omega) (by omega))
        have hwin : (if b < 0 then a else if a < 0 then b else if rd x1 x12 = 2 then a else b) = (if rd x1 x12 = 2 then a else b) := by
          rw [if_neg (by omega), if_neg (by omega)]
        obtain ⟨g, c, e, e1, e2, e3⟩ := ih (i + 1) y (x14 ++ [if rd x1 x12 = 2 then a else b]) z (x12 + 1)
          (by omega) (by simp; omega) hz (more _ (by split <;> omega)) (by rw [hlen]; omega) (by omega) (by omega)
        rw [hlen] at e3
        refine ⟨g, c, e, code_step x1 x7 M hM hb x12 x13 i (by omega) a b ha hb2 x11 y hy (by omega) x14 _ ?_, pre e2, played_step x1 x7 M hM hb x12 x13 i (by omega) a b ha hb2 x11 y hy (by omega) _ g _ _ _ (pre' e2) ?_⟩
        · rw [decide_eq_false hbye]
          refine Ev.step (fun k => by rw [knockout_Play.j3]) ?_
          refine ite (fun h => absurd h (by decide)) (fun _ => ?_)
          refine ite (fun _ => ?_) (fun h => absurd hx h)
          refine ite (fun _ => ?_) (fun h => absurd h0 h)
          refine bind_now (winner_f _ _ _ _) ?_
          refine ite (fun _ => ?_) (fun h => absurd (show x14.length < 17592186044416 by omega) h)
          rw [hw2.out, hwin, hw4.out]; exact e1
        · rw [bye_eq _ _ hv0 hv1, decide_eq_false hbye]
          refine Ev.step (fun k => by rw [gamehalllaw3_played.j5]) ?_
          refine ite (fun h => absurd h (by decide)) (fun _ => ?_)
          refine ite (fun h => absurd h (by omega)) (fun _ => ?_)
          refine ite (fun _ => ?_) (fun h => absurd (show (0 : Int) ≤ (i : Int) by omega) h)
          refine ite (fun _ => ?_) (fun h => absurd (show (i : Int) < (q.length : Int) by omega) h)
          refine bind_now rfl ?_
          refine ite (fun _ => ?_) (fun h => absurd h0 h)
          refine ite (fun _ => ?_) (fun h => absurd hx h)
          rw [hw3.out, hw4.out, Int.toNat_natCast, List.set_set, hset, hset]
          refine ite (fun h2 => ?_) (fun h2 => ?_)
          · rw [if_pos h2] at e3; exact e3
          · rw [if_neg h2] at e3; exact e3
      · obtain ⟨g, e1, e2, e3⟩ := short x1 x7 M hM hb x12 x13 (by omega) hv d (i + 1) y x14 q (by omega) (by omega) (by omega) (by rw [hlen]; omega)
        rw [hlen] at e3
        refine ⟨g, -1, 0, code_step x1 x7 M hM hb x12 x13 i (by omega) a b ha hb2 x11 y hy (by omega) x14 _ ?_, .inl ⟨rfl, hxy.trans e2⟩, played_step x1 x7 M hM hb x12 x13 i (by omega) a b ha hb2 x11 y hy (by omega) _ g _ _ _ (.inl ⟨rfl, e2⟩) ?_⟩
        · rw [decide_eq_false hbye]
          refine Ev.step (fun k => by rw [knockout_Play.j3]) ?_
          refine ite (fun h => absurd h (by decide)) (fun _ => ?_)
          refine ite (fun h => absurd h hx) (fun _ => ?_)
          rw [hw2.out]; exact e1
        · rw [bye_eq _ _ hv0 hv1, decide_eq_false hbye]
          refine Ev.step (fun k => by rw [gamehalllaw3_played.j5]) ?_
          refine ite (fun h => absurd h (by decide)) (fun _ => ?_)
          refine ite (fun _ => ?_) (fun h => absurd (show x12 = (x1.length : Int) by omega) h)
          rw [hw3.out]; exact e3
/-- all rounds -/
theorem play_sim (hl : x1.length ≤ 140737488351232) : ∀ (m : Nat) (x7 : List Int) (x11 : List S148) (x12 x13 : Int), x7.length = 2 ^ m → (∀ v ∈ x7, -1 ≤ v) → x11.length + x7.length ≤ 32 → 0 ≤ x12 → x12 ≤ (x1.length : Int) →
    ∃ g c e, Ev (fun k => knockout_Play.l1 k x1 x7 x11 x12 x13) (g, c, e) ∧ ((e = 0 ∧ x11 <+: g) ∨ (e = 2 ∧ g = [] ∧ c = 0)) ∧
        Ev (fun k => gamehalllaw3_played.l1 k x7 x1 g c e x12 (x11.length : Int) false x13) true := by
  intro m
  induction m with
  | zero =>
    intro x7 x11 x12 x13 h7 hv hn h0 h1
    have h7 : x7.length = 1 := h7
    by_cases hx : x12 < (x1.length : Int)
    · refine ⟨[], 0, 2, Ev.step (fun k => by rw [knockout_Play.l1]) ?_, .inr ⟨rfl, rfl, rfl⟩, Ev.step (fun k => by rw [gamehalllaw3_played.l1]) ?_⟩
      · refine ite (fun h => absurd h (by omega)) (fun _ => ?_)
        refine bind_now (late_f _ _) ?_
        rw [if_pos hx]
        exact ite (fun h => absurd h (by decide)) (fun _ => Ev.now _)
      · refine ite (fun h => absurd h (by omega)) (fun _ => ?_)
        refine Ev.step (fun k => by rw [gamehalllaw3_played.j2]) ?_
        refine ite (fun h => absurd h (by decide)) (fun _ => ?_)
        refine ite (fun _ => ?_) (fun h => absurd hx h)
        exact ite (fun _ => now (by simp [wrap64])) (fun h => absurd rfl h)
    · refine ⟨x11, rd x7 0, 0, Ev.step (fun k => by rw [knockout_Play.l1]) ?_, .inl ⟨rfl, List.prefix_rfl⟩, Ev.step (fun k => by rw [gamehalllaw3_played.l1]) ?_⟩
      · refine ite (fun h => absurd h (by omega)) (fun _ => ?_)
        refine bind_now (late_f _ _) ?_
        rw [if_neg hx]
        refine ite (fun _ => ?_) (fun h => absurd rfl h)
        exact ite (fun _ => Ev.now _) (fun h => absurd (show 0 < (x7.length : Int) by omega) h)
      · refine ite (fun h => absurd h (by omega)) (fun _ => ?_)
        refine Ev.step (fun k => by rw [gamehalllaw3_played.j2]) ?_
        refine ite (fun h => absurd h (by decide)) (fun _ => ?_)
        refine ite (fun h => absurd h hx) (fun _ => ?_)
        refine ite (fun h => absurd h (by decide)) (fun _ => ?_)
        refine ite (fun _ => ?_) (fun h => absurd rfl h)
        refine ite (fun _ => ?_) (fun h => absurd (show 0 < (x7.length : Int) by omega) h)
        refine ite (fun _ => ?_) (fun h => absurd rfl h)
        exact now (by simp)
  | succ m ih =>
    intro x7 x11 x12 x13 h7 hv hn h0 h1
    have hM : x7.length = 2 * 2 ^ m := by rw [h7]; omega
    have hM1 : 1 ≤ 2 ^ m := Nat.one_le_two_pow
    generalize 2 ^ m = M at hM hM1 ih
    obtain ⟨g, c, e, e1, e2, e3⟩ := round x1 x7 M hM (by omega) hl x13 hv (fun x14 x11 x12 a b c d e => ih x14 x11 x12 _ a b (by omega) d e) M 0 x11 [] (List.replicate M 0) x12 (by omega) rfl (by simp) (by simp) (by omega) h0 h1
    refine ⟨g, c, e, Ev.step (fun k => by rw [knockout_Play.l1]) ?_, e2, Ev.step (fun k => by rw [gamehalllaw3_played.l1]) ?_⟩
    · exact ite (fun _ => e1) (fun h => absurd (show (x7.length : Int) > 1 by omega) h)
    · refine ite (fun _ => ?_) (fun h => absurd (show (x7.length : Int) > 1 by omega) h)
      refine Ev.step (fun k => by rw [gamehalllaw3_played.j2]) ?_
      refine ite (fun _ => ?_) (fun h => absurd rfl h)
      have hwM := Aside0.mk (show wrap64 ((x7.length : Int) / 2) = (M : Int) from by rw [hM, show (((2 * M : Nat) : Int) / 2) = (M : Int) by omega, w64 (by omega) (by omega)])
      rw [hwM.out, Int.toNat_natCast]
      refine ite (fun _ => ?_) (fun h => absurd (show (0 : Int) ≤ (M : Int) by omega) h)
      refine ite (fun _ => ?_) (fun h => absurd (show M ≤ 35184372088832 by omega) h)
      refine bind_now rfl ?_
      rw [List.length_replicate]
      exact e3
/-- the results are read first -/
theorem results (x7 : List Int) (m : Nat) (h7 : x7.length = 2 ^ m) (hv : ∀ v ∈ x7, -1 ≤ v) (hn : x7.length ≤ 32) (hl : x1.length ≤ 140737488351232) : ∀ (d i : Nat), i + d = x1.length →
    ∃ g c e, Ev (fun k => knockout_Play.l0 k x1 x7 x1 (x1.length : Int) (i : Int)) (g, c, e) ∧ Ev (fun k => gamehalllaw3_played.l0 k x7 x1 g c e x1 (x1.length : Int) (i : Int)) true := by
  intro d
  induction d with
  | zero =>
    intro i hi
    obtain ⟨g, c, e, e1, e2, e3⟩ := play_sim x1 hl m x7 [] 0 0 h7 hv (by simpa using hn) (by omega) (by omega)
    refine ⟨g, c, e, Ev.step (fun k => by rw [knockout_Play.l0]) ?_, Ev.step (fun k => by rw [gamehalllaw3_played.l0]) ?_⟩
    · exact ite (fun h => absurd h (by omega)) (fun _ => e1)
    · exact ite (fun h => absurd h (by omega)) (fun _ => e3)
  | succ d ih =>
    intro i hi
    obtain ⟨g, c, e, e1, e3⟩ := ih (i + 1) (by omega)
    have hw := Aside0.mk (show ((i + 1 : Nat) : Int) = wrap64 ((i : Int) + 1) from by rw [w64s (by omega) (by omega)]; omega)
    rw [hw.out] at e1 e3
    by_cases hr : rd x1 (i : Int) = 0 ∨ rd x1 (i : Int) = 2
    · refine ⟨g, c, e, Ev.step (fun k => by rw [knockout_Play.l0]) ?_, Ev.step (fun k => by rw [gamehalllaw3_played.l0]) ?_⟩
      · refine ite (fun _ => ?_) (fun h => absurd (show (i : Int) < (x1.length : Int) by omega) h)
        refine ite (fun _ => ?_) (fun h => absurd (show (0 : Int) ≤ (i : Int) by omega) h)
        refine ite (fun _ => ?_) (fun h => absurd (show (i : Int) < (x1.length : Int) by omega) h)
        exact ite (fun _ => e1) (fun h0 => ite (fun _ => e1) (fun h2 => absurd hr (by omega)))
      · refine ite (fun _ => ?_) (fun h => absurd (show (i : Int) < (x1.length : Int) by omega) h)
        refine ite (fun _ => ?_) (fun h => absurd (show (0 : Int) ≤ (i : Int) by omega) h)
        refine ite (fun _ => ?_) (fun h => absurd (show (i : Int) < (x1.length : Int) by omega) h)
        exact ite (fun _ => e3) (fun h0 => ite (fun _ => e3) (fun h2 => absurd hr (by omega)))
    · refine ⟨[], 0, 4, Ev.step (fun k => by rw [knockout_Play.l0]) ?_, Ev.step (fun k => by rw [gamehalllaw3_played.l0]) ?_⟩
      · refine ite (fun _ => ?_) (fun h => absurd (show (i : Int) < (x1.length : Int) by omega) h)
        refine ite (fun _ => ?_) (fun h => absurd (show (0 : Int) ≤ (i : Int) by omega) h)
        refine ite (fun _ => ?_) (fun h => absurd (show (i : Int) < (x1.length : Int) by omega) h)
        exact ite (fun h0 => absurd h0 (by omega)) (fun h0 => ite (fun h2 => absurd h2 (by omega)) (fun h2 => Ev.now _))
      · refine ite (fun _ => ?_) (fun h => absurd (show (i : Int) < (x1.length : Int) by omega) h)
        refine ite (fun _ => ?_) (fun h => absurd (show (0 : Int) ≤ (i : Int) by omega) h)
        refine ite (fun _ => ?_) (fun h => absurd (show (i : Int) < (x1.length : Int) by omega) h)
        refine ite (fun h0 => absurd h0 (by omega)) (fun h0 => ite (fun h2 => absurd h2 (by omega)) (fun h2 => ?_))
        exact ite (fun _ => now (by simp [wrap64])) (fun h => absurd rfl h)
end

/-! the brackets: finite facts -/
def sd (n : Nat) : List Int := ((knockout_Seeds.f 300 (n : Int)).getD ([], 0)).1
def rn (n : Nat) : Nat := (((knockout_Rounds.f 300 (n : Int)).getD (0, 0)).1).toNat
def st (n i : Nat) : Int := (gamehallref3_Seat.f 20 (rn n : Int) (i : Int)).getD 0
def ln (n : Nat) : Nat := 2 ^ rn n
/-- the last place of a player -/
def pos (l : List Int) (a : Int) : Nat → Nat → Int → Int
  | 0, _, p => p
  | d + 1, i, p => pos l a d (i + 1) (if rd l (i : Int) = a then (i : Int) else p)
def okN (n : Nat) : Bool :=
  (knockout_Seeds.f 300 (n : Int) == some (sd n, 0)) && (knockout_Rounds.f 300 (n : Int) == some ((rn n : Int), 0)) && ((sd n).length == ln n) && decide (rn n ≤ 5) && decide (1 ≤ rn n)
    && decide (∀ v ∈ sd n, -1 ≤ v)
    && (List.range (rn n)).all (fun t => t == 0 || decide (shl .i64 1 (t : Int) < (n : Int))) && !decide (shl .i64 1 (rn n : Int) < (n : Int)) && decide (((ln n : Nat) : Int) = shl .i64 1 (rn n : Int))
    && (List.range (ln n)).all (fun i => gamehallref3_Seat.f 20 (rn n : Int) (i : Int) == some (st n i) && (if st n i ≥ (n : Int) then rd (sd n) (i : Int) == -1 else rd (sd n) (i : Int) == st n i))
    && (List.range n).all (fun a => pos (sd n) (a : Int) (ln n) 0 (-1) == pos (sd n) (a : Int) (ln n) 0 0 && decide (0 ≤ pos (sd n) (a : Int) (ln n) 0 0) && decide (pos (sd n) (a : Int) (ln n) 0 0 < 32))
theorem all_ok : (List.range 33).all (fun n => decide (n < 2) || okN n) = true := by decide +kernel
def meet (p q : Nat) : Int × Int := (knockout_Meet.l1 20 (p : Int) (q : Int) 0).getD (0, 0)
def okM (p q : Nat) : Bool :=
  (knockout_Meet.l1 20 (p : Int) (q : Int) 0 == some (((meet p q).1.toNat : Int), 0)) && decide ((meet p q).1.toNat ≤ 6)
    && (List.range (meet p q).1.toNat).all (fun t => !decide (shr .i64 (p : Int) ((t : Int) + 1) = shr .i64 (q : Int) ((t : Int) + 1)))
    && decide (shr .i64 (p : Int) (((meet p q).1.toNat : Int) + 1) = shr .i64 (q : Int) (((meet p q).1.toNat : Int) + 1))
theorem all_meet : (List.range 32).all (fun p => (List.range 32).all (fun q => okM p q)) = true := by decide +kernel
theorem facts (n : Nat) (h2 : 2 ≤ n) (h32 : n ≤ 32) : knockout_Seeds.f 300 (n : Int) = some (sd n, 0) ∧ knockout_Rounds.f 300 (n : Int) = some ((rn n : Int), 0) ∧ (sd n).length = ln n ∧ rn n ≤ 5 ∧ 1 ≤ rn n
    ∧ (∀ v ∈ sd n, -1 ≤ v) ∧ (∀ t, t < rn n → t = 0 ∨ shl .i64 1 (t : Int) < (n : Int)) ∧ ¬ shl .i64 1 (rn n : Int) < (n : Int) ∧ ((ln n : Nat) : Int) = shl .i64 1 (rn n : Int)
    ∧ (∀ i : Nat, i < ln n → gamehallref3_Seat.f 20 (rn n : Int) (i : Int) = some (st n i) ∧ (st n i ≥ (n : Int) → rd (sd n) (i : Int) = -1) ∧ (¬ st n i ≥ (n : Int) → rd (sd n) (i : Int) = st n i))
    ∧ (∀ a, a < n → pos (sd n) (a : Int) (ln n) 0 (-1) = pos (sd n) (a : Int) (ln n) 0 0 ∧ 0 ≤ pos (sd n) (a : Int) (ln n) 0 0 ∧ pos (sd n) (a : Int) (ln n) 0 0 < 32) := by
  have h := List.all_eq_true.mp all_ok n (List.mem_range.mpr (by omega))
  rw [decide_eq_false (by omega), Bool.false_or] at h
  unfold okN at h
  simp only [Bool.and_eq_true] at h
  obtain ⟨⟨⟨⟨⟨⟨⟨⟨⟨⟨a, b⟩, c⟩, d⟩, e⟩, f⟩, g⟩, i⟩, j⟩, l⟩, m⟩ := h
  refine ⟨eq_of_beq a, eq_of_beq b, eq_of_beq c, of_decide_eq_true d, of_decide_eq_true e, of_decide_eq_true f, ?_, ?_, of_decide_eq_true j, ?_, ?_⟩
  · intro t ht
    have := List.all_eq_true.mp g t (List.mem_range.mpr ht)
    rcases Bool.or_eq_true _ _ |>.mp this with h | h
    · exact .inl (eq_of_beq h)
    · exact .inr (of_decide_eq_true h)
  · exact of_decide_eq_false (by simpa using i)
  · intro t ht
    have := List.all_eq_true.mp l t (List.mem_range.mpr ht)
    rw [Bool.and_eq_true] at this
    refine ⟨eq_of_beq this.1, fun h => ?_, fun h => ?_⟩
    · have h1 := this.2; rw [if_pos h] at h1; exact eq_of_beq h1
    · have h1 := this.2; rw [if_neg h] at h1; exact eq_of_beq h1
  · intro t ht
    have := List.all_eq_true.mp m t (List.mem_range.mpr ht)
    simp only [Bool.and_eq_true] at this
    exact ⟨eq_of_beq this.1.1, of_decide_eq_true this.1.2, of_decide_eq_true this.2⟩
theorem meets (P Q : Nat) (hP : P < 32) (hQ : Q < 32) : ∃ m : Nat, knockout_Meet.l1 20 (P : Int) (Q : Int) 0 = some ((m : Int), 0) ∧ m ≤ 6 ∧ (∀ t, t < m → ¬ shr .i64 (P : Int) ((t : Int) + 1) = shr .i64 (Q : Int) ((t : Int) + 1))
    ∧ shr .i64 (P : Int) ((m : Int) + 1) = shr .i64 (Q : Int) ((m : Int) + 1) := by
  have h := List.all_eq_true.mp (List.all_eq_true.mp all_meet P (List.mem_range.mpr hP)) Q (List.mem_range.mpr hQ)
  unfold okM at h
  simp only [Bool.and_eq_true] at h
  obtain ⟨⟨⟨a, b⟩, c⟩, d⟩ := h
  refine ⟨(meet P Q).1.toNat, eq_of_beq a, of_decide_eq_true b, fun t ht => ?_, of_decide_eq_true d⟩
  have := List.all_eq_true.mp c t (List.mem_range.mpr ht)
  exact of_decide_eq_false (by simpa using this)
/-- the last place of a player, told by the seats -/
def posS (n : Nat) (a : Int) : Nat → Nat → Int → Int
  | 0, _, p => p
  | d + 1, i, p => posS n a d (i + 1) (if st n i = a then (i : Int) else p)
theorem posS_eq (n : Nat) (h2 : 2 ≤ n) (h32 : n ≤ 32) (a : Int) (h0 : 0 ≤ a) (h1 : a < (n : Int)) : ∀ d i p, i + d = ln n → posS n a d i p = pos (sd n) a d i p := by
  intro d
  induction d with
  | zero => intro i p _; rfl
  | succ d ih =>
    intro i p hi
    rw [posS, pos, ih _ _ (by omega)]
    obtain ⟨_, u, v⟩ := (facts n h2 h32).2.2.2.2.2.2.2.2.2.1 i (by omega)
    congr 1
    by_cases hs : st n i ≥ (n : Int)
    · rw [if_neg (by omega), if_neg (by rw [u hs]; omega)]
    · rw [v hs]
theorem loop (n : Nat) (h2 : 2 ≤ n) (h32 : n ≤ 32) (x1 : List Int) (x2 x3 : Int) (x13 : List S148) (x14 x15 x16 x17 : Int) : ∀ (d i : Nat) (p q : Int), i + d = ln n →
    Ev (fun k => if (mn x2 x3) < 0 then (gamehalllaw3_KnockoutPlays.j5 k x1 (sd n) x13 x14 x15 x16 x17 (posS n x2 d i p) (posS n x3 d i q) true) else (if (mx x2 x3) ≥ (n : Int) then (gamehalllaw3_KnockoutPlays.j5 k x1 (sd n) x13 x14 x15 x16 x17 (posS n x2 d i p) (posS n x3 d i q) true) else (gamehalllaw3_KnockoutPlays.j5 k x1 (sd n) x13 x14 x15 x16 x17 (posS n x2 d i p) (posS n x3 d i q) (x2 == x3)))) true →
    Ev (fun k => gamehalllaw3_KnockoutPlays.l1 k (n : Int) x1 x2 x3 (rn n : Int) (sd n) x13 x14 x15 x16 x17 p q ((sd n).length : Int) (i : Int)) true := by
  have F := facts n h2 h32
  have hlen := F.2.2.1
  have h5 := F.2.2.2.1
  have h32' : ln n ≤ 32 := Nat.le_trans (show 2 ^ rn n ≤ 2 ^ 5 from Nat.pow_le_pow_right (by decide) h5) (by decide)
  rw [hlen]
  intro d
  induction d with
  | zero =>
    intro i p q hi he
    refine Ev.step (fun k => by rw [gamehalllaw3_KnockoutPlays.l1]) ?_
    exact Aid.ite (fun h => absurd h (by omega)) (fun _ => he)
  | succ d ih =>
    intro i p q hi he
    have hw := Aside0.mk (show wrap64 ((i : Int) + 1) = ((i + 1 : Nat) : Int) from by rw [w64s (by omega) (by omega)]; omega)
    rw [posS, posS] at he
    have e := ih (i + 1) _ _ (by omega) he
    obtain ⟨s0, u, v⟩ := F.2.2.2.2.2.2.2.2.2.1 i (by omega)
    refine Ev.step (fun k => by rw [gamehalllaw3_KnockoutPlays.l1]) ?_
    refine Aid.ite (fun _ => ?_) (fun h => absurd (show (i : Int) < ((ln n : Nat) : Int) by omega) h)
    refine Aid.ite (fun _ => ?_) (fun h => absurd (show (0 : Int) ≤ (i : Int) by omega) h)
    refine Aid.ite (fun _ => ?_) (fun h => absurd (show (i : Int) < ((sd n).length : Int) by omega) h)
    refine Ev.bind (Ev.of (gamehallref3_Seat.mono _ _) s0) ?_
    have go : Ev (fun k => gamehalllaw3_KnockoutPlays.j4 k (n : Int) x1 x2 x3 (rn n : Int) (sd n) x13 x14 x15 x16 x17 p q (i : Int) (st n i) ((ln n : Nat) : Int) (i : Int) false) true := by
      refine Ev.step (fun k => by rw [gamehalllaw3_KnockoutPlays.j4]) ?_
      rw [hw.out]
      refine Aid.ite (fun h => absurd h (by decide)) (fun _ => ?_)
      refine Aid.ite (fun a => Aid.ite (fun b => ?_) (fun b => ?_)) (fun a => Aid.ite (fun b => ?_) (fun b => ?_))
      · rw [if_pos a, if_pos b] at e; exact e
      · rw [if_pos a, if_neg b] at e; exact e
      · rw [if_neg a, if_pos b] at e; exact e
      · rw [if_neg a, if_neg b] at e; exact e
    refine Aid.ite (fun hs => ?_) (fun hs => ?_)
    · refine Aid.ite (fun _ => ?_) (fun h => absurd (u hs) h)
      exact Aid.ite (fun h => absurd h (by omega)) (fun _ => go)
    · refine Aid.ite (fun _ => ?_) (fun h => absurd (show st n i < (n : Int) by omega) h)
      rw [v hs, show (st n i != st n i) = false by simp]
      exact go
theorem meet_l0 (l : List Int) (hl : l.length ≤ 32) (x1 x2 : Int) (r : Int × Int) : ∀ (d i : Nat) (p q : Int), i + d = l.length →
    Ev (fun k => knockout_Meet.l1 k (pos l x1 d i p) (pos l x2 d i q) 0) r → Ev (fun k => knockout_Meet.l0 k x1 x2 l p q (l.length : Int) (i : Int)) r := by
  intro d
  induction d with
  | zero =>
    intro i p q hi he
    refine Ev.step (fun k => by rw [knockout_Meet.l0]) ?_
    exact Aid.ite (fun h => absurd h (by omega)) (fun _ => he)
  | succ d ih =>
    intro i p q hi he
    have hw := Aside0.mk (show wrap64 ((i : Int) + 1) = ((i + 1 : Nat) : Int) from by rw [w64s (by omega) (by omega)]; omega)
    rw [pos, pos] at he
    have e := ih (i + 1) _ _ (by omega) he
    refine Ev.step (fun k => by rw [knockout_Meet.l0]) ?_
    rw [hw.out]
    refine Aid.ite (fun _ => ?_) (fun h => absurd (show (i : Int) < (l.length : Int) by omega) h)
    refine Aid.ite (fun _ => ?_) (fun h => absurd (show (0 : Int) ≤ (i : Int) by omega) h)
    refine Aid.ite (fun _ => ?_) (fun h => absurd (show (i : Int) < (l.length : Int) by omega) h)
    refine Aid.ite (fun a => Aid.ite (fun b => ?_) (fun b => ?_)) (fun a => Aid.ite (fun b => ?_) (fun b => ?_))
    · rw [if_pos a, if_pos b] at e; exact e
    · rw [if_pos a, if_neg b] at e; exact e
    · rw [if_neg a, if_pos b] at e; exact e
    · rw [if_neg a, if_neg b] at e; exact e
theorem l2_ev (x1 sdl : List Int) (g : List S148) (c e : Int) (P Q m : Nat) (hm : m ≤ 6) (hne : ∀ t, t < m → ¬ shr .i64 (P : Int) ((t : Int) + 1) = shr .i64 (Q : Int) ((t : Int) + 1)) (heq : shr .i64 (P : Int) ((m : Int) + 1) = shr .i64 (Q : Int) ((m : Int) + 1))
    (hp : Ev (fun k => gamehalllaw3_played.f k sdl x1 g c e) true) : ∀ (d t : Nat), t + d = m → Ev (fun k => gamehalllaw3_KnockoutPlays.l2 k x1 sdl g c e (m : Int) 0 (P : Int) (Q : Int) (t : Int)) true := by
  intro d
  induction d with
  | zero =>
    intro t ht
    obtain rfl : t = m := by omega
    have hw := Aside0.mk (show wrap64 ((t : Int) + 1) = (t : Int) + 1 from w64s (by omega) (by omega))
    refine Ev.step (fun k => by rw [gamehalllaw3_KnockoutPlays.l2]) ?_
    rw [hw.out]
    refine Aid.ite (fun _ => ?_) (fun h => absurd (show (0 : Int) ≤ (t : Int) + 1 by omega) h)
    refine Aid.ite (fun _ => ?_) (fun h => absurd heq h)
    refine Aid.ite (fun _ => ?_) (fun h => absurd rfl h)
    refine Aid.ite (fun _ => ?_) (fun h => absurd rfl h)
    exact Ev.bind hp (Ev.now _)
  | succ d ih =>
    intro t ht
    have hw := Aside0.mk (show wrap64 ((t : Int) + 1) = (t : Int) + 1 from w64s (by omega) (by omega))
    have e1 := ih (t + 1) (by omega)
    refine Ev.step (fun k => by rw [gamehalllaw3_KnockoutPlays.l2]) ?_
    rw [hw.out]
    refine Aid.ite (fun _ => ?_) (fun h => absurd (show (0 : Int) ≤ (t : Int) + 1 by omega) h)
    exact Aid.ite (fun h => absurd h (hne t (by omega))) (fun _ => e1)
theorem l0_ev (n : Nat) (h2 : 2 ≤ n) (h32 : n ≤ 32) (x1 : List Int) (x2 x3 : Int) (g : List S148) (c e x16 x17 : Int)
    (he : Ev (fun k => gamehalllaw3_KnockoutPlays.l1 k (n : Int) x1 x2 x3 (rn n : Int) (sd n) g c e x16 x17 (-1) (-1) ((sd n).length : Int) 0) true) : ∀ (d t : Nat), t + d = rn n → 1 ≤ t →
    Ev (fun k => gamehalllaw3_KnockoutPlays.l0 k (n : Int) x1 x2 x3 (rn n : Int) 0 (sd n) 0 g c e x16 x17 (t : Int)) true := by
  have F := facts n h2 h32
  have h5 := F.2.2.2.1
  intro d
  induction d with
  | zero =>
    intro t ht h1
    obtain rfl : t = rn n := by omega
    refine Ev.step (fun k => by rw [gamehalllaw3_KnockoutPlays.l0]) ?_
    refine Aid.ite (fun _ => ?_) (fun h => absurd (show (0 : Int) ≤ (rn n : Int) by omega) h)
    refine Aid.ite (fun h => absurd h F.2.2.2.2.2.2.2.1) (fun _ => ?_)
    refine Aid.ite (fun _ => ?_) (fun h => absurd rfl h)
    refine Aid.ite (fun _ => ?_) (fun h => absurd rfl h)
    refine Aid.ite (fun _ => ?_) (fun h => absurd rfl h)
    refine Aid.ite (fun _ => ?_) (fun h => absurd (show (0 : Int) ≤ (rn n : Int) by omega) h)
    rw [show (((sd n).length : Int) != shl .i64 1 (rn n : Int)) = false by rw [F.2.2.1, F.2.2.2.2.2.2.2.2.1]; simp]
    refine Ev.step (fun k => by rw [gamehalllaw3_KnockoutPlays.j2]) ?_
    exact Aid.ite (fun h => absurd h (by decide)) (fun _ => he)
  | succ d ih =>
    intro t ht h1
    have hw := Aside0.mk (show wrap64 ((t : Int) + 1) = ((t + 1 : Nat) : Int) from by rw [w64s (by omega) (by omega)]; omega)
    have e1 := ih (t + 1) (by omega) (by omega)
    refine Ev.step (fun k => by rw [gamehalllaw3_KnockoutPlays.l0]) ?_
    rw [hw.out]
    refine Aid.ite (fun _ => ?_) (fun h => absurd (show (0 : Int) ≤ (t : Int) by omega) h)
    refine Aid.ite (fun _ => e1) (fun h => absurd ((F.2.2.2.2.2.2.1 t (by omega)).resolve_left (by omega)) h)
end Kp
open Kp Aid

theorem KnockoutPlays : gamehalllaw3_KnockoutPlays.Pure := by
  intro a0 l1 a2 a3 hw0 hl _ _
  have hl := hl.1
  refine Ev.rounds (g := fun k => gamehalllaw3_KnockoutPlays.f k a0 l1 a2 a3) ?_
  unfold gamehalllaw3_KnockoutPlays.f
  have e0 : Ev (fun k => gamehalllaw3_brackets.f k) true := Ev.of (gamehalllaw3_brackets.mono) (k := 30) (by decide +kernel)
  refine Ev.bind e0 ?_
  refine Aid.ite (fun _ => ?_) (fun h => absurd rfl h)
  have hm : 0 ≤ mn (l1.length : Int) 40 ∧ mn (l1.length : Int) 40 ≤ (l1.length : Int) := by unfold mn; split <;> omega
  refine Aid.ite (fun _ => ?_) (fun h => absurd hm.1 h)
  refine Aid.ite (fun _ => ?_) (fun h => absurd hm.2 h)
  have hxl : (l1.take (mn (l1.length : Int) 40).toNat).length ≤ 140737488351232 := by rw [List.length_take]; omega
  generalize l1.take (mn (l1.length : Int) 40).toNat = x1 at hxl
  clear hm hl e0
  by_cases hn : 2 ≤ a0 ∧ a0 ≤ 32
  · obtain ⟨n, rfl⟩ : ∃ n : Nat, a0 = (n : Int) := ⟨a0.toNat, by omega⟩
    have h2 : 2 ≤ n := by omega
    have h32 : n ≤ 32 := by omega
    have F := facts n h2 h32
    have eS : Ev (fun k => knockout_Seeds.f k (n : Int)) (sd n, 0) := Ev.of (knockout_Seeds.mono _) F.1
    have eR : Ev (fun k => knockout_Rounds.f k (n : Int)) ((rn n : Int), 0) := Ev.of (knockout_Rounds.mono _) F.2.1
    have hlen := F.2.2.1
    have h5 := F.2.2.2.1
    have h32' : ln n ≤ 32 := Nat.le_trans (show 2 ^ rn n ≤ 2 ^ 5 from Nat.pow_le_pow_right (by decide) h5) (by decide)
    obtain ⟨g, c, e, p1, p2⟩ := Kp.results x1 (sd n) (rn n) hlen F.2.2.2.2.2.1 (by omega) hxl x1.length 0 (by omega)
    have eP : Ev (fun k => knockout_Play.f k (n : Int) x1) (g, c, e) := by
      unfold knockout_Play.f
      refine Ev.bind eS ?_
      exact Aid.ite (fun _ => p1) (fun h => absurd rfl h)
    have eD : Ev (fun k => gamehalllaw3_played.f k (sd n) x1 g c e) true := by
      unfold gamehalllaw3_played.f
      exact p2
    refine Ev.bind eR ?_
    refine Ev.bind eS ?_
    refine Ev.bind eP ?_
    have main : ∀ x16 x17 : Int, Ev (fun k => knockout_Meet.f k (n : Int) a2 a3) (x16, x17) → Ev (fun k => gamehalllaw3_KnockoutPlays.l1 k (n : Int) x1 a2 a3 (rn n : Int) (sd n) g c e x16 x17 (-1) (-1) ((sd n).length : Int) 0) true →
        Ev (fun k => (knockout_Meet.f k (n : Int) a2 a3).bind fun bt183 => (if (n : Int) < 2 then (gamehalllaw3_KnockoutPlays.j0 k (n : Int) x1 a2 a3 (rn n : Int) 0 (sd n) 0 g c e bt183.1 bt183.2 true) else (gamehalllaw3_KnockoutPlays.j0 k (n : Int) x1 a2 a3 (rn n : Int) 0 (sd n) 0 g c e bt183.1 bt183.2 (decide ((n : Int) > 32))))) true := by
      intro x16 x17 eM e1
      refine Ev.bind eM ?_
      refine Aid.ite (fun h => absurd h (by omega)) (fun _ => ?_)
      rw [decide_eq_false (show ¬ (n : Int) > 32 by omega)]
      refine Ev.step (fun k => by rw [gamehalllaw3_KnockoutPlays.j0]) ?_
      refine Aid.ite (fun h => absurd h (by decide)) (fun _ => ?_)
      exact l0_ev n h2 h32 x1 a2 a3 g c e x16 x17 e1 (rn n - 1) 1 (by have := F.2.2.2.2.1; omega) (by omega)
    by_cases hv : (0 ≤ a2 ∧ a2 < (n : Int)) ∧ (0 ≤ a3 ∧ a3 < (n : Int)) ∧ a2 ≠ a3
    · obtain ⟨a, rfl⟩ : ∃ a : Nat, a2 = (a : Int) := ⟨a2.toNat, by omega⟩
      obtain ⟨b, rfl⟩ : ∃ b : Nat, a3 = (b : Int) := ⟨a3.toNat, by omega⟩
      obtain ⟨q1, q2, q3⟩ := F.2.2.2.2.2.2.2.2.2.2 a (by omega)
      obtain ⟨r1, r2, r3⟩ := F.2.2.2.2.2.2.2.2.2.2 b (by omega)
      obtain ⟨P, hP⟩ : ∃ P : Nat, pos (sd n) (a : Int) (ln n) 0 0 = (P : Int) := ⟨_, (Int.toNat_of_nonneg q2).symm⟩
      obtain ⟨Q, hQ⟩ : ∃ Q : Nat, pos (sd n) (b : Int) (ln n) 0 0 = (Q : Int) := ⟨_, (Int.toNat_of_nonneg r2).symm⟩
      obtain ⟨m, m1, m2, m3, m4⟩ := meets P Q (by omega) (by omega)
      have hmn : ¬ mn (a : Int) (b : Int) < 0 := by unfold mn; split <;> omega
      have hmx : ¬ mx (a : Int) (b : Int) ≥ (n : Int) := by unfold mx; split <;> omega
      refine main (m : Int) 0 ?_ ?_
      · unfold knockout_Meet.f
        refine Ev.bind eS ?_
        refine Aid.ite (fun _ => ?_) (fun h => absurd rfl h)
        refine Aid.ite (fun h => absurd h hmn) (fun _ => ?_)
        refine Aid.ite (fun h => absurd h hmx) (fun _ => ?_)
        rw [show ((a : Int) == (b : Int)) = false from beq_eq_false_iff_ne.mpr hv.2.2]
        refine Ev.step (fun k => by rw [knockout_Meet.j0]) ?_
        refine Aid.ite (fun h => absurd h (by decide)) (fun _ => ?_)
        refine meet_l0 (sd n) (by omega) (a : Int) (b : Int) _ (ln n) 0 0 0 (by omega) ?_
        rw [hP, hQ]
        refine Ev.of (k := 20) (fun k => ?_) m1
        exact (knockout_Meet.mono_l k).2.2 _ _ _
      · refine loop n h2 h32 x1 (a : Int) (b : Int) g c e (m : Int) 0 (ln n) 0 (-1) (-1) (by omega) ?_
        rw [posS_eq n h2 h32 (a : Int) (by omega) (by omega) _ _ _ (by omega), posS_eq n h2 h32 (b : Int) (by omega) (by omega) _ _ _ (by omega), q1, r1, hP, hQ]
        refine Aid.ite (fun h => absurd h hmn) (fun _ => ?_)
        refine Aid.ite (fun h => absurd h hmx) (fun _ => ?_)
        rw [show ((a : Int) == (b : Int)) = false from beq_eq_false_iff_ne.mpr hv.2.2]
        refine Ev.step (fun k => by rw [gamehalllaw3_KnockoutPlays.j5]) ?_
        refine Aid.ite (fun h => absurd h (by decide)) (fun _ => ?_)
        exact l2_ev x1 (sd n) g c e P Q m m2 m3 m4 eD m 0 (by omega)
    · have jt : Ev (fun k => knockout_Meet.j0 k a2 a3 (sd n) true) (0, 1) := Ev.step (fun k => by rw [knockout_Meet.j0]) (Aid.ite (fun _ => Ev.now _) (fun h => absurd rfl h))
      have hbad : ¬ mn a2 a3 < 0 → ¬ mx a2 a3 ≥ (n : Int) → (a2 == a3) = true := by
        unfold mn mx
        intro h1 h2
        rw [beq_iff_eq]
        split at h1 <;> split at h2 <;> omega
      refine main 0 1 ?_ ?_
      · unfold knockout_Meet.f
        refine Ev.bind eS ?_
        refine Aid.ite (fun _ => ?_) (fun h => absurd rfl h)
        refine Aid.ite (fun h => jt) (fun h1 => ?_)
        refine Aid.ite (fun h => jt) (fun h2 => ?_)
        rw [hbad h1 h2]
        exact jt
      · refine loop n h2 h32 x1 a2 a3 g c e 0 1 (ln n) 0 (-1) (-1) (by omega) ?_
        have j5t : ∀ p q : Int, Ev (fun k => gamehalllaw3_KnockoutPlays.j5 k x1 (sd n) g c e 0 1 p q true) true := by
          intro p q
          refine Ev.step (fun k => by rw [gamehalllaw3_KnockoutPlays.j5]) ?_
          refine Aid.ite (fun _ => ?_) (fun h => absurd rfl h)
          refine Aid.ite (fun _ => ?_) (fun h => absurd rfl h)
          refine Aid.ite (fun _ => ?_) (fun h => absurd rfl h)
          exact Ev.bind eD (Ev.now _)
        refine Aid.ite (fun h => j5t _ _) (fun h1 => ?_)
        refine Aid.ite (fun h => j5t _ _) (fun h2 => ?_)
        rw [hbad h1 h2]
        exact j5t _ _
  · have hC : knockout_Check.f a0 = some 4 := by
      unfold knockout_Check.f
      by_cases h : a0 < 2
      · rw [if_pos h]
      · rw [if_neg h, if_pos (by omega)]
    have eR : Ev (fun k => knockout_Rounds.f k a0) (0, 4) := by
      unfold knockout_Rounds.f
      refine bind_now hC ?_
      exact Aid.ite (fun h => absurd h (by decide)) (fun _ => Ev.now _)
    have eS : Ev (fun k => knockout_Seeds.f k a0) ([], 4) := by
      unfold knockout_Seeds.f
      refine Ev.bind eR ?_
      exact Aid.ite (fun h => absurd h (by decide)) (fun _ => Ev.now _)
    have eP : Ev (fun k => knockout_Play.f k a0 x1) ([], 0, 4) := by
      unfold knockout_Play.f
      refine Ev.bind eS ?_
      exact Aid.ite (fun h => absurd h (by decide)) (fun _ => Ev.now _)
    have eM : Ev (fun k => knockout_Meet.f k a0 a2 a3) (0, 4) := by
      unfold knockout_Meet.f
      refine Ev.bind eS ?_
      exact Aid.ite (fun h => absurd h (by decide)) (fun _ => Ev.now _)
    have jt : Ev (fun k => gamehalllaw3_KnockoutPlays.j0 k a0 x1 a2 a3 0 4 [] 4 [] 0 4 0 4 true) true := by
      refine Ev.step (fun k => by rw [gamehalllaw3_KnockoutPlays.j0]) ?_
      refine Aid.ite (fun _ => ?_) (fun h => absurd rfl h)
      refine Aid.ite (fun _ => ?_) (fun h => absurd rfl h)
      refine Aid.ite (fun _ => ?_) (fun h => absurd rfl h)
      refine Aid.ite (fun _ => ?_) (fun h => absurd rfl h)
      refine Aid.ite (fun _ => ?_) (fun h => absurd rfl h)
      exact now (by simp [wrap64])
    refine Ev.bind eR ?_
    refine Ev.bind eS ?_
    refine Ev.bind eP ?_
    refine Ev.bind eM ?_
    refine Aid.ite (fun _ => jt) (fun h => ?_)
    rw [decide_eq_true (show a0 > 32 by omega)]
    exact jt

end Go.Proofs.Yteooljkamebenaa.Pure
