/- ends.Result and the reference's Result answer the same at valid positions. -/
import Derived.Test.YtloadbbndnmdlaaCorePlace
namespace Go.Proofs.Ytloadbbndnmdlaa.Pure
open Go.RowKit Go.Proofs.Ytloadbbndnmdlaa.PEndsOf Go.Proofs.YtloadbbndnmdlaaW.PrintWords Go.Proofs.YtloadbbndnmdlaaW.PrintLast
set_option linter.unusedSimpArgs false
set_option linter.unusedVariables false
namespace Co
open Aid
/-! rows -/
def good (r : S26) (p : S29) (pl dx dy x y : Int) (i : Nat) : Prop := onB r (x + i * dx) (y + i * dy) ∧ own (rd p.f0 (sq r (x + i * dx) (y + i * dy))) = pl
def run (r : S26) (p : S29) (pl dx dy : Int) : Nat → Int → Int → Bool
  | 0, _, _ => true
  | n + 1, x, y => if onB r x y ∧ own (rd p.f0 (sq r x y)) = pl then run r p pl dx dy n (x + dx) (y + dy) else false
theorem run_iff (r : S26) (p : S29) (pl dx dy : Int) : ∀ n x y, run r p pl dx dy n x y = true ↔ ∀ i, i < n → good r p pl dx dy x y i := by
  intro n
  induction n with
  | zero => intro x y; simp [run]
  | succ n ih =>
    intro x y
    have e : ∀ i : Nat, good r p pl dx dy (x + dx) (y + dy) i ↔ good r p pl dx dy x y (i + 1) := by
      intro i
      have ex : x + dx + i * dx = x + ((i + 1 : Nat) : Int) * dx := by rw [Int.natCast_add, Int.add_mul]; simp; omega
      have ey : y + dy + i * dy = y + ((i + 1 : Nat) : Int) * dy := by rw [Int.natCast_add, Int.add_mul]; simp; omega
      unfold good; rw [ex, ey]
    have e0 : good r p pl dx dy x y 0 ↔ (onB r x y ∧ own (rd p.f0 (sq r x y)) = pl) := by unfold good; simp
    rw [run]
    by_cases h : onB r x y ∧ own (rd p.f0 (sq r x y)) = pl
    · rw [if_pos h, ih]
      constructor
      · intro hh i hi
        rcases i with _ | i
        · exact e0.2 h
        · exact (e i).1 (hh i (by omega))
      · intro hh i hi; exact (e i).2 (hh (i + 1) (by omega))
    · rw [if_neg h]
      constructor
      · intro hh; cases hh
      · intro hh; exact absurd (e0.1 (hh 0 (by omega))) h
def DX (i : Nat) : Int := rd ([1, 0, 1, 1] : List Int) (i : Int)
def DY (i : Nat) : Int := rd ([0, 1, 1, -1] : List Int) (i : Int)
def EX (i : Nat) : Int := rd ([-1, 0, -1, 1] : List Int) (i : Int)
def EY (i : Nat) : Int := rd ([0, -1, -1, -1] : List Int) (i : Int)
def rowB (r : S26) (p : S29) (pl c : Int) : Bool := (List.range' 0 p.f0.length).any fun s => (List.range' 0 4).any fun i => run r p pl (DX i) (DY i) c.toNat ((s : Int) % r.f1) ((s : Int) / r.f1)
theorem row_l2 (r : S26) (p : S29) (hr : VR r) (hp : VP r p) (pl c s m u v dx dy : Int) (c1 : 1 ≤ c) (c2 : c ≤ 64) (hdx : -1 ≤ dx ∧ dx ≤ 1) (hdy : -1 ≤ dy ∧ dy ≤ 1) (res : Bool) (e : Ev (fun k => ends_row.l1 k pl c s m u (wrap64 (v + 1)) 1 0 0 1 1 1 1 (-1) r.f0 r.f1 r.f2 r.f3 r.f4 r.f5 r.f6 r.f7 r.f8 r.f9 r.f10 p.f0 p.f1.f0 p.f1.f1 p.f2 p.f3) res) :
    ∀ (d : Nat) (n x y : Int), 0 ≤ n → n + d = c → -100 + n ≤ x → x ≤ 100 + n → -100 + n ≤ y → y ≤ 100 + n → Ev (fun k => ends_row.l2 k pl c s x y n m u v 1 0 0 1 1 1 1 (-1) r.f0 r.f1 r.f2 r.f3 r.f4 r.f5 r.f6 r.f7 r.f8 r.f9 r.f10 p.f0 p.f1.f0 p.f1.f1 p.f2 p.f3 dx dy) (if run r p pl dx dy d x y = true then true else res) := by
  obtain ⟨w0, w1⟩ := hr.w
  obtain ⟨v0, v1⟩ := hr.h
  have ex : ∀ n : Int, ∀ b : Bool, (n = c → b = true) → (n ≠ c → b = res) → Ev (fun k => if n = c then some true else ends_row.l1 k pl c s m u (wrap64 (v + 1)) 1 0 0 1 1 1 1 (-1) r.f0 r.f1 r.f2 r.f3 r.f4 r.f5 r.f6 r.f7 r.f8 r.f9 r.f10 p.f0 p.f1.f0 p.f1.f1 p.f2 p.f3) b := by
    intro n b h1 h2
    exact ite (fun h => now (h1 h).symm) (fun h => ev_eq e (h2 h).symm)
  intro d
  induction d with
  | zero =>
    intro n x y n0 hn x0 x1 y0 y1
    have hnc : n = c := by omega
    refine Ev.step (fun k => by rw [ends_row.l2]) ?_
    rw [run, if_pos rfl]
    have f := ex n true (fun _ => rfl) (fun h => absurd hnc h)
    exact ite (fun _ => ite (fun _ => ite (fun _ => ite (fun _ => ite (fun h => absurd h (by omega)) (fun _ => f)) (fun _ => f)) (fun _ => f)) (fun _ => f)) (fun _ => f)
  | succ d ih =>
    intro n x y n0 hn x0 x1 y0 y1
    refine Ev.step (fun k => by rw [ends_row.l2]) ?_
    rw [run]
    have hnc : n ≠ c := by omega
    have off : ¬ onB r x y → Ev (fun k => if n = c then some true else ends_row.l1 k pl c s m u (wrap64 (v + 1)) 1 0 0 1 1 1 1 (-1) r.f0 r.f1 r.f2 r.f3 r.f4 r.f5 r.f6 r.f7 r.f8 r.f9 r.f10 p.f0 p.f1.f0 p.f1.f1 p.f2 p.f3) (if (if onB r x y ∧ own (rd p.f0 (sq r x y)) = pl then run r p pl dx dy d (x + dx) (y + dy) else false) = true then true else res) := by
      intro h
      refine ex n _ (fun hh => absurd hh hnc) (fun _ => ?_)
      rw [if_neg (c := onB r x y ∧ own (rd p.f0 (sq r x y)) = pl) (fun hh => h hh.1)]; rfl
    refine ite (fun h1 => ?_) (fun h => off (fun hb => by obtain ⟨a, _⟩ := hb; omega))
    refine ite (fun h2 => ?_) (fun h => off (fun hb => by obtain ⟨_, a, _⟩ := hb; omega))
    refine ite (fun h3 => ?_) (fun h => off (fun hb => by obtain ⟨_, _, a, _⟩ := hb; omega))
    refine ite (fun h4 => ?_) (fun h => off (fun hb => by obtain ⟨_, _, _, a⟩ := hb; omega))
    have hb : onB r x y := ⟨h1, h2, h3, h4⟩
    obtain ⟨s0, s1, s2, s3⟩ := sq_in hr hb
    have ha := area hr
    have hl := hp.n
    refine ite (fun _ => ?_) (fun h => absurd (by omega) h)
    have ei : wrap64 (wrap64 (y * r.f1) + x) = sq r x y := by
      rw [w64 (n := y * r.f1) (by omega) (by omega), w64 (by omega) (by omega)]; rfl
    rw [ei]
    refine ite (fun _ => ?_) (fun h => absurd s2 h)
    refine ite (fun _ => ?_) (fun h => absurd (by omega) h)
    have hc := hp.cell hr _ s2 (by omega)
    refine bind_now (owner_f _ ⟨hc.1, hc.2.1⟩) ?_
    refine ite (fun ho => ?_) (fun ho => ?_)
    · rw [if_pos (c := onB r x y ∧ own (rd p.f0 (sq r x y)) = pl) ⟨hb, ho⟩, w64 (n := x + dx) (by omega) (by omega), w64 (n := y + dy) (by omega) (by omega), w64 (n := n + 1) (by omega) (by omega)]
      exact ih (n + 1) (x + dx) (y + dy) (by omega) (by omega) (by omega) (by omega) (by omega) (by omega)
    · refine ex n _ (fun hh => absurd hh hnc) (fun _ => ?_)
      rw [if_neg (c := onB r x y ∧ own (rd p.f0 (sq r x y)) = pl) (fun hh => ho hh.2)]; rfl
theorem DX_in (i : Nat) (h : i < 4) : (-1 ≤ DX i ∧ DX i ≤ 1) ∧ (-1 ≤ DY i ∧ DY i ≤ 1) := by
  have : i = 0 ∨ i = 1 ∨ i = 2 ∨ i = 3 := by omega
  rcases this with h | h | h | h <;> subst h <;> decide
theorem row_l1 (r : S26) (p : S29) (hr : VR r) (hp : VP r p) (pl c m : Int) (u : Nat) (hu : (u : Int) < (p.f0.length : Int)) (c1 : 1 ≤ c) (c2 : c ≤ 64) (res : Bool) (e : Ev (fun k => ends_row.l0 k pl c m (wrap64 ((u : Int) + 1)) r.f0 r.f1 r.f2 r.f3 r.f4 r.f5 r.f6 r.f7 r.f8 r.f9 r.f10 p.f0 p.f1.f0 p.f1.f1 p.f2 p.f3) res) :
    ∀ (d i : Nat), i + d = 4 → Ev (fun k => ends_row.l1 k pl c (u : Int) m (u : Int) (i : Int) 1 0 0 1 1 1 1 (-1) r.f0 r.f1 r.f2 r.f3 r.f4 r.f5 r.f6 r.f7 r.f8 r.f9 r.f10 p.f0 p.f1.f0 p.f1.f1 p.f2 p.f3) (if ((List.range' i d).any fun i => run r p pl (DX i) (DY i) c.toNat ((u : Int) % r.f1) ((u : Int) / r.f1)) = true then true else res) := by
  obtain ⟨w0, w1⟩ := hr.w
  have hl := hp.len hr
  have hn := hp.n
  have hon := (onB_of r hr (u : Int) (by omega) (by omega)).1
  obtain ⟨o0, o1, o2, o3⟩ := hon
  obtain ⟨v0, v1⟩ := hr.h
  intro d
  induction d with
  | zero =>
    intro i hi
    refine Ev.step (fun k => by rw [ends_row.l1]) ?_
    exact ite (fun h => absurd h (by omega)) (fun _ => by simpa using e)
  | succ d ih =>
    intro i hi
    have hi4 : (i : Int) < 4 := by omega
    have hi5 : i < 4 := by omega
    have hi0 : (0 : Int) ≤ (i : Int) := by omega
    have hid : i + 1 + d = 4 := by omega
    have hd : 0 ≤ (u : Int) / r.f1 ∧ (u : Int) / r.f1 ≤ (u : Int) := ⟨Int.ediv_nonneg (by omega) (by omega), Int.ediv_le_self _ (by omega)⟩
    have hw1 : r.f1 ≠ 0 := by omega
    have e2 := ih (i + 1) hid
    rw [show ((i + 1 : Nat) : Int) = wrap64 ((i : Int) + 1) by rw [w64s (by omega) (by omega)]; omega] at e2
    refine Ev.step (fun k => by rw [ends_row.l1]) ?_
    refine ite (fun _ => ?_) (fun h => absurd (by first | exact hi4 | exact ⟨hi0, hi4⟩ | exact ⟨hi4, hi0⟩ | exact hi0 | exact hw1) h)
    refine ite (fun _ => ?_) (fun h => absurd (by first | exact hi4 | exact ⟨hi0, hi4⟩ | exact ⟨hi4, hi0⟩ | exact hi0 | exact hw1) h)
    refine ite (fun h => absurd h (by first | exact hw1 | omega)) (fun _ => ?_)
    rw [Int.tmod_eq_emod_of_nonneg (a := (u : Int)) (by omega), Int.tdiv_eq_ediv_of_nonneg (a := (u : Int)) (by omega), w64 (n := (u : Int) / r.f1) (by omega) (by omega)]
    have hD := DX_in i hi5
    have h := row_l2 r p hr hp pl c (u : Int) m (u : Int) (i : Int) (DX i) (DY i) c1 c2 hD.1 hD.2 _ e2 c.toNat 0 ((u : Int) % r.f1) ((u : Int) / r.f1) (by omega) (by omega) (by omega) (by omega) (by omega) (by omega)
    refine ev_eq h ?_
    rw [List.range'_succ, List.any_cons]
    cases run r p pl (DX i) (DY i) c.toNat ((u : Int) % r.f1) ((u : Int) / r.f1) <;> simp
theorem row_l0 (r : S26) (p : S29) (hr : VR r) (hp : VP r p) (pl c : Int) (c1 : 1 ≤ c) (c2 : c ≤ 64) :
    ∀ (d s : Nat), s + d = p.f0.length → Ev (fun k => ends_row.l0 k pl c (p.f0.length : Int) (s : Int) r.f0 r.f1 r.f2 r.f3 r.f4 r.f5 r.f6 r.f7 r.f8 r.f9 r.f10 p.f0 p.f1.f0 p.f1.f1 p.f2 p.f3) ((List.range' s d).any fun s => (List.range' 0 4).any fun i => run r p pl (DX i) (DY i) c.toNat ((s : Int) % r.f1) ((s : Int) / r.f1)) := by
  have hl := hp.len hr
  intro d
  induction d with
  | zero =>
    intro s hs
    refine Ev.step (fun k => by rw [ends_row.l0]) ?_
    exact ite (fun h => absurd h (by omega)) (fun _ => now (by simp))
  | succ d ih =>
    intro s hs
    have hwr : ((s + 1 : Nat) : Int) = wrap64 ((s : Int) + 1) := by rw [w64s (by omega) (by omega)]; omega
    refine Ev.step (fun k => by rw [ends_row.l0]) ?_
    refine ite (fun _ => ?_) (fun h => absurd (by omega) h)
    have e := ih (s + 1) (by omega)
    rw [hwr] at e
    have h := row_l1 r p hr hp pl c (p.f0.length : Int) s (by omega) c1 c2 _ e 4 0 (by omega)
    refine ev_eq h ?_
    rw [List.range'_succ (s := s), List.any_cons]
    cases (List.range' 0 4).any fun i => run r p pl (DX i) (DY i) c.toNat ((s : Int) % r.f1) ((s : Int) / r.f1) <;> simp
theorem row_f (r : S26) (p : S29) (hr : VR r) (hp : VP r p) (pl c : Int) (c1 : 1 ≤ c) (c2 : c ≤ 64) : Ev (fun k => ends_row.f k r.f0 r.f1 r.f2 r.f3 r.f4 r.f5 r.f6 r.f7 r.f8 r.f9 r.f10 p.f0 p.f1.f0 p.f1.f1 p.f2 p.f3 pl c) (rowB r p pl c) := by
  unfold ends_row.f rowB
  exact row_l0 r p hr hp pl c c1 c2 p.f0.length 0 (by omega)
/-! the reference's rows -/
def linB (r : S26) (p : S29) (pl c : Int) : Bool := (List.range' 0 r.f2.toNat).any fun y => (List.range' 0 r.f1.toNat).any fun x => (List.range' 0 4).any fun i => run r p pl (EX i) (EY i) c.toNat (x : Int) (y : Int)
theorem EX_in (i : Nat) (h : i < 4) : (-1 ≤ EX i ∧ EX i ≤ 1) ∧ (-1 ≤ EY i ∧ EY i ≤ 1) ∧ ¬ (EX i = 0 ∧ EY i = 0) := by
  have : i = 0 ∨ i = 1 ∨ i = 2 ∨ i = 3 := by omega
  rcases this with h | h | h | h <;> subst h <;> decide
theorem lin_l3 (r : S26) (p : S29) (hr : VR r) (hp : VP r p) (pl c y x dx dy m u n v z : Int) (hpl : 0 ≤ pl) (c1 : 1 ≤ c) (hb : onB r x y) (hdx : -1 ≤ dx ∧ dx ≤ 1) (hdy : -1 ≤ dy ∧ dy ≤ 1) (hd : ¬ (dx = 0 ∧ dy = 0)) (res : Bool) (e : Ev (fun k => gamehallref1_lined.l2 k pl c y x m u n v (wrap64 (z + 1)) r.f0 r.f1 r.f2 r.f3 r.f4 r.f5 r.f6 r.f7 r.f8 r.f9 r.f10 p.f0 p.f1.f0 p.f1.f1 p.f2 p.f3) res) :
    ∀ (d i : Nat), i + d = 8 → (∀ j, j < i → good r p pl dx dy x y j) → Ev (fun k => gamehallref1_lined.l3 k pl c y x dx dy (i : Int) m u n v z r.f0 r.f1 r.f2 r.f3 r.f4 r.f5 r.f6 r.f7 r.f8 r.f9 r.f10 p.f0 p.f1.f0 p.f1.f1 p.f2 p.f3) (if run r p pl dx dy c.toNat x y = true then true else res) := by
  obtain ⟨w0, w1⟩ := hr.w
  obtain ⟨v0, v1⟩ := hr.h
  obtain ⟨b0, b1, b2, b3⟩ := hb
  have bnd : ∀ i : Nat, i ≤ 8 → (-8 ≤ (i : Int) * dx ∧ (i : Int) * dx ≤ 8) ∧ (-8 ≤ (i : Int) * dy ∧ (i : Int) * dy ≤ 8) := by
    intro i hi
    have h1 : dx = -1 ∨ dx = 0 ∨ dx = 1 := by omega
    have h2 : dy = -1 ∨ dy = 0 ∨ dy = 1 := by omega
    rcases h1 with h | h | h <;> rcases h2 with h' | h' | h' <;> subst h <;> subst h' <;> omega
  have out8 : ¬ good r p pl dx dy x y 8 := by
    rintro ⟨⟨a, b, c, d⟩, _⟩
    have h1 : dx = -1 ∨ dx = 0 ∨ dx = 1 := by omega
    have h2 : dy = -1 ∨ dy = 0 ∨ dy = 1 := by omega
    rcases h1 with h | h | h <;> rcases h2 with h' | h' | h' <;> subst h <;> subst h' <;> omega
  have at_i : ∀ i : Nat, i ≤ 8 → ∃ t, gamehallref1_At.f r.f0 r.f1 r.f2 r.f3 r.f4 r.f5 r.f6 r.f7 r.f8 r.f9 r.f10 p.f0 p.f1.f0 p.f1.f1 p.f2 p.f3 (wrap64 (x + wrap64 ((i : Int) * dx))) (wrap64 (y + wrap64 ((i : Int) * dy))) = some t ∧ t ≤ 12 ∧ (mine t pl = true ↔ good r p pl dx dy x y i) := by
    intro i hi
    have hbd := bnd i hi
    rw [w64 (n := (i : Int) * dx) (by omega) (by omega), w64 (n := (i : Int) * dy) (by omega) (by omega), w64 (n := x + (i : Int) * dx) (by omega) (by omega), w64 (n := y + (i : Int) * dy) (by omega) (by omega)]
    refine ⟨_, at_f r p hr hp (x + (i : Int) * dx) (y + (i : Int) * dy), ?_⟩
    by_cases hb : onB r (x + (i : Int) * dx) (y + (i : Int) * dy)
    · obtain ⟨s0, s1, s2, s3⟩ := sq_in hr hb
      have hc := hp.cell hr (sq r (x + (i : Int) * dx) (y + (i : Int) * dy)) s2 (by rw [hp.n]; exact s3)
      rw [if_pos hb]
      refine ⟨hc.2.1, ?_⟩
      rw [mine_own _ _ hc.1 hpl]
      unfold good
      exact ⟨fun h => ⟨hb, h⟩, fun h => h.2⟩
    · rw [if_neg hb]
      refine ⟨by omega, ?_⟩
      constructor
      · intro h; unfold mine at h; have := (of_decide_eq_true h).1; omega
      · intro h; exact absurd h.1 hb
  have stop : ∀ i : Nat, (∀ j, j < i → good r p pl dx dy x y j) → ¬ good r p pl dx dy x y i → ((i : Int) ≥ c ↔ run r p pl dx dy c.toNat x y = true) := by
    intro i h1 h2
    rw [run_iff]
    constructor
    · intro hi j hj; exact h1 j (by omega)
    · intro hh
      rcases Int.lt_or_le (i : Int) c with h' | h'
      · exact absurd (hh i (by omega)) h2
      · exact h'
  have fin : ∀ i : Nat, i ≤ 8 → (∀ j, j < i → good r p pl dx dy x y j) → ¬ good r p pl dx dy x y i → Ev (fun k => gamehallref1_lined.l3 k pl c y x dx dy (i : Int) m u n v z r.f0 r.f1 r.f2 r.f3 r.f4 r.f5 r.f6 r.f7 r.f8 r.f9 r.f10 p.f0 p.f1.f0 p.f1.f1 p.f2 p.f3) (if run r p pl dx dy c.toNat x y = true then true else res) := by
    intro i hi h1 h2
    obtain ⟨t, ht, ht2, ht3⟩ := at_i i hi
    refine Ev.step (fun k => by rw [gamehallref1_lined.l3]) ?_
    refine bind_now ht ?_
    refine bind_now (mine_f t pl ht2) ?_
    refine ite (fun h => absurd (ht3.1 h) h2) (fun _ => ?_)
    refine ite (fun h => now (by rw [if_pos ((stop i h1 h2).1 h)])) (fun h => ?_)
    rw [if_neg (fun hh => h ((stop i h1 h2).2 hh))]
    exact e
  intro d
  induction d with
  | zero =>
    intro i hi hg
    have h8 : i = 8 := by omega
    subst h8
    exact fin 8 (by omega) hg out8
  | succ d ih =>
    intro i hi hg
    by_cases hgi : good r p pl dx dy x y i
    · have hgs : ∀ j, j < i + 1 → good r p pl dx dy x y j := by
        intro j hj
        rcases Nat.lt_or_ge j i with e | e
        · exact hg j e
        · rw [show j = i from Nat.le_antisymm (Nat.le_of_lt_succ hj) e]; exact hgi
      have hi8 : i ≤ 8 := by omega
      have hid : i + 1 + d = 8 := by omega
      obtain ⟨t, ht, ht2, ht3⟩ := at_i i hi8
      have hwr : ((i + 1 : Nat) : Int) = wrap64 ((i : Int) + 1) := by rw [w64s (by omega) (by omega)]; omega
      refine Ev.step (fun k => by rw [gamehallref1_lined.l3]) ?_
      refine bind_now ht ?_
      refine bind_now (mine_f t pl ht2) ?_
      refine ite (fun _ => ?_) (fun h => absurd (ht3.2 hgi) h)
      have h := ih (i + 1) hid hgs
      rw [hwr] at h; exact h
    · exact fin i (by omega) hg hgi
theorem lin_l2 (r : S26) (p : S29) (hr : VR r) (hp : VP r p) (pl c y x m u n v : Int) (hpl : 0 ≤ pl) (c1 : 1 ≤ c) (hb : onB r x y) (res : Bool) (e : Ev (fun k => gamehallref1_lined.l1 k pl c y m u n (wrap64 (v + 1)) r.f0 r.f1 r.f2 r.f3 r.f4 r.f5 r.f6 r.f7 r.f8 r.f9 r.f10 p.f0 p.f1.f0 p.f1.f1 p.f2 p.f3) res) :
    ∀ (d i : Nat), i + d = 4 → Ev (fun k => gamehallref1_lined.l2 k pl c y x m u n v (i : Int) r.f0 r.f1 r.f2 r.f3 r.f4 r.f5 r.f6 r.f7 r.f8 r.f9 r.f10 p.f0 p.f1.f0 p.f1.f1 p.f2 p.f3) (if ((List.range' i d).any fun i => run r p pl (EX i) (EY i) c.toNat x y) = true then true else res) := by
  intro d
  induction d with
  | zero =>
    intro i hi
    refine Ev.step (fun k => by rw [gamehallref1_lined.l2]) ?_
    exact ite (fun h => absurd h (by omega)) (fun _ => by simpa using e)
  | succ d ih =>
    intro i hi
    have hwr : ((i + 1 : Nat) : Int) = wrap64 ((i : Int) + 1) := by rw [w64s (by omega) (by omega)]; omega
    refine Ev.step (fun k => by rw [gamehallref1_lined.l2]) ?_
    refine ite (fun _ => ?_) (fun h => absurd (by omega) h)
    refine bind_now rfl ?_
    refine ite (fun _ => ?_) (fun h => absurd (by omega) h)
    refine ite (fun _ => ?_) (fun h => absurd (by simp; omega) h)
    refine bind_now rfl ?_
    refine ite (fun _ => ?_) (fun h => absurd (by simp; omega) h)
    have e2 := ih (i + 1) (by omega)
    rw [hwr] at e2
    have hE := EX_in i (by omega)
    have h := lin_l3 r p hr hp pl c y x (EX i) (EY i) m u n v (i : Int) hpl c1 hb hE.1 hE.2.1 hE.2.2 _ e2 8 0 (by omega) (fun j hj => by omega)
    refine ev_eq h ?_
    rw [List.range'_succ, List.any_cons]
    cases run r p pl (EX i) (EY i) c.toNat x y <;> simp
theorem lin_l1 (r : S26) (p : S29) (hr : VR r) (hp : VP r p) (pl c y m u : Int) (hpl : 0 ≤ pl) (c1 : 1 ≤ c) (hy : 0 ≤ y ∧ y < r.f2) (res : Bool) (e : Ev (fun k => gamehallref1_lined.l0 k pl c m (wrap64 (u + 1)) r.f0 r.f1 r.f2 r.f3 r.f4 r.f5 r.f6 r.f7 r.f8 r.f9 r.f10 p.f0 p.f1.f0 p.f1.f1 p.f2 p.f3) res) :
    ∀ (d x : Nat), x + d = r.f1.toNat → Ev (fun k => gamehallref1_lined.l1 k pl c y m u r.f1 (x : Int) r.f0 r.f1 r.f2 r.f3 r.f4 r.f5 r.f6 r.f7 r.f8 r.f9 r.f10 p.f0 p.f1.f0 p.f1.f1 p.f2 p.f3) (if ((List.range' x d).any fun x => (List.range' 0 4).any fun i => run r p pl (EX i) (EY i) c.toNat (x : Int) y) = true then true else res) := by
  obtain ⟨w0, w1⟩ := hr.w
  intro d
  induction d with
  | zero =>
    intro x hx
    refine Ev.step (fun k => by rw [gamehallref1_lined.l1]) ?_
    exact ite (fun h => absurd h (by omega)) (fun _ => by simpa using e)
  | succ d ih =>
    intro x hx
    have hwr : ((x + 1 : Nat) : Int) = wrap64 ((x : Int) + 1) := by rw [w64s (by omega) (by omega)]; omega
    refine Ev.step (fun k => by rw [gamehallref1_lined.l1]) ?_
    refine ite (fun _ => ?_) (fun h => absurd (by omega) h)
    have e2 := ih (x + 1) (by omega)
    rw [hwr] at e2
    have h := lin_l2 r p hr hp pl c y (x : Int) m u r.f1 (x : Int) hpl c1 ⟨by omega, by omega, hy.1, hy.2⟩ _ e2 4 0 (by omega)
    refine ev_eq h ?_
    rw [List.range'_succ (s := x), List.any_cons]
    cases (List.range' 0 4).any fun i => run r p pl (EX i) (EY i) c.toNat (x : Int) y <;> simp
theorem lin_f (r : S26) (p : S29) (hr : VR r) (hp : VP r p) (pl c : Int) (hpl : 0 ≤ pl) (c1 : 1 ≤ c) : Ev (fun k => gamehallref1_lined.f k r.f0 r.f1 r.f2 r.f3 r.f4 r.f5 r.f6 r.f7 r.f8 r.f9 r.f10 p.f0 p.f1.f0 p.f1.f1 p.f2 p.f3 pl c) (linB r p pl c) := by
  obtain ⟨v0, v1⟩ := hr.h
  have l0 : ∀ (d y : Nat), y + d = r.f2.toNat → Ev (fun k => gamehallref1_lined.l0 k pl c r.f2 (y : Int) r.f0 r.f1 r.f2 r.f3 r.f4 r.f5 r.f6 r.f7 r.f8 r.f9 r.f10 p.f0 p.f1.f0 p.f1.f1 p.f2 p.f3) ((List.range' y d).any fun y => (List.range' 0 r.f1.toNat).any fun x => (List.range' 0 4).any fun i => run r p pl (EX i) (EY i) c.toNat (x : Int) (y : Int)) := by
    intro d
    induction d with
    | zero =>
      intro y hy
      refine Ev.step (fun k => by rw [gamehallref1_lined.l0]) ?_
      exact ite (fun h => absurd h (by omega)) (fun _ => now (by simp))
    | succ d ih =>
      intro y hy
      have hwr : ((y + 1 : Nat) : Int) = wrap64 ((y : Int) + 1) := by rw [w64s (by omega) (by omega)]; omega
      refine Ev.step (fun k => by rw [gamehallref1_lined.l0]) ?_
      refine ite (fun _ => ?_) (fun h => absurd (by omega) h)
      have e2 := ih (y + 1) (by omega)
      rw [hwr] at e2
      have h := lin_l1 r p hr hp pl c (y : Int) r.f2 (y : Int) hpl c1 ⟨by omega, by omega⟩ _ e2 r.f1.toNat 0 (by omega)
      refine ev_eq h ?_
      rw [List.range'_succ (s := y), List.any_cons]
      cases (List.range' 0 r.f1.toNat).any fun x => (List.range' 0 4).any fun i => run r p pl (EX i) (EY i) c.toNat (x : Int) (y : Int) <;> simp
  unfold gamehallref1_lined.f linB
  exact l0 r.f2.toNat 0 (by omega)
/-- a row seen from its other end -/
theorem run_back (r : S26) (p : S29) (pl dx dy x y : Int) (c : Nat) (h0 : 1 ≤ c) (h : run r p pl dx dy c x y = true) : run r p pl (-dx) (-dy) c (x + ((c - 1 : Nat) : Int) * dx) (y + ((c - 1 : Nat) : Int) * dy) = true := by
  rw [run_iff] at *
  intro i hi
  have hg := h (c - 1 - i) (by omega)
  unfold good at hg ⊢
  have ex : x + ((c - 1 : Nat) : Int) * dx + (i : Int) * -dx = x + ((c - 1 - i : Nat) : Int) * dx := by
    rw [show ((c - 1 - i : Nat) : Int) = ((c - 1 : Nat) : Int) - i by omega, Int.sub_mul, Int.mul_neg]; omega
  have ey : y + ((c - 1 : Nat) : Int) * dy + (i : Int) * -dy = y + ((c - 1 - i : Nat) : Int) * dy := by
    rw [show ((c - 1 - i : Nat) : Int) = ((c - 1 : Nat) : Int) - i by omega, Int.sub_mul, Int.mul_neg]; omega
  rw [ex, ey]; exact hg
theorem run_last (r : S26) (p : S29) (pl dx dy x y : Int) (c : Nat) (h0 : 1 ≤ c) (h : run r p pl dx dy c x y = true) : onB r (x + ((c - 1 : Nat) : Int) * dx) (y + ((c - 1 : Nat) : Int) * dy) :=
  ((run_iff r p pl dx dy c x y).1 h (c - 1) (by omega)).1
theorem row_lin (r : S26) (p : S29) (hr : VR r) (hp : VP r p) (pl c : Int) (c1 : 1 ≤ c) : rowB r p pl c = linB r p pl c := by
  have hn := hp.n
  have hl := hp.len hr
  rw [Bool.eq_iff_iff]
  unfold rowB linB
  simp only [List.any_eq_true, List.mem_range'_1]
  have hc : 1 ≤ c.toNat := by omega
  have inE : ∀ x y i, i < 4 → onB r x y → run r p pl (EX i) (EY i) c.toNat x y = true → ∃ x_1, (0 ≤ x_1 ∧ x_1 < 0 + r.f2.toNat) ∧ ∃ x, (0 ≤ x ∧ x < 0 + r.f1.toNat) ∧ ∃ x_2, (0 ≤ x_2 ∧ x_2 < 0 + 4) ∧ run r p pl (EX x_2) (EY x_2) c.toNat (x : Int) (x_1 : Int) = true := by
    intro x y i hi ⟨a, b, c', d⟩ h
    refine ⟨y.toNat, ⟨by omega, by omega⟩, x.toNat, ⟨by omega, by omega⟩, i, ⟨by omega, by omega⟩, ?_⟩
    rw [show ((x.toNat : Nat) : Int) = x by omega, show ((y.toNat : Nat) : Int) = y by omega]; exact h
  have inD : ∀ x y i, i < 4 → onB r x y → run r p pl (DX i) (DY i) c.toNat x y = true → ∃ x, (0 ≤ x ∧ x < 0 + p.f0.length) ∧ ∃ x_1, (0 ≤ x_1 ∧ x_1 < 0 + 4) ∧ run r p pl (DX x_1) (DY x_1) c.toNat ((x : Int) % r.f1) ((x : Int) / r.f1) = true := by
    intro x y i hi hb h
    obtain ⟨s0, s1, s2, s3⟩ := sq_in hr hb
    have es : (((sq r x y).toNat : Nat) : Int) = sq r x y := by omega
    have e2 := onB_of r hr (sq r x y) s2 s3
    have e3 := sq_inj e2.1 hb e2.2
    refine ⟨(sq r x y).toNat, ⟨by omega, by omega⟩, i, ⟨by omega, by omega⟩, ?_⟩
    rw [es, e3.1, e3.2]; exact h
  constructor
  · rintro ⟨s, hs, i, hi, h⟩
    have hb := (onB_of r hr (s : Int) (by omega) (by omega)).1
    have h3 : i = 0 ∨ i = 1 ∨ i = 2 ∨ i = 3 := by omega
    have hbk := run_back r p pl _ _ _ _ _ hc h
    have hla := run_last r p pl _ _ _ _ _ hc h
    rcases h3 with h' | h' | h' | h'
    · subst h'; exact inE _ _ 0 (by omega) hla hbk
    · subst h'; exact inE _ _ 1 (by omega) hla hbk
    · subst h'; exact inE _ _ 2 (by omega) hla hbk
    · subst h'; exact inE _ _ 3 (by omega) hb h
  · rintro ⟨y, hy, x, hx, i, hi, h⟩
    have hb : onB r (x : Int) (y : Int) := ⟨by omega, by omega, by omega, by omega⟩
    have h3 : i = 0 ∨ i = 1 ∨ i = 2 ∨ i = 3 := by omega
    have hbk := run_back r p pl _ _ _ _ _ hc h
    have hla := run_last r p pl _ _ _ _ _ hc h
    rcases h3 with h' | h' | h' | h'
    · subst h'; exact inD _ _ 0 (by omega) hla hbk
    · subst h'; exact inD _ _ 1 (by omega) hla hbk
    · subst h'; exact inD _ _ 2 (by omega) hla hbk
    · subst h'; exact inD _ _ 3 (by omega) hb h
end Co
end Go.Proofs.Ytloadbbndnmdlaa.Pure
