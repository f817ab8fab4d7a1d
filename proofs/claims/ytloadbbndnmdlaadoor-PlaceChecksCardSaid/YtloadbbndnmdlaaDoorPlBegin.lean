/- RuletextPrints: the words of the texts, and what the small functions return. -/
import Derived.Test.YtloadbbndnmdlaaDoorRtFacts
namespace Go.Proofs.YtloadbbndnmdlaaDoor.Pure
open Go.RowKit Go.Proofs.YtloadbbndnmdlaaDoor.PPlaceChecks Go.Proofs.YtloadbbndnmdlaaDoorW.PrintWords Go.Proofs.YtloadbbndnmdlaaDoorW.PrintLast
set_option linter.unusedSimpArgs false
set_option linter.unusedVariables false
namespace Co
open Aid
def U (n : Int) : UInt8 := UInt8.ofNat n.toNat
def B (x : List UInt8) : ByteArray := ⟨x.toArray⟩
theorem B_l (x : List UInt8) : (B x).data.toList = x := by simp [B]
theorem zl (a : ByteArray) : a.size = a.data.toList.length := by simp
theorem dl (a b : ByteArray) : (a ++ b).data.toList = a.data.toList ++ b.data.toList := by simp [ByteArray.data_append]
theorem ext_b {a b : ByteArray} (h : a.data.toList = b.data.toList) : a = b := by
  obtain ⟨⟨x⟩⟩ := a; obtain ⟨⟨y⟩⟩ := b
  have : x = y := h
  rw [this]
theorem eqB {a : ByteArray} {x : List UInt8} (h : a.data.toList = x) : a = B x := ext_b (by rw [h, B_l])
def it (n : Int) : List UInt8 := Lib.itoa n
theorem dd_le : ∀ (k n : Nat), n < 10 ^ (k + 1) → (Lib.decDigits n).length ≤ k + 1 := by
  intro k
  induction k with
  | zero => intro n h; rw [Lib.decDigits, dif_pos (by omega)]; exact Nat.le_refl _
  | succ k ih =>
    intro n h
    rw [Lib.decDigits]
    split
    · simp
    · have := ih (n / 10) (by rw [Nat.pow_succ] at h; omega)
      simp; exact this
theorem it_le (n : Int) (h0 : -1000000 < n) (h1 : n < 1000000) : (it n).length ≤ 7 := by
  unfold it Lib.itoa
  split
  · have := dd_le 5 n.natAbs (by omega)
    simp; omega
  · have := dd_le 5 n.toNat (by omega)
    omega
theorem itoa_f (n : Int) (h0 : -1000000 < n) (h1 : n < 1000000) : strconv_Itoa.f n = some (B (it n)) := by
  unfold strconv_Itoa.f; rw [if_pos (by omega)]; rfl
theorem dig : ∀ i : Fin 10, (⟨#[48, 49, 50, 51, 52, 53, 54, 55, 56, 57]⟩ : ByteArray).extract i.val (i.val + 1) = B [UInt8.ofNat (48 + i.val)] := by decide +kernel
theorem dec_n : ∀ n : Nat, n < 1000000 → Ev (fun k => gamehallref1_Dec.f k (n : Int)) (B (Lib.decDigits n)) := by
  intro n
  induction n using Nat.strongRecOn with
  | _ n ih =>
    intro hn
    refine Ev.step (fun k => by rw [gamehallref1_Dec.f]) ?_
    refine ite (fun h => absurd h (by omega)) (fun _ => ?_)
    rw [Lib.decDigits]
    by_cases h9 : n < 10
    · rw [dif_pos h9]
      have hw : wrap64 ((n : Int) + 1) = ((n + 1 : Nat) : Int) := by rw [w64s (by omega) (by omega)]; omega
      rw [hw]
      refine ite (fun h => absurd h (by omega)) (fun _ => ?_)
      refine ite (fun _ => ?_) (fun h => absurd (by omega) h)
      refine ite (fun _ => ?_) (fun h => absurd (by omega) h)
      refine ite (fun _ => now ?_) (fun h => absurd (by omega) h)
      exact dig ⟨n, h9⟩
    · rw [dif_neg h9]
      have h1 : Int.tdiv (n : Int) 10 = ((n / 10 : Nat) : Int) := by rw [Int.tdiv_eq_ediv_of_nonneg (by omega)]; omega
      have h2 : Int.tmod (n : Int) 10 = ((n % 10 : Nat) : Int) := by rw [Int.tmod_eq_emod_of_nonneg (by omega)]; omega
      have hw : wrap64 (((n / 10 : Nat) : Int)) = ((n / 10 : Nat) : Int) := w64 (by omega) (by omega)
      rw [h1, h2, hw]
      have e1 := ih (n / 10) (by omega) (by omega)
      have e2 := ih (n % 10) (by omega) (by omega)
      have l1 := dd_le 5 (n / 10) (by omega)
      have l2 := dd_le 5 (n % 10) (by omega)
      have e3 : Lib.decDigits (n % 10) = [UInt8.ofNat (48 + n % 10)] := by rw [Lib.decDigits, dif_pos (by omega)]
      refine ite (fun _ => ?_) (fun h => absurd (by omega) h)
      refine Ev.bind e1 (Ev.bind e2 ?_)
      refine ite (fun _ => now (eqB ?_)) (fun h => absurd ?_ h)
      · rw [dl, B_l, B_l, e3]
      · rw [zl, zl, B_l, B_l]; omega
theorem dec_f (n : Int) (h0 : -1000000 < n) (h1 : n < 1000000) : Ev (fun k => gamehallref1_Dec.f k n) (B (it n)) := by
  by_cases hn : n < 0
  · refine Ev.step (fun k => by rw [gamehallref1_Dec.f]) ?_
    refine ite (fun _ => ?_) (fun h => absurd hn h)
    rw [w64 (n := -n) (by omega) (by omega), show -n = ((n.natAbs : Nat) : Int) by omega]
    refine Ev.bind (dec_n n.natAbs (by omega)) ?_
    have l1 := dd_le 5 n.natAbs (by omega)
    refine ite (fun _ => now (eqB ?_)) (fun h => absurd ?_ h)
    · rw [dl, B_l]; unfold it Lib.itoa; rw [if_pos hn]; rfl
    · rw [zl, B_l]; omega
  · have e := dec_n n.toNat (by omega)
    rw [show ((n.toNat : Nat) : Int) = n by omega] at e
    unfold it Lib.itoa; rw [if_neg hn]; exact e
/-! letters -/
theorem e32_dec : ∀ i : Fin 26, Go.Utf8.encode (wrap32 (65 + (i.val : Int))) = B [U (65 + (i.val : Int))] := by decide +kernel
theorem e32 {c : Int} (h : 65 ≤ c ∧ c ≤ 90) : Go.Utf8.encode (wrap32 c) = B [U c] := by
  obtain ⟨n, hn⟩ := Int.eq_ofNat_of_zero_le (show 0 ≤ c - 65 by omega)
  have := e32_dec ⟨n, by omega⟩
  rw [show (65 + ((⟨n, by omega⟩ : Fin 26).val : Int)) = c by show 65 + (n : Int) = c; omega] at this
  exact this
theorem rdL {r : S26} (lr : LR r) (t : Int) (h0 : 0 ≤ t) (h1 : t < (r.f3.length : Int)) : 65 ≤ (rd_T44 r.f3 t).f0 ∧ (rd_T44 r.f3 t).f0 ≤ 90 := lr.a t h0 h1
/-! the lines -/
theorem wn1 (i : Nat) (h : i ≤ 1000000) : wrap64 ((i : Int) + 1) = ((i + 1 : Nat) : Int) := by rw [w64s (by omega) (by omega)]; omega
theorem rdP (l : List S44) (i : Nat) (h : i < l.length) : rd_T44 l (i : Int) = l[i] := by simp [rd_T44, List.getD_eq_getElem?_getD, h]
end Co
end Go.Proofs.YtloadbbndnmdlaaDoor.Pure
namespace Go.Proofs.YtloadbbndnmdlaaDoor.Pure
open Go.RowKit Go.Proofs.YtloadbbndnmdlaaDoor.PPlaceChecks Go.Proofs.YtloadbbndnmdlaaDoorW.PrintWords Go.Proofs.YtloadbbndnmdlaaDoorW.PrintLast
set_option linter.unusedSimpArgs false
set_option linter.unusedVariables false
namespace Co
open Aid
theorem in_f (a b c : Int) : gamehallref1_In.f a b c = some (decide (b ≤ a ∧ a ≤ c)) := Rc.in_f a b c
/-- a position that place.Check accepts under valid rules -/
structure VP (r : S26) (p : S29) : Prop where
  n : (p.f0.length : Int) = r.f1 * r.f2
  c : ∀ c ∈ p.f0, 0 ≤ c ∧ c ≤ 2 * (r.f3.length : Int)
  h0 : p.f1.f0.length = r.f3.length
  h1 : p.f1.f1.length = r.f3.length
  b0 : ∀ c ∈ p.f1.f0, 0 ≤ c ∧ c ≤ 1000
  b1 : ∀ c ∈ p.f1.f1, 0 ≤ c ∧ c ≤ 1000
  t : p.f2 = 0 ∨ p.f2 = 1
  q : 0 ≤ p.f3 ∧ p.f3 ≤ 200
theorem rules_two (r : S26) (hw : wf26 r) : ∃ e, Ev (fun k => rules_Check.f k r.f0 r.f1 r.f2 r.f3 r.f4 r.f5 r.f6 r.f7 r.f8 r.f9 r.f10) e ∧ Ev (fun k => gamehallref1_RulesError.f k r.f0 r.f1 r.f2 r.f3 r.f4 r.f5 r.f6 r.f7 r.f8 r.f9 r.f10) e ∧ (e = 0 → VR r) := by
  obtain ⟨b, h1, h2⟩ := Rc.name_ev r.f0 (by have := hw.1; simpa using this)
  refine ⟨_, Rc.check_f r hw b h1, Rc.check_ref r hw b h2, fun h => ?_⟩
  cases b
  · simp at h
  · exact vr_of r (by simpa using h)
/-! positions -/
def inC (n : Int) (c : Int) : Bool := decide (0 ≤ c ∧ c ≤ n)
def lastP (p : S29) : Bool := decide ((p.f2 = 0 ∨ p.f2 = 1) ∧ 0 ≤ p.f3 ∧ p.f3 ≤ 200)
def goodB (r : S26) (p : S29) : Bool := (p.f0.all (inC (2 * (r.f3.length : Int))) && (p.f1.f0.all (inC 1000) && p.f1.f1.all (inC 1000))) && lastP p
theorem pc_l2 (p : S29) (xs : List Int) (u : Int) (c1 c2 : List Int) (hl : xs.length ≤ 140737488351232) (res : Int) : ∀ (d i : Nat), i + d = xs.length →
    Ev (fun k => place_Check.l1 k (wrap64 (u + 1)) c1 c2 p.f0 p.f1.f0 p.f1.f1 p.f2 p.f3) res → Ev (fun k => place_Check.l2 k u xs (xs.length : Int) (i : Int) c1 c2 p.f0 p.f1.f0 p.f1.f1 p.f2 p.f3) (if (xs.drop i).all (inC 1000) = true then res else 4) := by
  intro d
  induction d with
  | zero =>
    intro i hi e
    refine Ev.step (fun k => by rw [place_Check.l2]) ?_
    rw [List.drop_of_length_le (by omega), if_pos (by rfl)]
    exact ite (fun h => absurd h (by omega)) (fun _ => e)
  | succ d ih =>
    intro i hi e
    have hwr : ((i + 1 : Nat) : Int) = wrap64 ((i : Int) + 1) := by rw [w64s (by omega) (by omega)]; omega
    have hil : i < xs.length := by omega
    refine Ev.step (fun k => by rw [place_Check.l2]) ?_
    refine ite (fun _ => ?_) (fun h => absurd (by omega) h)
    refine ite (fun _ => ?_) (fun h => absurd (by omega) h)
    refine ite (fun _ => ?_) (fun h => absurd (by omega) h)
    rw [List.drop_eq_getElem_cons hil, List.all_cons, rd_nat xs i hil]
    refine ite (fun h => now ?_) (fun h1 => ite (fun h => now ?_) (fun h2 => ?_))
    · rw [if_neg]; simp [inC]; intro h3; omega
    · rw [if_neg]; simp [inC]; intro h3; omega
    · rw [show inC 1000 xs[i] = true from decide_eq_true (by omega), Bool.true_and]
      have h := ih (i + 1) (by omega) e
      rw [hwr] at h; exact h
theorem pc_l1_2 (p : S29) (c1 c2 : List Int) : Ev (fun k => place_Check.l1 k 2 c1 c2 p.f0 p.f1.f0 p.f1.f1 p.f2 p.f3) (if lastP p = true then 0 else 4) := by
  refine Ev.step (fun k => by rw [place_Check.l1]) ?_
  refine ite (fun h => absurd h (by decide)) (fun _ => ?_)
  have fin : (p.f2 = 0 ∨ p.f2 = 1) → Ev (fun _ => if p.f3 < 0 then some 4 else (if p.f3 > 200 then some 4 else some 0)) (if lastP p = true then (0 : Int) else 4) := by
    intro ht
    refine ite (fun h => now ?_) (fun h1 => ite (fun h => now ?_) (fun h2 => now ?_))
    · rw [if_neg]; simp [lastP]; intros; omega
    · rw [if_neg]; simp [lastP]; intros; omega
    · rw [if_pos]; simp [lastP]; omega
  refine ite (fun h => fin (.inl h)) (fun h0 => ite (fun h => fin (.inr h)) (fun h1 => now ?_))
  rw [if_neg]; simp [lastP]; intro h; omega
theorem pc_l1 (p : S29) (c1 c2 : List Int) (h1 : c1.length ≤ 140737488351232) (h2 : c2.length ≤ 140737488351232) : Ev (fun k => place_Check.l1 k 0 c1 c2 p.f0 p.f1.f0 p.f1.f1 p.f2 p.f3) (if ((c1.all (inC 1000) && c2.all (inC 1000)) && lastP p) = true then 0 else 4) := by
  have e2 := pc_l1_2 p c1 c2
  have e1 : Ev (fun k => place_Check.l1 k 1 c1 c2 p.f0 p.f1.f0 p.f1.f1 p.f2 p.f3) (if (c2.all (inC 1000) && lastP p) = true then 0 else 4) := by
    refine Ev.step (fun k => by rw [place_Check.l1]) ?_
    refine ite (fun _ => ?_) (fun h => absurd (by decide) h)
    refine ite (fun _ => ?_) (fun h => absurd (by decide) h)
    refine ite (fun h => absurd h (by decide)) (fun _ => ?_)
    refine Ev.step (fun k => by rw [place_Check.j3]) ?_
    have h := pc_l2 p c2 1 c1 c2 h2 _ c2.length 0 (by omega) (by rw [show wrap64 (1 + 1) = 2 by decide +kernel]; exact e2)
    rw [List.drop_zero] at h
    refine ev_eq h ?_
    cases c2.all (inC 1000) <;> simp
  refine Ev.step (fun k => by rw [place_Check.l1]) ?_
  refine ite (fun _ => ?_) (fun h => absurd (by decide) h)
  refine ite (fun _ => ?_) (fun h => absurd (by decide) h)
  refine ite (fun _ => ?_) (fun h => absurd rfl h)
  refine Ev.step (fun k => by rw [place_Check.j3]) ?_
  have h := pc_l2 p c1 0 c1 c2 h1 _ c1.length 0 (by omega) (by rw [show wrap64 (0 + 1) = 1 by decide +kernel]; exact e1)
  rw [List.drop_zero] at h
  refine ev_eq h ?_
  cases c1.all (inC 1000) <;> simp
theorem pc_l0 (r : S26) (p : S29) (hr : VR r) (hw : wf29 p) : ∀ (d i : Nat), i + d = p.f0.length → Ev (fun k => place_Check.l0 k p.f0 (p.f0.length : Int) (i : Int) r.f0 r.f1 r.f2 r.f3 r.f4 r.f5 r.f6 r.f7 r.f8 r.f9 r.f10 p.f0 p.f1.f0 p.f1.f1 p.f2 p.f3) (if (((p.f0.drop i).all (inC (2 * (r.f3.length : Int))) && (p.f1.f0.all (inC 1000) && p.f1.f1.all (inC 1000))) && lastP p) = true then 0 else 4) := by
  have hl : p.f0.length ≤ 140737488351232 := by have := hw.1.1; omega
  have hl1 : p.f1.f0.length ≤ 140737488351232 := by have := hw.2.1.1.1; omega
  have hl2 : p.f1.f1.length ≤ 140737488351232 := by have := hw.2.1.2.1; omega
  have hrt := hr.t
  intro d
  induction d with
  | zero =>
    intro i hi
    refine Ev.step (fun k => by rw [place_Check.l0]) ?_
    rw [List.drop_of_length_le (by omega)]
    exact ite (fun h => absurd h (by omega)) (fun _ => ev_eq (pc_l1 p p.f1.f0 p.f1.f1 hl1 hl2) (by simp))
  | succ d ih =>
    intro i hi
    have hwr : ((i + 1 : Nat) : Int) = wrap64 ((i : Int) + 1) := by rw [w64s (by omega) (by omega)]; omega
    have hil : i < p.f0.length := by omega
    refine Ev.step (fun k => by rw [place_Check.l0]) ?_
    refine ite (fun _ => ?_) (fun h => absurd (by omega) h)
    refine ite (fun _ => ?_) (fun h => absurd (by omega) h)
    refine ite (fun _ => ?_) (fun h => absurd (by omega) h)
    rw [List.drop_eq_getElem_cons hil, List.all_cons, rd_nat p.f0 i hil, w64 (n := 2 * (r.f3.length : Int)) (by omega) (by omega)]
    refine ite (fun h => now ?_) (fun h1 => ite (fun h => now ?_) (fun h2 => ?_))
    · rw [show inC (2 * (r.f3.length : Int)) p.f0[i] = false from decide_eq_false (by omega)]; simp
    · rw [show inC (2 * (r.f3.length : Int)) p.f0[i] = false from decide_eq_false (by omega)]; simp
    · rw [show inC (2 * (r.f3.length : Int)) p.f0[i] = true from decide_eq_true (by omega), Bool.true_and]
      have h := ih (i + 1) (by omega)
      rw [hwr] at h; exact h
def lensB (r : S26) (p : S29) : Prop := (p.f0.length : Int) = r.f1 * r.f2 ∧ (p.f1.f0.length : Int) = (r.f3.length : Int) ∧ (p.f1.f1.length : Int) = (r.f3.length : Int)
instance (r : S26) (p : S29) : Decidable (lensB r p) := by unfold lensB; exact inferInstance
def placeE (r : S26) (p : S29) : Int := if lensB r p then (if goodB r p = true then 0 else 4) else 3
theorem pc_j0 (r : S26) (p : S29) (hr : VR r) (hw : wf29 p) (b : Bool) : Ev (fun k => place_Check.j0 k b r.f0 r.f1 r.f2 r.f3 r.f4 r.f5 r.f6 r.f7 r.f8 r.f9 r.f10 p.f0 p.f1.f0 p.f1.f1 p.f2 p.f3) (if b = true then 3 else (if goodB r p = true then 0 else 4)) := by
  refine Ev.step (fun k => by rw [place_Check.j0]) ?_
  refine ite (fun h => now (by rw [if_pos h])) (fun h => ?_)
  rw [if_neg h]
  have e := pc_l0 r p hr hw p.f0.length 0 (by omega)
  rw [List.drop_zero] at e
  exact e
theorem check_pl (r : S26) (p : S29) (hw : wf29 p) (e : Int) (he : Ev (fun k => rules_Check.f k r.f0 r.f1 r.f2 r.f3 r.f4 r.f5 r.f6 r.f7 r.f8 r.f9 r.f10) e) (hv : e = 0 → VR r) : Ev (fun k => place_Check.f k r.f0 r.f1 r.f2 r.f3 r.f4 r.f5 r.f6 r.f7 r.f8 r.f9 r.f10 p.f0 p.f1.f0 p.f1.f1 p.f2 p.f3) (if e = 0 then placeE r p else e) := by
  unfold place_Check.f
  refine Ev.bind he ?_
  refine ite (fun h => ?_) (fun h => now (by rw [if_neg h]))
  have hr := hv h
  have ha := area hr
  rw [if_pos h, w64 (n := r.f1 * r.f2) (by omega) (by omega)]
  unfold placeE
  refine ite (fun h1 => ite (fun h2 => ?_) (fun h2 => ?_)) (fun h1 => ?_)
  · refine ev_eq (pc_j0 r p hr hw _) ?_
    by_cases h3 : (p.f1.f1.length : Int) = (r.f3.length : Int)
    · rw [if_neg (c := (((p.f1.f1.length : Int) != (r.f3.length : Int)) = true)) (by simp [h3]), if_pos (c := lensB r p) ⟨h1, h2, h3⟩]
    · rw [if_pos (by simpa using h3), if_neg (fun hh => h3 hh.2.2)]
  · refine ev_eq (pc_j0 r p hr hw true) ?_
    rw [if_pos rfl, if_neg (fun hh => h2 hh.2.1)]
  · refine ev_eq (pc_j0 r p hr hw true) ?_
    rw [if_pos rfl, if_neg (fun hh => h1 hh.1)]
theorem pr_l2 (xs : List Int) (u : Int) (c1 c2 : List Int) (hl : xs.length ≤ 140737488351232) (res : Int) : ∀ (d i : Nat) (b : Bool), i + d = xs.length →
    Ev (fun k => gamehallref1_PlaceError.l1 k (b && (xs.drop i).all (inC 1000)) (wrap64 (u + 1)) c1 c2) res → Ev (fun k => gamehallref1_PlaceError.l2 k b u xs (xs.length : Int) (i : Int) c1 c2) res := by
  intro d
  induction d with
  | zero =>
    intro i b hi e
    refine Ev.step (fun k => by rw [gamehallref1_PlaceError.l2]) ?_
    rw [List.drop_of_length_le (by omega)] at e
    exact ite (fun h => absurd h (by omega)) (fun _ => by simpa using e)
  | succ d ih =>
    intro i b hi e
    have hwr : ((i + 1 : Nat) : Int) = wrap64 ((i : Int) + 1) := by rw [w64s (by omega) (by omega)]; omega
    have hil : i < xs.length := by omega
    rw [List.drop_eq_getElem_cons hil, List.all_cons] at e
    refine Ev.step (fun k => by rw [gamehallref1_PlaceError.l2]) ?_
    refine ite (fun _ => ?_) (fun h => absurd (by omega) h)
    refine ite (fun _ => ?_) (fun h => absurd (by omega) h)
    refine ite (fun _ => ?_) (fun h => absurd (by omega) h)
    refine ite (fun hb => ?_) (fun hb => ?_)
    · refine bind_now (in_f _ _ _) ?_
      rw [rd_nat xs i hil]
      have h := ih (i + 1) (inC 1000 xs[i]) (by omega) (by rw [hb, Bool.true_and] at e; exact e)
      rw [hwr] at h; exact h
    · have hb0 : b = false := by simpa using hb
      have h := ih (i + 1) false (by omega) (by rw [hb0] at e; simpa using e)
      rw [hwr] at h; exact h
theorem pr_l1 (b : Bool) (c1 c2 : List Int) (h1 : c1.length ≤ 140737488351232) (h2 : c2.length ≤ 140737488351232) : Ev (fun k => gamehallref1_PlaceError.l1 k b 0 c1 c2) (if (b && (c1.all (inC 1000) && c2.all (inC 1000))) = true then 0 else 4) := by
  have e2 : ∀ b, Ev (fun k => gamehallref1_PlaceError.l1 k b 2 c1 c2) (if b = true then 0 else 4) := by
    intro b
    refine Ev.step (fun k => by rw [gamehallref1_PlaceError.l1]) ?_
    exact ite (fun h => absurd h (by decide)) (fun _ => ite (fun h => now (by rw [if_pos h])) (fun h => now (by rw [if_neg h])))
  have e1 : ∀ b, Ev (fun k => gamehallref1_PlaceError.l1 k b 1 c1 c2) (if (b && c2.all (inC 1000)) = true then 0 else 4) := by
    intro b
    refine Ev.step (fun k => by rw [gamehallref1_PlaceError.l1]) ?_
    refine ite (fun _ => ?_) (fun h => absurd (by decide) h)
    refine ite (fun _ => ?_) (fun h => absurd (by decide) h)
    refine ite (fun h => absurd h (by decide)) (fun _ => ?_)
    refine Ev.step (fun k => by rw [gamehallref1_PlaceError.j4]) ?_
    exact pr_l2 c2 1 c1 c2 h2 _ c2.length 0 b (by omega) (by rw [show wrap64 (1 + 1) = 2 by decide +kernel, List.drop_zero]; exact e2 _)
  refine Ev.step (fun k => by rw [gamehallref1_PlaceError.l1]) ?_
  refine ite (fun _ => ?_) (fun h => absurd (by decide) h)
  refine ite (fun _ => ?_) (fun h => absurd (by decide) h)
  refine ite (fun _ => ?_) (fun h => absurd rfl h)
  refine Ev.step (fun k => by rw [gamehallref1_PlaceError.j4]) ?_
  refine pr_l2 c1 0 c1 c2 h1 _ c1.length 0 b (by omega) ?_
  rw [show wrap64 (0 + 1) = 1 by decide +kernel, List.drop_zero]
  refine ev_eq (e1 _) ?_
  rw [Bool.and_assoc]
theorem pr_l0 (r : S26) (p : S29) (hr : VR r) (hw : wf29 p) : ∀ (d i : Nat) (b : Bool), i + d = p.f0.length → Ev (fun k => gamehallref1_PlaceError.l0 k (r.f3.length : Int) b p.f0 (p.f0.length : Int) (i : Int) p.f0 p.f1.f0 p.f1.f1 p.f2 p.f3) (if ((b && (p.f0.drop i).all (inC (2 * (r.f3.length : Int)))) && (p.f1.f0.all (inC 1000) && p.f1.f1.all (inC 1000))) = true then 0 else 4) := by
  have hl : p.f0.length ≤ 140737488351232 := by have := hw.1.1; omega
  have hl1 : p.f1.f0.length ≤ 140737488351232 := by have := hw.2.1.1.1; omega
  have hl2 : p.f1.f1.length ≤ 140737488351232 := by have := hw.2.1.2.1; omega
  have hrt := hr.t
  intro d
  induction d with
  | zero =>
    intro i b hi
    refine Ev.step (fun k => by rw [gamehallref1_PlaceError.l0]) ?_
    rw [List.drop_of_length_le (by omega)]
    exact ite (fun h => absurd h (by omega)) (fun _ => ev_eq (pr_l1 b p.f1.f0 p.f1.f1 hl1 hl2) (by simp))
  | succ d ih =>
    intro i b hi
    have hwr : ((i + 1 : Nat) : Int) = wrap64 ((i : Int) + 1) := by rw [w64s (by omega) (by omega)]; omega
    have hil : i < p.f0.length := by omega
    rw [List.drop_eq_getElem_cons hil, List.all_cons]
    refine Ev.step (fun k => by rw [gamehallref1_PlaceError.l0]) ?_
    refine ite (fun _ => ?_) (fun h => absurd (by omega) h)
    refine ite (fun _ => ?_) (fun h => absurd (by omega) h)
    refine ite (fun _ => ?_) (fun h => absurd (by omega) h)
    refine ite (fun hb => ?_) (fun hb => ?_)
    · rw [w64 (n := 2 * (r.f3.length : Int)) (by omega) (by omega)]
      refine bind_now (in_f _ _ _) ?_
      rw [rd_nat p.f0 i hil]
      have h := ih (i + 1) (inC (2 * (r.f3.length : Int)) p.f0[i]) (by omega)
      rw [hwr] at h
      rw [hb, Bool.true_and]; exact h
    · have hb0 : b = false := by simpa using hb
      have h := ih (i + 1) false (by omega)
      rw [hwr] at h
      rw [hb0]; simpa using h
theorem pr_j0 (r : S26) (p : S29) (hr : VR r) (hw : wf29 p) (b : Bool) : Ev (fun k => gamehallref1_PlaceError.j0 k (r.f3.length : Int) b p.f0 p.f1.f0 p.f1.f1 p.f2 p.f3) (if b = true then 3 else (if goodB r p = true then 0 else 4)) := by
  refine Ev.step (fun k => by rw [gamehallref1_PlaceError.j0]) ?_
  refine ite (fun h => now (by rw [if_pos h])) (fun h => ?_)
  rw [if_neg h]
  have fin : ∀ b : Bool, b = lastP p → Ev (fun k => gamehallref1_PlaceError.j1 k (r.f3.length : Int) b p.f0 p.f1.f0 p.f1.f1 p.f2 p.f3) (if goodB r p = true then 0 else 4) := by
    intro b hb
    refine Ev.step (fun k => by rw [gamehallref1_PlaceError.j1]) ?_
    refine ev_eq (pr_l0 r p hr hw p.f0.length 0 b (by omega)) ?_
    rw [List.drop_zero, hb]
    unfold goodB
    cases lastP p <;> simp
  refine bind_now (in_f _ _ _) ?_
  refine ite (fun h1 => ?_) (fun h1 => ?_)
  · refine bind_now (in_f _ _ _) ?_
    refine fin _ ?_
    have h1' : 0 ≤ p.f2 ∧ p.f2 ≤ 1 := by simpa using h1
    unfold lastP
    congr 1
    apply propext
    constructor <;> intro <;> omega
  · refine fin _ ?_
    unfold lastP
    symm; rw [decide_eq_false_iff_not]
    intro hh; apply h1; simp; omega
theorem ref_pl (r : S26) (p : S29) (hw : wf29 p) (e : Int) (he : Ev (fun k => gamehallref1_RulesError.f k r.f0 r.f1 r.f2 r.f3 r.f4 r.f5 r.f6 r.f7 r.f8 r.f9 r.f10) e) (hv : e = 0 → VR r) : Ev (fun k => gamehallref1_PlaceError.f k r.f0 r.f1 r.f2 r.f3 r.f4 r.f5 r.f6 r.f7 r.f8 r.f9 r.f10 p.f0 p.f1.f0 p.f1.f1 p.f2 p.f3) (if e = 0 then placeE r p else e) := by
  unfold gamehallref1_PlaceError.f
  refine Ev.bind he ?_
  refine ite (fun h => ?_) (fun h => now (by rw [if_neg h]))
  have hr := hv h
  have ha := area hr
  rw [if_pos h, w64 (n := r.f1 * r.f2) (by omega) (by omega)]
  unfold placeE
  refine ite (fun h1 => ite (fun h2 => ?_) (fun h2 => ?_)) (fun h1 => ?_)
  · refine ev_eq (pr_j0 r p hr hw _) ?_
    by_cases h3 : (p.f1.f1.length : Int) = (r.f3.length : Int)
    · rw [if_neg (c := (((p.f1.f1.length : Int) != (r.f3.length : Int)) = true)) (by simp [h3]), if_pos (c := lensB r p) ⟨h1, h2, h3⟩]
    · rw [if_pos (by simpa using h3), if_neg (fun hh => h3 hh.2.2)]
  · refine ev_eq (pr_j0 r p hr hw true) ?_
    rw [if_pos rfl, if_neg (fun hh => h2 hh.2.1)]
  · refine ev_eq (pr_j0 r p hr hw true) ?_
    rw [if_pos rfl, if_neg (fun hh => h1 hh.1)]
theorem vp_of (r : S26) (p : S29) (h : placeE r p = 0) : VP r p := by
  unfold placeE at h
  split at h
  · rename_i h1
    split at h
    · rename_i h2
      obtain ⟨a, b, c⟩ := h1
      unfold goodB lastP at h2
      simp only [Bool.and_eq_true, List.all_eq_true, decide_eq_true_eq] at h2
      obtain ⟨⟨g0, g1, g2⟩, g3, g4⟩ := h2
      have cv : ∀ n c, inC n c = true → 0 ≤ c ∧ c ≤ n := fun n c h => of_decide_eq_true h
      exact ⟨a, fun c hc => cv _ _ (g0 c hc), by omega, by omega, fun c hc => cv _ _ (g1 c hc), fun c hc => cv _ _ (g2 c hc), g3, g4⟩
    · exact absurd h (by decide)
  · exact absurd h (by decide)
/-- the position's two answers -/
theorem place_two (r : S26) (p : S29) (hr : wf26 r) (hp : wf29 p) : ∃ e, Ev (fun k => place_Check.f k r.f0 r.f1 r.f2 r.f3 r.f4 r.f5 r.f6 r.f7 r.f8 r.f9 r.f10 p.f0 p.f1.f0 p.f1.f1 p.f2 p.f3) e ∧ Ev (fun k => gamehallref1_PlaceError.f k r.f0 r.f1 r.f2 r.f3 r.f4 r.f5 r.f6 r.f7 r.f8 r.f9 r.f10 p.f0 p.f1.f0 p.f1.f1 p.f2 p.f3) e ∧ (e = 0 → VR r ∧ VP r p) := by
  obtain ⟨e, h1, h2, h3⟩ := rules_two r hr
  refine ⟨_, check_pl r p hp e h1 h3, ref_pl r p hp e h2 h3, fun h => ?_⟩
  split at h
  · rename_i h0; exact ⟨h3 h0, vp_of r p h⟩
  · rename_i h0; exact absurd h h0
end Co
end Go.Proofs.YtloadbbndnmdlaaDoor.Pure
namespace Go.Proofs.YtloadbbndnmdlaaDoor.Pure
open Go.RowKit Go.Proofs.YtloadbbndnmdlaaDoor.PPlaceChecks Go.Proofs.YtloadbbndnmdlaaDoorW.PrintWords Go.Proofs.YtloadbbndnmdlaaDoorW.PrintLast
set_option linter.unusedSimpArgs false
set_option linter.unusedVariables false
namespace Co
open Aid
/-- the letter of a cell that is not empty, as a number -/
def cn (r : S26) (c : Int) : Int := if c % 2 = 0 then L r ((c - 1) / 2) + 32 else L r ((c - 1) / 2)
def gp (g : Int) : List UInt8 := if g > 0 then it g else []
def rowT (r : S26) : Int → List Int → List UInt8
  | g, [] => gp g
  | g, c :: cs => if c = 0 then rowT r (g + 1) cs else gp g ++ (U (cn r c) :: rowT r 0 cs)
def rowP (r : S26) (p : S29) (y : Int) : List Int := (p.f0.take ((y + 1) * r.f1).toNat).drop (y * r.f1).toNat
def rowsT (r : S26) (p : S29) : Nat → List UInt8
  | 0 => []
  | n + 1 => rowT r 0 (rowP r p (n : Int)) ++ ((if (n : Int) > 0 then [47] else []) ++ rowsT r p n)
theorem gp_le (g : Int) (h0 : 0 ≤ g) (h1 : g ≤ 1000) : (gp g).length ≤ 7 := by
  unfold gp
  split
  · exact it_le g (by omega) (by omega)
  · simp
theorem rowT_le (r : S26) : ∀ (cs : List Int) (g : Int), 0 ≤ g → g + (cs.length : Int) ≤ 1000 → (rowT r g cs).length ≤ 8 * cs.length + 7 := by
  intro cs
  induction cs with
  | nil => intro g h0 h1; rw [rowT]; have := gp_le g h0 (by simpa using h1); simpa using this
  | cons c cs ih =>
    intro g h0 h1
    rw [List.length_cons] at h1
    have g7 := gp_le g h0 (by omega)
    have a := ih (g + 1) (by omega) (by omega)
    have b := ih 0 (by omega) (by omega)
    rw [rowT, List.length_cons]
    split
    · omega
    · rw [List.length_append, List.length_cons]; omega
theorem cn_le {r : S26} (lr : LR r) (c : Int) (h0 : 0 < c) (h1 : c ≤ 2 * (r.f3.length : Int)) : 65 ≤ cn r c ∧ cn r c ≤ 122 := by
  have := rdL lr ((c - 1) / 2) (by omega) (by omega)
  unfold cn L
  split <;> omega
theorem pletter (r : S26) (hr : VR r) (lr : LR r) (c : Int) (h0 : 0 < c) (h1 : c ≤ 2 * (r.f3.length : Int)) : place_letter.f r.f0 r.f1 r.f2 r.f3 r.f4 r.f5 r.f6 r.f7 r.f8 r.f9 r.f10 c = some (cn r c) := by
  have ht := hr.t
  have e1 : wrap64 (c - 1) = c - 1 := w64 (by omega) (by omega)
  have e2 : wrap64 (Int.tdiv (c - 1) 2) = (c - 1) / 2 := by rw [Int.tdiv_eq_ediv_of_nonneg (by omega)]; exact w64 (by omega) (by omega)
  have e3 : Int.tmod c 2 = c % 2 := Int.tmod_eq_emod_of_nonneg (by omega)
  unfold place_letter.f
  rw [e1, e2, e3, if_pos (by omega), if_pos (by omega)]
  have hL := rdL lr ((c - 1) / 2) (by omega) (by omega)
  unfold cn
  by_cases hc : c % 2 = 0
  · rw [if_pos hc, if_pos hc, Int.emod_eq_of_lt (by omega) (by omega)]; rfl
  · rw [if_neg hc, if_neg hc]; rfl
theorem w64two {n i : Int} (h0 : 0 ≤ n) (h1 : n ≤ 1000) (h2 : 0 ≤ n + i) (h3 : n + i ≤ 1000) : wrap64 (wrap64 n + i) = n + i := by rw [w64 (n := n) (by omega) (by omega), w64 (n := n + i) (by omega) (by omega)]
theorem ew_at (r : S26) (hr : VR r) (y : Int) (h0 : 0 ≤ y) (h1 : y < r.f2) (i : Nat) (hi : (i : Int) < r.f1) : wrap64 (wrap64 (y * r.f1) + (i : Int)) = y * r.f1 + (i : Int) := by
  obtain ⟨hw1, hw2⟩ := hr.w
  obtain ⟨ha1, ha2⟩ := area hr
  clear hr
  generalize r.f1 = a at *
  generalize r.f2 = b at *
  have m0 : 0 ≤ y * a := Int.mul_nonneg h0 (by omega)
  have m1 : (y + 1) * a = y * a + a := by rw [Int.add_mul, Int.one_mul]
  have m2 : (y + 1) * a ≤ b * a := Int.mul_le_mul_of_nonneg_right (by omega) (by omega)
  rw [Int.mul_comm b a] at m2
  exact w64two m0 (by omega) (by omega) (by omega)
theorem rowP_at (r : S26) (p : S29) (hr : VR r) (hp : VP r p) (y : Int) (h0 : 0 ≤ y) (h1 : y < r.f2) : (rowP r p y).length = r.f1.toNat ∧ ∀ i : Nat, (i : Int) < r.f1 → (0 ≤ y * r.f1 + (i : Int) ∧ y * r.f1 + (i : Int) < (p.f0.length : Int)) ∧ ∃ h : i < (rowP r p y).length, (rowP r p y)[i] = rd p.f0 (y * r.f1 + (i : Int)) := by
  have hw := hr.w
  have ha := area hr
  have hst := hp.n
  have m0 : 0 ≤ y * r.f1 := Int.mul_nonneg h0 (by omega)
  have m1 : (y + 1) * r.f1 = y * r.f1 + r.f1 := by rw [Int.add_mul, Int.one_mul]
  have m2 : (y + 1) * r.f1 ≤ r.f2 * r.f1 := Int.mul_le_mul_of_nonneg_right (by omega) (by omega)
  rw [Int.mul_comm r.f2 r.f1] at m2
  have hl : (rowP r p y).length = r.f1.toNat := by unfold rowP; rw [List.length_drop, List.length_take]; omega
  refine ⟨hl, fun i hi => ⟨by omega, by omega, ?_⟩⟩
  have hj : (y * r.f1).toNat + i < p.f0.length := by omega
  have := rd_nat p.f0 ((y * r.f1).toNat + i) hj
  rw [show (((y * r.f1).toNat + i : Nat) : Int) = y * r.f1 + (i : Int) by omega] at this
  rw [this]
  unfold rowP
  rw [List.getElem_drop, List.getElem_take]
theorem eB (n : Int) : (⟨#[n.toNat.toUInt8]⟩ : ByteArray) = B [U n] := rfl
theorem sz2 {E : ByteArray} {x : List UInt8} {n : Nat} (h : E.data.toList.length ≤ n) (hn : n ≤ 4000) (hx : x.length ≤ 8) : E.size + (B x).size ≤ 140737488355328 := by rw [zl, zl, B_l]; omega
theorem sz3 {E : ByteArray} {x : List UInt8} {n : Nat} (h : E.data.toList.length ≤ n) (hn : n ≤ 4000) (hx : x.length ≤ 8) : (E ++ B x).size + 1 ≤ 140737488355328 := by rw [zl, dl, B_l, List.length_append]; omega
theorem sz4 {E : ByteArray} {n : Nat} (h : E.data.toList.length ≤ n) (hn : n ≤ 4000) : E.size + 1 ≤ 140737488355328 := by rw [zl]; omega
theorem ln1 {E : ByteArray} {z : List UInt8} {d : Nat} (h : E.data.toList.length + 10 * (d + 1) ≤ 3000) (hz : z.length ≤ 8) : (E ++ B z).data.toList.length + 10 * d ≤ 3000 := by rw [dl, B_l, List.length_append]; omega
theorem small (g : Int) (h0 : 0 ≤ g) (h1 : g ≤ 9) : strconv_Itoa.f g = some (B (it g)) ∧ (it g).length ≤ 7 ∧ wrap64 (g + 1) = g + 1 := ⟨itoa_f g (by omega) (by omega), it_le g (by omega) (by omega), w64 (by omega) (by omega)⟩
theorem pt_l1 (r : S26) (p : S29) (hr : VR r) (lr : LR r) (hp : VP r p) (y : Int) (h0 : 0 ≤ y) (h1 : y < r.f2) (res : ByteArray) (s : List UInt8)
    (kont : ∀ F : ByteArray, F.data.toList = s → Ev (fun k => place_rows.l0 k F (y - 1) r.f0 r.f1 r.f2 r.f3 r.f4 r.f5 r.f6 r.f7 r.f8 r.f9 r.f10 p.f0 p.f1.f0 p.f1.f1 p.f2 p.f3) res) :
    ∀ (d i : Nat) (g : Int) (E : ByteArray), i + d = r.f1.toNat → 0 ≤ g → g ≤ (i : Int) → E.data.toList.length + 10 * d ≤ 3000 → s = E.data.toList ++ (rowT r g ((rowP r p y).drop i) ++ (if y > 0 then [47] else [])) →
    Ev (fun k => place_rows.l1 k E y g r.f1 (i : Int) r.f0 r.f1 r.f2 r.f3 r.f4 r.f5 r.f6 r.f7 r.f8 r.f9 r.f10 p.f0 p.f1.f0 p.f1.f1 p.f2 p.f3) res := by
  have hw := hr.w
  have ht := hr.t
  have hh := hr.h
  obtain ⟨hcl, hat⟩ := rowP_at r p hr hp y h0 h1
  intro d
  induction d with
  | zero =>
    intro i g E hi g0 g1 hb hs
    have gi := itoa_f g (by omega) (by omega)
    have gl := it_le g (by omega) (by omega)
    rw [List.drop_of_length_le (by omega), rowT] at hs
    unfold gp at hs
    have e1 : wrap64 (y - 1) = y - 1 := w64 (by omega) (by omega)
    have nl : ¬ ((i : Int) < r.f1) := by omega
    have bE : E.data.toList.length ≤ 3000 := by omega
    refine Ev.step (fun k => by rw [place_rows.l1]) ?_
    rw [e1]
    refine ite (fun h => absurd h nl) (fun _ => ?_)
    refine ite (fun hg => ?_) (fun hg => ?_)
    · rw [if_pos hg] at hs
      refine bind_now gi ?_
      refine ite (fun _ => ?_) (fun h => absurd (sz2 bE (by decide) (by omega)) h)
      refine ite (fun hy => ?_) (fun hy => ?_)
      · rw [if_pos hy] at hs
        refine ite (fun _ => ?_) (fun h => absurd (sz3 bE (by decide) (by omega)) h)
        exact kont _ (by rw [hs, dl, dl, B_l, List.append_assoc])
      · rw [if_neg hy] at hs
        exact kont _ (by rw [hs, dl, B_l, List.append_nil])
    · rw [if_neg hg] at hs
      refine ite (fun hy => ?_) (fun hy => ?_)
      · rw [if_pos hy] at hs
        refine ite (fun _ => ?_) (fun h => absurd (sz4 bE (by decide)) h)
        exact kont _ (by rw [hs, dl]; rfl)
      · rw [if_neg hy] at hs
        exact kont _ (by rw [hs]; simp)
  | succ d ih =>
    intro i g E hi g0 g1 hb hs
    have hiw : (i : Int) < r.f1 := by omega
    have g9 : g ≤ 9 := Int.le_trans g1 (by omega)
    have n1 : i + 1 + d = r.f1.toNat := by omega
    have bE := Nat.le_trans (Nat.le_add_right _ _) hb
    have hwn := wn1 i (by omega)
    obtain ⟨gi, gl, gw⟩ := small g g0 g9
    obtain ⟨⟨b0, b1⟩, hlt, hc⟩ := hat i hiw
    rw [List.drop_eq_getElem_cons hlt, rowT, hc] at hs
    have hcb := hp.c (rd p.f0 (y * r.f1 + (i : Int))) (by rw [← hc]; exact List.mem_of_mem_take (List.mem_of_mem_drop (List.getElem_mem hlt)))
    have ew := ew_at r hr y h0 h1 i hiw
    refine Ev.step (fun k => by rw [place_rows.l1]) ?_
    rw [ew, hwn]
    clear ew hwn hat hc
    generalize rd p.f0 (y * r.f1 + (i : Int)) = c at hcb hs ⊢
    refine ite (fun _ => ?_) (fun h => absurd hiw h)
    refine ite (fun _ => ?_) (fun h => absurd b0 h)
    refine ite (fun _ => ?_) (fun h => absurd b1 h)
    refine ite (fun hz => ?_) (fun hz => ?_)
    · rw [if_pos hz] at hs
      rw [gw]
      exact ih (i + 1) (g + 1) E n1 (by omega) (by omega) (Nat.le_trans (Nat.add_le_add_left (Nat.mul_le_mul_left 10 (Nat.le_succ d)) _) hb) hs
    · rw [if_neg hz] at hs
      have hc0 : 0 < c := by omega
      have pl := pletter r hr lr c hc0 hcb.2
      have cl := cn_le lr c hc0 hcb.2
      unfold gp at hs
      refine ite (fun hg => ?_) (fun hg => ?_)
      · rw [if_pos hg] at hs
        refine bind_now gi ?_
        refine ite (fun _ => ?_) (fun h => absurd (sz2 bE (by decide) (by omega)) h)
        refine bind_now pl ?_
        refine ite (fun _ => ?_) (fun h => absurd ⟨sz3 bE (by decide) (by omega), by omega, by omega⟩ h)
        rw [eB]
        refine ih (i + 1) 0 _ n1 (by omega) (by omega) ?_ ?_
        · have q := ln1 (z := it g ++ [U (cn r c)]) hb (by rw [List.length_append, List.length_cons, List.length_nil]; omega)
          rw [dl, B_l] at q
          rw [dl, dl, B_l, B_l, List.append_assoc]; exact q
        · rw [hs, dl, dl, B_l, B_l]; simp only [List.append_assoc, List.cons_append, List.nil_append]
      · rw [if_neg hg] at hs
        refine bind_now pl ?_
        refine ite (fun _ => ?_) (fun h => absurd ⟨sz4 bE (by decide), by omega, by omega⟩ h)
        rw [eB]
        refine ih (i + 1) 0 _ n1 (by omega) (by omega) (ln1 hb (by simp)) ?_
        rw [hs, dl, B_l]; simp only [List.append_assoc, List.cons_append, List.nil_append]
theorem pt_l0 (r : S26) (p : S29) (hr : VR r) (lr : LR r) (hp : VP r p) : ∀ (n : Nat) (E : ByteArray), (n : Int) ≤ r.f2 → E.data.toList.length + 100 * n ≤ 1000 →
    Ev (fun k => place_rows.l0 k E ((n : Int) - 1) r.f0 r.f1 r.f2 r.f3 r.f4 r.f5 r.f6 r.f7 r.f8 r.f9 r.f10 p.f0 p.f1.f0 p.f1.f1 p.f2 p.f3) (B (E.data.toList ++ rowsT r p n)) := by
  have hw := hr.w
  intro n
  induction n with
  | zero =>
    intro E _ hb
    refine Ev.step (fun k => by rw [place_rows.l0]) ?_
    refine ite (fun h => absurd h (by omega)) (fun _ => ?_)
    rw [rowsT, List.append_nil]
    exact now (eqB rfl)
  | succ n ih =>
    intro E hm hb
    obtain ⟨hcl, _⟩ := rowP_at r p hr hp (n : Int) (by omega) (by omega)
    have hl := rowT_le r (rowP r p (n : Int)) 0 (by omega) (by omega)
    refine Ev.step (fun k => by rw [place_rows.l0]) ?_
    rw [show ((n + 1 : Nat) : Int) - 1 = (n : Int) by omega]
    refine ite (fun _ => ?_) (fun h => absurd (by omega) h)
    refine pt_l1 r p hr lr hp (n : Int) (by omega) (by omega) _ (E.data.toList ++ (rowT r 0 (rowP r p (n : Int)) ++ (if (n : Int) > 0 then [47] else []))) (fun F hF => ?_) r.f1.toNat 0 0 E (by omega) (by omega) (by omega) (by omega) (by rw [List.drop_zero])
    have l1 : (if (n : Int) > 0 then [47] else ([] : List UInt8)).length ≤ 1 := by split <;> simp
    have e := ih F (by omega) (by rw [hF, List.length_append, List.length_append]; omega)
    rw [hF] at e
    rw [rowsT]
    simp only [List.append_assoc] at e ⊢
    exact e
theorem pt_f (r : S26) (p : S29) (hr : VR r) (lr : LR r) (hp : VP r p) : Ev (fun k => place_rows.f k r.f0 r.f1 r.f2 r.f3 r.f4 r.f5 r.f6 r.f7 r.f8 r.f9 r.f10 p.f0 p.f1.f0 p.f1.f1 p.f2 p.f3) (B (rowsT r p r.f2.toNat)) := by
  have hh := hr.h
  have e := pt_l0 r p hr lr hp r.f2.toNat ⟨#[]⟩ (by omega) (by simp; omega)
  have e1 : wrap64 (r.f2 - 1) = r.f2 - 1 := w64 (by omega) (by omega)
  rw [show ((r.f2.toNat : Nat) : Int) = r.f2 by omega] at e
  unfold place_rows.f
  rw [e1]
  exact e
end Co
end Go.Proofs.YtloadbbndnmdlaaDoor.Pure
namespace Go.Proofs.YtloadbbndnmdlaaDoor.Pure
open Go.RowKit Go.Proofs.YtloadbbndnmdlaaDoor.PPlaceChecks Go.Proofs.YtloadbbndnmdlaaDoorW.PrintWords Go.Proofs.YtloadbbndnmdlaaDoorW.PrintLast
set_option linter.unusedSimpArgs false
set_option linter.unusedVariables false
namespace Co
open Aid
def handT (r : S26) : Nat → List Int → List UInt8
  | _, [] => []
  | t, n :: ns => (if n > 0 then U (L r (t : Int)) :: it n else []) ++ handT r (t + 1) ns
def dash (x : List UInt8) : List UInt8 := if x = [] then [45] else x
theorem handT_le (r : S26) : ∀ (xs : List Int) (t : Nat), (∀ c ∈ xs, 0 ≤ c ∧ c ≤ 1000) → (handT r t xs).length ≤ 8 * xs.length := by
  intro xs
  induction xs with
  | nil => intro t _; simp [handT]
  | cons c cs ih =>
    intro t hx
    have a := ih (t + 1) (fun c hc => hx c (List.mem_cons_of_mem _ hc))
    have hc := hx c (List.mem_cons_self ..)
    have b := it_le c (by omega) (by omega)
    rw [handT, List.length_append, List.length_cons]
    split
    · rw [List.length_cons]; omega
    · simp only [List.length_nil]; omega
theorem one_it (r : S26) (t : Int) (n : Int) : B [U (L r t)] ++ B (it n) = B (U (L r t) :: it n) := ext_b (by rw [dl, B_l, B_l, B_l]; rfl)
theorem sza {n : Int} {c : UInt8} (h : (it n).length ≤ 7) : (B [c]).size + (B (it n)).size ≤ 9223372036854775807 := by rw [zl, zl, B_l, B_l]; simp only [List.length_cons, List.length_nil]; omega
theorem szb {E : ByteArray} {n : Int} {c : UInt8} {m : Nat} (hE : E.data.toList.length ≤ m) (hm : m ≤ 4000) (h : (it n).length ≤ 7) : E.size + (B (c :: it n)).size ≤ 9223372036854775807 := by rw [zl, zl, B_l, List.length_cons]; omega
theorem lnh {E : ByteArray} {n : Int} {c : UInt8} {d : Nat} (hE : E.data.toList.length + 10 * (d + 1) ≤ 1000) (h : (it n).length ≤ 7) : (E ++ B (c :: it n)).data.toList.length + 10 * d ≤ 1000 := by rw [dl, B_l, List.length_append, List.length_cons]; omega
theorem lnd {a d : Nat} (hE : a + 10 * (d + 1) ≤ 1000) : a + 10 * d ≤ 1000 := by omega
theorem ph_l0 (r : S26) (hr : VR r) (lr : LR r) (xs : List Int) (hn : xs.length = r.f3.length) (hx : ∀ c ∈ xs, 0 ≤ c ∧ c ≤ 1000) : ∀ (d i : Nat) (E : ByteArray), i + d = xs.length → E.data.toList.length + 10 * d ≤ 1000 →
    Ev (fun k => place_hand.l0 k E xs (xs.length : Int) (i : Int) r.f0 r.f1 r.f2 r.f3 r.f4 r.f5 r.f6 r.f7 r.f8 r.f9 r.f10) (B (dash (E.data.toList ++ handT r i (xs.drop i)))) := by
  have ht := hr.t
  intro d
  induction d with
  | zero =>
    intro i E hi _
    refine Ev.step (fun k => by rw [place_hand.l0]) ?_
    rw [List.drop_of_length_le (by omega), handT, List.append_nil]
    refine ite (fun h => absurd h (by omega)) (fun _ => ?_)
    rw [ByteArray.toList_eq]
    unfold dash
    refine ite (fun h => ?_) (fun h => ?_)
    · rw [if_pos h]; exact now rfl
    · rw [if_neg h]; exact now (eqB rfl)
  | succ d ih =>
    intro i E hi hb
    have hi1 : i < xs.length := by omega
    have hi2 : (i : Int) < (xs.length : Int) := by omega
    have hi3 : (i : Int) < (r.f3.length : Int) := by omega
    have n1 : i + 1 + d = xs.length := by omega
    have bE := Nat.le_trans (Nat.le_add_right _ _) hb
    have hgx := rd_nat xs i hi1
    have hwn := wn1 i (by omega)
    have hc := hx xs[i] (List.getElem_mem hi1)
    have hL := rdL lr (i : Int) (Int.natCast_nonneg _) hi3
    rw [List.drop_eq_getElem_cons hi1, handT]
    refine Ev.step (fun k => by rw [place_hand.l0]) ?_
    rw [hgx, hwn, e32 hL]
    generalize xs[i] = c at hc ⊢
    obtain ⟨c0, c1⟩ := hc
    have l7 := it_le c (by omega) (by omega)
    have ci := itoa_f c (by omega) (by omega)
    refine ite (fun _ => ?_) (fun h => absurd hi2 h)
    refine ite (fun _ => ?_) (fun h => absurd (Int.natCast_nonneg _) h)
    refine ite (fun _ => ?_) (fun h => absurd hi2 h)
    refine ite (fun h0 => ?_) (fun h0 => ?_)
    · rw [if_pos h0]
      refine ite (fun _ => ?_) (fun h => absurd hi3 h)
      refine bind_now ci ?_
      refine ite (fun _ => ?_) (fun h => absurd (sza l7) h)
      rw [show B [U ((rd_T44 r.f3 (i : Int)).f0)] ++ B (it c) = B (U (L r (i : Int)) :: it c) from one_it r (i : Int) c]
      refine ite (fun _ => ?_) (fun h => absurd (szb bE (by decide) l7) h)
      have e := ih (i + 1) _ n1 (lnh (c := U (L r (i : Int))) hb l7)
      rw [dl, B_l, List.append_assoc] at e
      exact e
    · rw [if_neg h0, List.nil_append]
      exact ih (i + 1) E n1 (lnd hb)
theorem ph_f (r : S26) (hr : VR r) (lr : LR r) (xs : List Int) (hn : xs.length = r.f3.length) (hx : ∀ c ∈ xs, 0 ≤ c ∧ c ≤ 1000) : Ev (fun k => place_hand.f k r.f0 r.f1 r.f2 r.f3 r.f4 r.f5 r.f6 r.f7 r.f8 r.f9 r.f10 xs) (B (dash (handT r 0 xs))) := by
  have ht := hr.t
  exact ph_l0 r hr lr xs hn hx xs.length 0 ⟨#[]⟩ (by omega) (by simp; omega)
end Co
end Go.Proofs.YtloadbbndnmdlaaDoor.Pure
namespace Go.Proofs.YtloadbbndnmdlaaDoor.Pure
open Go.RowKit Go.Proofs.YtloadbbndnmdlaaDoor.PPlaceChecks Go.Proofs.YtloadbbndnmdlaaDoorW.PrintWords Go.Proofs.YtloadbbndnmdlaaDoorW.PrintLast
set_option linter.unusedSimpArgs false
set_option linter.unusedVariables false
namespace Co
open Aid
theorem strB (c : Int) : strOfNums [c] = B [U c] := rfl
theorem rletter (r : S26) (hr : VR r) (lr : LR r) (c : Int) (h0 : 0 < c) (h1 : c ≤ 2 * (r.f3.length : Int)) : gamehallref1_Letter.f r.f0 r.f1 r.f2 r.f3 r.f4 r.f5 r.f6 r.f7 r.f8 r.f9 r.f10 c = some (B [U (cn r c)]) := by
  have ht := hr.t
  have e1 : wrap64 (c - 1) = c - 1 := w64 (by omega) (by omega)
  have e2 : wrap64 (Int.tdiv (c - 1) 2) = (c - 1) / 2 := by rw [Int.tdiv_eq_ediv_of_nonneg (by omega)]; exact w64 (by omega) (by omega)
  have e3 : Int.tmod c 2 = c % 2 := Int.tmod_eq_emod_of_nonneg (by omega)
  unfold gamehallref1_Letter.f
  rw [e1, e2, e3, if_pos (by omega), if_pos (by omega)]
  have hL := rdL lr ((c - 1) / 2) (by omega) (by omega)
  unfold cn
  by_cases hc : c % 2 = 0
  · rw [if_pos hc, if_pos hc, strB, Int.emod_eq_of_lt (by omega) (by omega)]; rfl
  · rw [if_neg hc, if_neg hc, strB]; rfl
def lastT (p : S29) : List UInt8 := [32] ++ (it (p.f2 + 1) ++ ([32] ++ it p.f3))
def placeT (r : S26) (p : S29) : List UInt8 := rowsT r p r.f2.toNat ++ (([32] ++ dash (handT r 0 p.f1.f0)) ++ (([32] ++ dash (handT r 0 p.f1.f1)) ++ lastT p))
theorem dash_le (x : List UInt8) : (dash x).length ≤ x.length + 1 := by unfold dash; split <;> simp_all
theorem l2_2 (r : S26) (p : S29) (hp : VP r p) (E : ByteArray) (hb : E.data.toList.length ≤ 2000) : Ev (fun k => gamehallref1_PlaceText.l2 k E 2 p.f1.f0 p.f1.f1 r.f0 r.f1 r.f2 r.f3 r.f4 r.f5 r.f6 r.f7 r.f8 r.f9 r.f10 p.f0 p.f1.f0 p.f1.f1 p.f2 p.f3) (B (E.data.toList ++ lastT p)) := by
  have t := hp.t
  obtain ⟨q0, q1⟩ := hp.q
  have e1 : wrap64 (p.f2 + 1) = p.f2 + 1 := w64 (by omega) (by omega)
  have d1 := dec_f (p.f2 + 1) (by omega) (by omega)
  have d2 := dec_f p.f3 (by omega) (by omega)
  have a1 := it_le (p.f2 + 1) (by omega) (by omega)
  have a2 := it_le p.f3 (by omega) (by omega)
  refine Ev.step (fun k => by rw [gamehallref1_PlaceText.l2]) ?_
  rw [e1]
  refine ite (fun h => absurd h (by decide)) (fun _ => ?_)
  refine ite (fun _ => ?_) (fun h => absurd (by rw [zl]; omega) h)
  refine Ev.bind d1 ?_
  refine ite (fun _ => ?_) (fun h => absurd (by simp only [zl, dl, B_l, List.length_append, List.length_cons, List.length_nil]; omega) h)
  refine ite (fun _ => ?_) (fun h => absurd (by simp only [zl, dl, B_l, List.length_append, List.length_cons, List.length_nil]; omega) h)
  refine Ev.bind d2 ?_
  refine ite (fun _ => ?_) (fun h => absurd (by simp only [zl, dl, B_l, List.length_append, List.length_cons, List.length_nil]; omega) h)
  refine now (eqB ?_)
  unfold lastT
  simp only [dl, B_l, List.append_assoc]
theorem rh_l3 (r : S26) (p : S29) (hr : VR r) (lr : LR r) (xs : List Int) (u : Int) (E : ByteArray) (hE : E.data.toList.length ≤ 1500) (hn : xs.length = r.f3.length) (hx : ∀ c ∈ xs, 0 ≤ c ∧ c ≤ 1000) (res : ByteArray)
    (s : List UInt8) (kont : Ev (fun k => gamehallref1_PlaceText.l2 k (E ++ B ([32] ++ dash s)) (wrap64 (u + 1)) p.f1.f0 p.f1.f1 r.f0 r.f1 r.f2 r.f3 r.f4 r.f5 r.f6 r.f7 r.f8 r.f9 r.f10 p.f0 p.f1.f0 p.f1.f1 p.f2 p.f3) res) : ∀ (d i : Nat) (F : ByteArray), i + d = xs.length → F.data.toList.length + 10 * d ≤ 1000 → s = F.data.toList ++ handT r i (xs.drop i) →
    Ev (fun k => gamehallref1_PlaceText.l3 k E F u xs (xs.length : Int) (i : Int) p.f1.f0 p.f1.f1 r.f0 r.f1 r.f2 r.f3 r.f4 r.f5 r.f6 r.f7 r.f8 r.f9 r.f10 p.f0 p.f1.f0 p.f1.f1 p.f2 p.f3) res := by
  have ht := hr.t
  intro d
  induction d with
  | zero =>
    intro i F hi hb hs
    refine Ev.step (fun k => by rw [gamehallref1_PlaceText.l3]) ?_
    rw [List.drop_of_length_le (by omega), handT, List.append_nil] at hs
    have bF : F.data.toList.length ≤ 1000 := by omega
    refine ite (fun h => absurd h (by omega)) (fun _ => ?_)
    rw [ByteArray.toList_eq]
    unfold dash at kont
    rw [hs] at kont
    refine ite (fun h => ?_) (fun h => ?_)
    · rw [if_pos h] at kont
      refine ite (fun _ => ?_) (fun h => absurd (by decide) h)
      refine ite (fun _ => ?_) (fun h => absurd (by rw [zl]; omega) h)
      exact kont
    · rw [if_neg h] at kont
      refine ite (fun _ => ?_) (fun h => absurd (by rw [zl]; omega) h)
      refine ite (fun _ => ?_) (fun h => absurd (by simp only [zl, dl, List.length_append, List.length_cons, List.length_nil]; omega) h)
      rw [show (⟨#[32]⟩ : ByteArray) ++ F = B ([32] ++ F.data.toList) from eqB (by rw [dl])]
      exact kont
  | succ d ih =>
    intro i F hi hb hs
    have hi1 : i < xs.length := by omega
    have hi2 : (i : Int) < (xs.length : Int) := by omega
    have hi3 : (i : Int) < (r.f3.length : Int) := by omega
    have n1 : i + 1 + d = xs.length := by omega
    have bE := Nat.le_trans (Nat.le_add_right _ _) hb
    have hgx := rd_nat xs i hi1
    have hwn := wn1 i (by omega)
    have hc := hx xs[i] (List.getElem_mem hi1)
    have hL := rdL lr (i : Int) (Int.natCast_nonneg _) hi3
    rw [List.drop_eq_getElem_cons hi1, handT] at hs
    refine Ev.step (fun k => by rw [gamehallref1_PlaceText.l3]) ?_
    rw [hgx, hwn]
    generalize xs[i] = c at hc hs ⊢
    obtain ⟨c0, c1⟩ := hc
    have l7 := it_le c (by omega) (by omega)
    have ci := dec_f c (by omega) (by omega)
    refine ite (fun _ => ?_) (fun h => absurd hi2 h)
    refine ite (fun _ => ?_) (fun h => absurd (Int.natCast_nonneg _) h)
    refine ite (fun _ => ?_) (fun h => absurd hi2 h)
    refine ite (fun h0 => ?_) (fun h0 => ?_)
    · rw [if_pos h0] at hs
      refine ite (fun _ => ?_) (fun h => absurd hi3 h)
      refine bind_now rfl ?_
      refine Ev.bind ci ?_
      rw [strB]
      refine ite (fun _ => ?_) (fun h => absurd (sza l7) h)
      rw [show B [U ((rd_T44 r.f3 (i : Int)).f0)] ++ B (it c) = B (U (L r (i : Int)) :: it c) from one_it r (i : Int) c]
      refine ite (fun _ => ?_) (fun h => absurd (szb bE (by decide) l7) h)
      refine ih (i + 1) _ n1 (lnh (c := U (L r (i : Int))) hb l7) ?_
      rw [dl, B_l, List.append_assoc]; exact hs
    · rw [if_neg h0, List.nil_append] at hs
      exact ih (i + 1) F n1 (lnd hb) hs
theorem it_ne9 : ∀ i : Fin 10, it (i.val : Int) ≠ [] := by decide +kernel
theorem it_ne (g : Int) (h0 : 0 ≤ g) (h1 : g ≤ 9) : it g ≠ [] := by
  have := it_ne9 ⟨g.toNat, by omega⟩
  simpa [Int.toNat_of_nonneg h0] using this
theorem rowT_ne (r : S26) : ∀ (cs : List Int) (g : Int), 0 ≤ g → g + (cs.length : Int) ≤ 9 → (g > 0 ∨ cs ≠ []) → rowT r g cs ≠ [] := by
  intro cs
  induction cs with
  | nil =>
    intro g h0 h1 h2
    have hg : g > 0 := h2.elim id (fun h => absurd rfl h)
    rw [rowT]; unfold gp; rw [if_pos hg]; exact it_ne g h0 (by simpa using h1)
  | cons c cs ih =>
    intro g h0 h1 _
    rw [List.length_cons] at h1
    rw [rowT]
    split
    · exact ih (g + 1) (by omega) (by omega) (Or.inl (by omega))
    · simp
theorem rsz {E : ByteArray} {x : List UInt8} {n : Nat} (h : E.data.toList.length ≤ n) (hn : n ≤ 4000) (hx : x.length ≤ 8) : E.size + (B x).size ≤ 9223372036854775807 := by rw [zl, zl, B_l]; omega
theorem rsz2 {E : ByteArray} {x y : List UInt8} {n : Nat} (h : E.data.toList.length ≤ n) (hn : n ≤ 4000) (hx : x.length ≤ 8) (hy : y.length ≤ 8) : (E ++ B x).size + (B y).size ≤ 9223372036854775807 := by rw [zl, zl, dl, B_l, B_l, List.length_append]; omega
theorem eqw {i : Nat} {w : Int} (h : i + 0 = w.toNat) (hw : 1 ≤ w) (h8 : w ≤ 8) : (i : Int) < w + 1 ∧ ¬ ((i : Int) < w) ∧ i = w.toNat ∧ (i : Int) ≤ ((9 : Nat) : Int) := by omega
theorem ltw {i d : Nat} {w : Int} (h : i + (d + 1) = w.toNat) (h8 : w ≤ 8) : (i : Int) < w ∧ (i : Int) < w + 1 ∧ i + 1 + d = w.toNat ∧ (i : Int) ≤ ((9 : Nat) : Int) := by omega
theorem small' (g : Int) (h0 : 0 ≤ g) (h1 : g ≤ 9) : Ev (fun k => gamehallref1_Dec.f k g) (B (it g)) ∧ (it g).length ≤ 7 := ⟨dec_f g (by omega) (by omega), it_le g (by omega) (by omega)⟩
end Co
end Go.Proofs.YtloadbbndnmdlaaDoor.Pure
namespace Go.Proofs.YtloadbbndnmdlaaDoor.Pure
open Go.RowKit Go.Proofs.YtloadbbndnmdlaaDoor.PPlaceChecks Go.Proofs.YtloadbbndnmdlaaDoorW.PrintWords Go.Proofs.YtloadbbndnmdlaaDoorW.PrintLast
set_option linter.unusedSimpArgs false
set_option linter.unusedVariables false
namespace Co
open Aid
theorem l8 {x : List UInt8} {c : UInt8} (h : x.length ≤ 7) : (x ++ [c]).length ≤ 8 := by rw [List.length_append, List.length_cons, List.length_nil]; omega
theorem one8 {c : UInt8} : [c].length ≤ 8 := by simp
set_option maxHeartbeats 300000 in
theorem rr_l1 (r : S26) (p : S29) (hr : VR r) (lr : LR r) (hp : VP r p) (y : Int) (h0 : 0 ≤ y) (h1 : y < r.f2) (res : ByteArray) (s : List UInt8)
    (kont : ∀ F : ByteArray, F.data.toList = s → Ev (fun k => gamehallref1_PlaceText.l0 k F (y - 1) r.f0 r.f1 r.f2 r.f3 r.f4 r.f5 r.f6 r.f7 r.f8 r.f9 r.f10 p.f0 p.f1.f0 p.f1.f1 p.f2 p.f3) res) :
    ∀ (d i : Nat) (g : Int) (E : ByteArray), i + d = r.f1.toNat → 0 ≤ g → g ≤ (i : Int) → E.data.toList.length + 10 * d ≤ 3000 → s = E.data.toList ++ rowT r g ((rowP r p y).drop i) →
    Ev (fun k => gamehallref1_PlaceText.l1 k E y g (r.f1 + 1) (i : Int) r.f0 r.f1 r.f2 r.f3 r.f4 r.f5 r.f6 r.f7 r.f8 r.f9 r.f10 p.f0 p.f1.f0 p.f1.f1 p.f2 p.f3) res := by
  have hw := hr.w
  have ht := hr.t
  have hh := hr.h
  obtain ⟨hcl, hat⟩ := rowP_at r p hr hp y h0 h1
  have fin : ∀ (F : ByteArray) (g : Int), F.data.toList = s → Ev (fun k => gamehallref1_PlaceText.l1 k F y g (r.f1 + 1) ((r.f1.toNat + 1 : Nat) : Int) r.f0 r.f1 r.f2 r.f3 r.f4 r.f5 r.f6 r.f7 r.f8 r.f9 r.f10 p.f0 p.f1.f0 p.f1.f1 p.f2 p.f3) res := by
    intro F g hF
    have e1 : wrap64 (y - 1) = y - 1 := w64 (by omega) (by omega)
    refine Ev.step (fun k => by rw [gamehallref1_PlaceText.l1]) ?_
    rw [e1]
    exact ite (fun h => absurd h (by omega)) (fun _ => kont F hF)
  intro d
  induction d with
  | zero =>
    intro i g E hi g0 g1 hb hs
    obtain ⟨a1, a2, n1, i9⟩ := eqw hi hw.1 hw.2
    have g9 : g ≤ 9 := Int.le_trans g1 i9
    obtain ⟨gi, gl⟩ := small' g g0 g9
    rw [List.drop_of_length_le (Nat.le_of_eq (hcl.trans n1.symm)), rowT] at hs
    unfold gp at hs
    have hwn := wn1 i (Nat.le_trans (Int.ofNat_le.1 i9) (by decide))
    have bE := Nat.le_trans (Nat.le_add_right _ _) hb
    refine Ev.step (fun k => by rw [gamehallref1_PlaceText.l1]) ?_
    refine ite (fun _ => ?_) (fun h => absurd a1 h)
    refine ite (fun h => absurd h a2) (fun _ => ?_)
    refine Ev.step (fun k => by rw [gamehallref1_PlaceText.j3]) ?_
    rw [hwn, n1]
    refine ite (fun h => absurd h (by decide)) (fun _ => ?_)
    refine ite (fun hg => ?_) (fun hg => ?_)
    · rw [if_pos hg] at hs
      refine Ev.bind gi ?_
      refine ite (fun _ => ?_) (fun h => absurd (rsz bE (by decide) (Nat.le_succ_of_le gl)) h)
      refine ite (fun h => absurd h (by decide)) (fun _ => ?_)
      exact fin _ 0 (by rw [hs, dl, B_l])
    · rw [if_neg hg] at hs
      refine ite (fun h => absurd h (by decide)) (fun _ => ?_)
      exact fin _ g (by rw [hs, List.append_nil])
  | succ d ih =>
    intro i g E hi g0 g1 hb hs
    obtain ⟨hiw, a1, n1, i9⟩ := ltw hi hw.2
    have g9 : g ≤ 9 := Int.le_trans g1 i9
    have bE := Nat.le_trans (Nat.le_add_right _ _) hb
    have hwn := wn1 i (Nat.le_trans (Int.ofNat_le.1 i9) (by decide))
    obtain ⟨_, _, gw⟩ := small g g0 g9
    obtain ⟨gi, gl⟩ := small' g g0 g9
    obtain ⟨⟨b0, b1⟩, hlt, hc⟩ := hat i hiw
    rw [List.drop_eq_getElem_cons hlt, rowT, hc] at hs
    have hcb := hp.c (rd p.f0 (y * r.f1 + (i : Int))) (by rw [← hc]; exact List.mem_of_mem_take (List.mem_of_mem_drop (List.getElem_mem hlt)))
    have ew := ew_at r hr y h0 h1 i hiw
    refine Ev.step (fun k => by rw [gamehallref1_PlaceText.l1]) ?_
    rw [ew]
    clear ew hat hc
    generalize rd p.f0 (y * r.f1 + (i : Int)) = c at hcb hs ⊢
    refine ite (fun _ => ?_) (fun h => absurd a1 h)
    refine ite (fun _ => ?_) (fun h => absurd hiw h)
    refine ite (fun _ => ?_) (fun h => absurd b0 h)
    refine ite (fun _ => ?_) (fun h => absurd b1 h)
    refine Ev.step (fun k => by rw [gamehallref1_PlaceText.j3]) ?_
    rw [hwn]
    refine ite (fun hz => ?_) (fun hz => ?_)
    · rw [if_pos hz] at hs
      rw [gw]
      exact ih (i + 1) (g + 1) E n1 (Int.le_trans g0 (Int.le_add_one (Int.le_refl _))) (by rw [Int.natCast_add]; exact Int.add_le_add_right g1 1) (Nat.le_trans (Nat.add_le_add_left (Nat.mul_le_mul_left 10 (Nat.le_succ d)) _) hb) hs
    · rw [if_neg hz] at hs
      have hc0 : 0 < c := Int.lt_iff_le_and_ne.2 ⟨hcb.1, fun h => hz h.symm⟩
      have pl := rletter r hr lr c hc0 hcb.2
      unfold gp at hs
      refine ite (fun hg => ?_) (fun hg => ?_)
      · rw [if_pos hg] at hs
        refine Ev.bind gi ?_
        refine ite (fun _ => ?_) (fun h => absurd (rsz bE (by decide) (Nat.le_succ_of_le gl)) h)
        refine ite (fun _ => ?_) (fun h => absurd hc0 h)
        refine bind_now pl ?_
        refine ite (fun _ => ?_) (fun h => absurd (rsz2 bE (by decide) (Nat.le_succ_of_le gl) one8) h)
        refine ih (i + 1) 0 _ n1 (Int.le_refl 0) (Int.natCast_nonneg _) ?_ ?_
        · have q := ln1 (z := it g ++ [U (cn r c)]) hb (l8 gl)
          rw [dl, B_l] at q
          rw [dl, dl, B_l, B_l, List.append_assoc]; exact q
        · rw [hs, dl, dl, B_l, B_l]; simp only [List.append_assoc, List.cons_append, List.nil_append]
      · rw [if_neg hg] at hs
        have gz : g = 0 := Int.le_antisymm (Int.not_lt.1 hg) g0
        refine ite (fun _ => ?_) (fun h => absurd hc0 h)
        refine bind_now pl ?_
        refine ite (fun _ => ?_) (fun h => absurd (rsz bE (by decide) one8) h)
        rw [gz]
        refine ih (i + 1) 0 _ n1 (Int.le_refl 0) (Int.natCast_nonneg _) (ln1 hb one8) ?_
        rw [hs, dl, B_l]; simp only [List.append_assoc, List.cons_append, List.nil_append]
end Co
end Go.Proofs.YtloadbbndnmdlaaDoor.Pure
namespace Go.Proofs.YtloadbbndnmdlaaDoor.Pure
open Go.RowKit Go.Proofs.YtloadbbndnmdlaaDoor.PPlaceChecks Go.Proofs.YtloadbbndnmdlaaDoorW.PrintWords Go.Proofs.YtloadbbndnmdlaaDoorW.PrintLast
set_option linter.unusedSimpArgs false
set_option linter.unusedVariables false
namespace Co
open Aid
def sp (n : Nat) (E : List UInt8) : List UInt8 := if n = 0 ∨ E = [] then [] else [47]
theorem sp_le (n : Nat) (E : List UInt8) : (sp n E).length ≤ 1 := by unfold sp; split <;> simp
theorem sp_ne (n : Nat) (E : List UInt8) (h : E ≠ []) : sp n E = if (n : Int) > 0 then [47] else [] := by
  unfold sp
  by_cases h0 : n = 0
  · rw [if_pos (.inl h0), if_neg (by omega)]
  · rw [if_neg (fun hh => hh.elim h0 h), if_pos (by omega)]
theorem len_g {E G : ByteArray} {x : List UInt8} {n : Nat} (hG : G.data.toList = E.data.toList ++ x) (hx : x.length ≤ 1) (hb : E.data.toList.length + 110 * (n + 1) ≤ 1000) : G.data.toList.length + 109 + 110 * n ≤ 1000 := by rw [hG, List.length_append]; omega
theorem len_f {G F : ByteArray} {x : List UInt8} {n : Nat} (hF : F.data.toList = G.data.toList ++ x) (hx : x.length ≤ 80) (hb : G.data.toList.length + 109 + 110 * n ≤ 1000) : F.data.toList.length + 110 * n ≤ 1000 := by rw [hF, List.length_append]; omega
theorem len_3 {G : ByteArray} {n d : Nat} (hb : G.data.toList.length + 109 + 110 * n ≤ 1000) (hd : d ≤ 8) : G.data.toList.length + 10 * d ≤ 3000 := by omega
theorem rr_l0 (r : S26) (p : S29) (hr : VR r) (lr : LR r) (hp : VP r p) (res : ByteArray) (s : List UInt8)
    (kont : ∀ F : ByteArray, F.data.toList = s → Ev (fun k => gamehallref1_PlaceText.l2 k F 0 p.f1.f0 p.f1.f1 r.f0 r.f1 r.f2 r.f3 r.f4 r.f5 r.f6 r.f7 r.f8 r.f9 r.f10 p.f0 p.f1.f0 p.f1.f1 p.f2 p.f3) res) :
    ∀ (n : Nat) (E : ByteArray), (n : Int) ≤ r.f2 → E.data.toList.length + 110 * n ≤ 1000 → s = E.data.toList ++ (sp n E.data.toList ++ rowsT r p n) →
    Ev (fun k => gamehallref1_PlaceText.l0 k E ((n : Int) - 1) r.f0 r.f1 r.f2 r.f3 r.f4 r.f5 r.f6 r.f7 r.f8 r.f9 r.f10 p.f0 p.f1.f0 p.f1.f1 p.f2 p.f3) res := by
  have hw := hr.w
  intro n
  induction n with
  | zero =>
    intro E _ hb hs
    refine Ev.step (fun k => by rw [gamehallref1_PlaceText.l0]) ?_
    refine ite (fun h => absurd h (by decide)) (fun _ => ?_)
    refine kont E ?_
    rw [hs, sp, if_pos (.inl rfl), rowsT, List.append_nil, List.append_nil]
  | succ n ih =>
    intro E hm hb hs
    obtain ⟨hcl, _⟩ := rowP_at r p hr hp (n : Int) (by omega) (by omega)
    have hw8 : r.f1.toNat ≤ 8 := by omega
    have hne := rowT_ne r (rowP r p (n : Int)) 0 (by omega) (by rw [hcl]; omega) (Or.inr (by intro h; rw [h] at hcl; simp at hcl; omega))
    have hl := rowT_le r (rowP r p (n : Int)) 0 (by omega) (by rw [hcl]; omega)
    have hl80 : (rowT r 0 (rowP r p (n : Int))).length ≤ 80 := by rw [hcl] at hl; omega
    have go : ∀ G : ByteArray, G.data.toList = E.data.toList ++ sp (n + 1) E.data.toList → Ev (fun k => gamehallref1_PlaceText.j1 k G (n : Int) r.f0 r.f1 r.f2 r.f3 r.f4 r.f5 r.f6 r.f7 r.f8 r.f9 r.f10 p.f0 p.f1.f0 p.f1.f1 p.f2 p.f3) res := by
      intro G hG
      have hGl := len_g hG (sp_le _ _) hb
      refine Ev.step (fun k => by rw [gamehallref1_PlaceText.j1]) ?_
      rw [w64 (n := r.f1 + 1) (by omega) (by omega)]
      refine rr_l1 r p hr lr hp (n : Int) (Int.natCast_nonneg _) (by omega) res (G.data.toList ++ rowT r 0 (rowP r p (n : Int))) (fun F hF => ?_) r.f1.toNat 0 0 G (Nat.zero_add _) (Int.le_refl 0) (Int.le_refl 0) (len_3 hGl hw8) (by rw [List.drop_zero])
      refine ih F (by omega) (len_f hF hl80 hGl) ?_
      have hF0 : F.data.toList ≠ [] := by rw [hF]; intro h; exact hne (List.append_eq_nil_iff.1 h).2
      rw [sp_ne n _ hF0, hs, hF, hG, rowsT]
      simp only [List.append_assoc]
    refine Ev.step (fun k => by rw [gamehallref1_PlaceText.l0]) ?_
    rw [show ((n + 1 : Nat) : Int) - 1 = (n : Int) by omega]
    refine ite (fun _ => ?_) (fun h => absurd (Int.natCast_nonneg _) h)
    rw [ByteArray.toList_eq]
    refine ite (fun h => ?_) (fun h => ?_)
    · exact go E (by rw [sp, if_pos (.inr h), List.append_nil])
    · refine ite (fun _ => ?_) (fun hh => absurd (by rw [zl]; omega) hh)
      refine go _ ?_
      rw [dl, sp, if_neg (fun hh => hh.elim (by omega) h)]
theorem len_r {n : Nat} (h : n ≤ 8) : 0 + 110 * n ≤ 1000 := by omega
theorem rowsT_le (r : S26) (p : S29) (hr : VR r) (hp : VP r p) : ∀ n : Nat, (n : Int) ≤ r.f2 → (rowsT r p n).length ≤ 90 * n := by
  have hw := hr.w
  intro n
  induction n with
  | zero => intro _; simp [rowsT]
  | succ n ih =>
    intro hm
    have a := ih (by omega)
    obtain ⟨hcl, _⟩ := rowP_at r p hr hp (n : Int) (by omega) (by omega)
    have hl := rowT_le r (rowP r p (n : Int)) 0 (by omega) (by rw [hcl]; omega)
    have hl80 : (rowT r 0 (rowP r p (n : Int))).length ≤ 80 := by rw [hcl] at hl; omega
    have l1 : (if (n : Int) > 0 then [47] else ([] : List UInt8)).length ≤ 1 := by split <;> simp
    rw [rowsT, List.length_append, List.length_append]
    omega
theorem len_h {F : ByteArray} {s x : List UInt8} {t n : Nat} (hF : F.data.toList = s) (hs : s.length ≤ n) (hx : x.length ≤ 8 * t) (ht : t ≤ 6) (hn : n ≤ 1300) : (F ++ B ([32] ++ dash x)).data.toList.length ≤ n + 60 ∧ F.data.toList.length ≤ 1500 := by
  have := dash_le x
  rw [dl, B_l, List.length_append, List.length_append, hF]; simp only [List.length_cons, List.length_nil]; omega
theorem len_z {t : Nat} (ht : t ≤ 6) : (⟨#[]⟩ : ByteArray).data.toList.length + 10 * t ≤ 1000 := by simp; omega
theorem ref_text (r : S26) (p : S29) (hr : VR r) (lr : LR r) (hp : VP r p) : Ev (fun k => gamehallref1_PlaceText.f k r.f0 r.f1 r.f2 r.f3 r.f4 r.f5 r.f6 r.f7 r.f8 r.f9 r.f10 p.f0 p.f1.f0 p.f1.f1 p.f2 p.f3) (B (placeT r p)) := by
  have hh := hr.h
  have ht := hr.t
  have hl := rowsT_le r p hr hp r.f2.toNat (by omega)
  have hl8 : r.f2.toNat ≤ 8 := by omega
  have hl7 : (rowsT r p r.f2.toNat).length ≤ 720 := by omega
  have a0 := handT_le r p.f1.f0 0 hp.b0
  have a1 := handT_le r p.f1.f1 0 hp.b1
  have e2 : (r.f2.toNat : Int) = r.f2 := by omega
  unfold gamehallref1_PlaceText.f
  rw [w64 (n := r.f2 - 1) (by omega) (by omega)]
  have e0 := rr_l0 r p hr lr hp (B (placeT r p)) (rowsT r p r.f2.toNat)
  refine (by rw [e2]; exact fun h => h : Ev (fun k => gamehallref1_PlaceText.l0 k ⟨#[]⟩ ((r.f2.toNat : Int) - 1) r.f0 r.f1 r.f2 r.f3 r.f4 r.f5 r.f6 r.f7 r.f8 r.f9 r.f10 p.f0 p.f1.f0 p.f1.f1 p.f2 p.f3) (B (placeT r p)) → Ev (fun k => gamehallref1_PlaceText.l0 k ⟨#[]⟩ (r.f2 - 1) r.f0 r.f1 r.f2 r.f3 r.f4 r.f5 r.f6 r.f7 r.f8 r.f9 r.f10 p.f0 p.f1.f0 p.f1.f1 p.f2 p.f3) (B (placeT r p))) (e0 (fun F hF => ?_) r.f2.toNat ⟨#[]⟩ (by omega) (len_r hl8) (by rw [sp, if_pos (.inr rfl)]; rfl))
  have c0 := len_h hF hl7 a0 (by rw [hp.h0]; exact ht.2) (by decide)
  refine Ev.step (fun k => by rw [gamehallref1_PlaceText.l2]) ?_
  refine ite (fun _ => ?_) (fun h => absurd (by decide) h)
  refine ite (fun _ => ?_) (fun h => absurd (by decide) h)
  refine ite (fun _ => ?_) (fun h => absurd rfl h)
  refine Ev.step (fun k => by rw [gamehallref1_PlaceText.j5]) ?_
  refine rh_l3 r p hr lr p.f1.f0 0 F c0.2 hp.h0 hp.b0 _ (handT r 0 p.f1.f0) ?_ p.f1.f0.length 0 ⟨#[]⟩ (Nat.zero_add _) (len_z (by rw [hp.h0]; exact ht.2)) (by rw [List.drop_zero]; rfl)
  generalize hE : F ++ B ([32] ++ dash (handT r 0 p.f1.f0)) = E
  have hE1 : E.data.toList = rowsT r p r.f2.toNat ++ ([32] ++ dash (handT r 0 p.f1.f0)) := by rw [← hE, dl, B_l, hF]
  have hE2 : (rowsT r p r.f2.toNat ++ ([32] ++ dash (handT r 0 p.f1.f0))).length ≤ 780 := by rw [← hE1, ← hE]; exact c0.1
  have c1 := len_h hE1 hE2 a1 (by rw [hp.h1]; exact ht.2) (by decide)
  rw [show wrap64 (0 + 1) = 1 by decide +kernel]
  refine Ev.step (fun k => by rw [gamehallref1_PlaceText.l2]) ?_
  refine ite (fun _ => ?_) (fun h => absurd (by decide) h)
  refine ite (fun _ => ?_) (fun h => absurd (by decide) h)
  refine ite (fun h => absurd h (by decide)) (fun _ => ?_)
  refine Ev.step (fun k => by rw [gamehallref1_PlaceText.j5]) ?_
  refine rh_l3 r p hr lr p.f1.f1 1 E c1.2 hp.h1 hp.b1 _ (handT r 0 p.f1.f1) ?_ p.f1.f1.length 0 ⟨#[]⟩ (Nat.zero_add _) (len_z (by rw [hp.h1]; exact ht.2)) (by rw [List.drop_zero]; rfl)
  rw [show wrap64 (1 + 1) = 2 by decide +kernel]
  refine ev_eq (l2_2 r p hp _ (by have := c1.1; omega)) ?_
  rw [dl, B_l, hE1]
  unfold placeT
  simp only [List.append_assoc]
/-! the program's text -/
theorem join5 (a b c d e : List UInt8) : Lib.join [a, b, c, d, e] [32] = a ++ (([32] ++ b) ++ (([32] ++ c) ++ ([32] ++ (d ++ ([32] ++ e))))) := by simp [Lib.join, List.intercalate]
theorem len_all {a b c d e : List UInt8} (ha : a.length ≤ 720) (hb : b.length ≤ 60) (hc : c.length ≤ 60) (hd : d.length ≤ 7) (he : e.length ≤ 7) : (a ++ (([32] ++ b) ++ (([32] ++ c) ++ ([32] ++ (d ++ ([32] ++ e)))))).length ≤ 140737488355328 := by
  simp only [List.length_append, List.length_cons, List.length_nil]; omega
theorem dash60 {x : List UInt8} {t : Nat} (hx : x.length ≤ 8 * t) (ht : t ≤ 6) : (dash x).length ≤ 60 := by have := dash_le x; omega
theorem text_f (r : S26) (p : S29) (hr : VR r) (lr : LR r) (hp : VP r p) (hc : Ev (fun k => place_Check.f k r.f0 r.f1 r.f2 r.f3 r.f4 r.f5 r.f6 r.f7 r.f8 r.f9 r.f10 p.f0 p.f1.f0 p.f1.f1 p.f2 p.f3) 0) : Ev (fun k => place_Text.f k r.f0 r.f1 r.f2 r.f3 r.f4 r.f5 r.f6 r.f7 r.f8 r.f9 r.f10 p.f0 p.f1.f0 p.f1.f1 p.f2 p.f3) (B (placeT r p), 0) := by
  have hh := hr.h
  have ht := hr.t
  have tt := hp.t
  obtain ⟨q0, q1⟩ := hp.q
  have hl := rowsT_le r p hr hp r.f2.toNat (by omega)
  have hl7 : (rowsT r p r.f2.toNat).length ≤ 720 := by omega
  have a0 := dash60 (handT_le r p.f1.f0 0 hp.b0) (by rw [hp.h0]; exact ht.2)
  have a1 := dash60 (handT_le r p.f1.f1 0 hp.b1) (by rw [hp.h1]; exact ht.2)
  have e1 : wrap64 (p.f2 + 1) = p.f2 + 1 := w64 (by omega) (by omega)
  have d1 := itoa_f (p.f2 + 1) (by omega) (by omega)
  have d2 := itoa_f p.f3 (by omega) (by omega)
  have b1 := it_le (p.f2 + 1) (by omega) (by omega)
  have b2 := it_le p.f3 (by omega) (by omega)
  have lj := len_all hl7 a0 a1 b1 b2
  have jo : strings_Join.f [B (rowsT r p r.f2.toNat), B (dash (handT r 0 p.f1.f0)), B (dash (handT r 0 p.f1.f1)), B (it (p.f2 + 1)), B (it p.f3)] ⟨#[32]⟩ = some (B (placeT r p)) := by
    unfold strings_Join.f
    simp only [List.map_cons, List.map_nil, B_l]
    rw [join5, if_pos ⟨by simp, lj⟩]
    rfl
  unfold place_Text.f
  rw [e1]
  refine Ev.bind hc ?_
  refine ite (fun _ => ?_) (fun h => absurd rfl h)
  refine Ev.bind (pt_f r p hr lr hp) ?_
  refine Ev.bind (ph_f r hr lr p.f1.f0 hp.h0 hp.b0) ?_
  refine Ev.bind (ph_f r hr lr p.f1.f1 hp.h1 hp.b1) ?_
  refine bind_now d1 ?_
  refine bind_now d2 ?_
  exact bind_now jo (now rfl)
theorem text_no (r : S26) (p : S29) (e : Int) (he : e ≠ 0) (hc : Ev (fun k => place_Check.f k r.f0 r.f1 r.f2 r.f3 r.f4 r.f5 r.f6 r.f7 r.f8 r.f9 r.f10 p.f0 p.f1.f0 p.f1.f1 p.f2 p.f3) e) : Ev (fun k => place_Text.f k r.f0 r.f1 r.f2 r.f3 r.f4 r.f5 r.f6 r.f7 r.f8 r.f9 r.f10 p.f0 p.f1.f0 p.f1.f1 p.f2 p.f3) ((⟨#[]⟩ : ByteArray), e) := by
  unfold place_Text.f
  refine Ev.bind hc ?_
  exact ite (fun h => absurd h he) (fun _ => now rfl)
end Co
end Go.Proofs.YtloadbbndnmdlaaDoor.Pure
namespace Go.Proofs.YtloadbbndnmdlaaDoor.Pure
open Go.RowKit Go.Proofs.YtloadbbndnmdlaaDoor.PPlaceChecks Go.Proofs.YtloadbbndnmdlaaDoorW.PrintWords Go.Proofs.YtloadbbndnmdlaaDoorW.PrintLast
set_option linter.unusedSimpArgs false
set_option linter.unusedVariables false
namespace Co
open Aid
def HD (r : S26) : List Int := r.f3.map (·.f1)
theorem hd_drop (r : S26) (i : Nat) (h : i < r.f3.length) (a : List Int) (e : HD r = a ++ (r.f3.drop i).map (·.f1)) : HD r = (a ++ [(rd_T44 r.f3 (i : Int)).f1]) ++ (r.f3.drop (i + 1)).map (·.f1) := by
  rw [e, List.drop_eq_getElem_cons h, rdP r.f3 i h, List.map_cons, List.append_assoc]; rfl
theorem hd_end (r : S26) (i : Nat) (h : i + 0 = r.f3.length) (a : List Int) (e : HD r = a ++ (r.f3.drop i).map (·.f1)) : a = HD r := by
  rw [e, List.drop_of_length_le (by omega), List.map_nil, List.append_nil]
theorem fr_l1_0 (r : S26) (hr : VR r) (c b : List Int) (res : List Int × List Int × List Int × Int × Int) (kont : Ev (fun k => place_Fresh.l0 k (wrap64 (0 + 1)) r.f0 r.f1 r.f2 r.f3 r.f4 r.f5 r.f6 r.f7 r.f8 r.f9 r.f10 c (HD r) b 0 0) res) :
    ∀ (d i : Nat) (a : List Int), i + d = r.f3.length → a.length ≤ i → HD r = a ++ (r.f3.drop i).map (·.f1) → Ev (fun k => place_Fresh.l1 k 0 0 r.f3 (r.f3.length : Int) (i : Int) r.f0 r.f1 r.f2 r.f3 r.f4 r.f5 r.f6 r.f7 r.f8 r.f9 r.f10 c a b 0 0) res := by
  have ht := hr.t
  intro d
  induction d with
  | zero =>
    intro i a hi ha he
    obtain rfl := hd_end r i hi a he
    refine Ev.step (fun k => by rw [place_Fresh.l1]) ?_
    exact ite (fun h => absurd h (by omega)) (fun _ => kont)
  | succ d ih =>
    intro i a hi ha he
    have hi1 : i < r.f3.length := by omega
    have hi2 : (i : Int) < (r.f3.length : Int) := by omega
    have n1 : i + 1 + d = r.f3.length := by omega
    have hwn := wn1 i (by omega)
    have la : a.length < 17592186044416 := by omega
    refine Ev.step (fun k => by rw [place_Fresh.l1]) ?_
    rw [hwn]
    refine ite (fun _ => ?_) (fun h => absurd hi2 h)
    refine ite (fun _ => ?_) (fun h => absurd (Int.natCast_nonneg _) h)
    refine ite (fun _ => ?_) (fun h => absurd hi2 h)
    refine ite (fun _ => ?_) (fun h => absurd (by decide) h)
    refine ite (fun _ => ?_) (fun h => absurd (by decide) h)
    refine ite (fun _ => ?_) (fun h => absurd rfl h)
    refine ite (fun _ => ?_) (fun h => absurd la h)
    exact ih (i + 1) _ n1 (by rw [List.length_append, List.length_cons, List.length_nil]; omega) (hd_drop r i hi1 a he)
theorem fr_l1_1 (r : S26) (hr : VR r) (c b : List Int) (res : List Int × List Int × List Int × Int × Int) (kont : Ev (fun k => place_Fresh.l0 k (wrap64 (1 + 1)) r.f0 r.f1 r.f2 r.f3 r.f4 r.f5 r.f6 r.f7 r.f8 r.f9 r.f10 c b (HD r) 0 0) res) :
    ∀ (d i : Nat) (a : List Int), i + d = r.f3.length → a.length ≤ i → HD r = a ++ (r.f3.drop i).map (·.f1) → Ev (fun k => place_Fresh.l1 k 1 1 r.f3 (r.f3.length : Int) (i : Int) r.f0 r.f1 r.f2 r.f3 r.f4 r.f5 r.f6 r.f7 r.f8 r.f9 r.f10 c b a 0 0) res := by
  have ht := hr.t
  intro d
  induction d with
  | zero =>
    intro i a hi ha he
    obtain rfl := hd_end r i hi a he
    refine Ev.step (fun k => by rw [place_Fresh.l1]) ?_
    exact ite (fun h => absurd h (by omega)) (fun _ => kont)
  | succ d ih =>
    intro i a hi ha he
    have hi1 : i < r.f3.length := by omega
    have hi2 : (i : Int) < (r.f3.length : Int) := by omega
    have n1 : i + 1 + d = r.f3.length := by omega
    have hwn := wn1 i (by omega)
    have la : a.length < 17592186044416 := by omega
    refine Ev.step (fun k => by rw [place_Fresh.l1]) ?_
    rw [hwn]
    refine ite (fun _ => ?_) (fun h => absurd hi2 h)
    refine ite (fun _ => ?_) (fun h => absurd (Int.natCast_nonneg _) h)
    refine ite (fun _ => ?_) (fun h => absurd hi2 h)
    refine ite (fun _ => ?_) (fun h => absurd (by decide) h)
    refine ite (fun _ => ?_) (fun h => absurd (by decide) h)
    refine ite (fun h => absurd h (by decide)) (fun _ => ?_)
    refine ite (fun _ => ?_) (fun h => absurd la h)
    exact ih (i + 1) _ n1 (by rw [List.length_append, List.length_cons, List.length_nil]; omega) (hd_drop r i hi1 a he)
theorem fr_f (r : S26) (hr : VR r) : Ev (fun k => place_Fresh.f k r.f0 r.f1 r.f2 r.f3 r.f4 r.f5 r.f6 r.f7 r.f8 r.f9 r.f10) (r.f4, HD r, HD r, 0, 0) := by
  have ht := hr.t
  have ha := area hr
  have hs := hr.st.1
  have hcl : slices_Clone_int_int.f r.f4 = some r.f4 := by
    unfold slices_Clone_int_int.f
    show (if ([] : List Int).length + r.f4.length < 17592186044416 then some ([] ++ r.f4) else none) = some r.f4
    rw [if_pos (by simp; omega), List.nil_append]
  unfold place_Fresh.f
  refine bind_now hcl ?_
  refine Ev.step (fun k => by rw [place_Fresh.l0]) ?_
  refine ite (fun _ => ?_) (fun h => absurd (by decide) h)
  refine fr_l1_0 r hr r.f4 [] _ ?_ r.f3.length 0 [] (Nat.zero_add _) (Nat.le_refl 0) (by rw [List.drop_zero]; rfl)
  rw [show wrap64 (0 + 1) = 1 by decide +kernel]
  refine Ev.step (fun k => by rw [place_Fresh.l0]) ?_
  refine ite (fun _ => ?_) (fun h => absurd (by decide) h)
  refine fr_l1_1 r hr r.f4 (HD r) _ ?_ r.f3.length 0 [] (Nat.zero_add _) (Nat.le_refl 0) (by rw [List.drop_zero]; rfl)
  rw [show wrap64 (1 + 1) = 2 by decide +kernel]
  refine Ev.step (fun k => by rw [place_Fresh.l0]) ?_
  exact ite (fun h => absurd h (by decide)) (fun _ => now rfl)
theorem rb_l1_0 (r : S26) (hr : VR r) (c b : List Int) (res : List Int × List Int × List Int × Int × Int) (kont : Ev (fun k => gamehallref1_Begin.l0 k (wrap64 (0 + 1)) r.f0 r.f1 r.f2 r.f3 r.f4 r.f5 r.f6 r.f7 r.f8 r.f9 r.f10 c (HD r) b 0 0) res) :
    ∀ (d i : Nat) (a : List Int), i + d = r.f3.length → a.length ≤ i → HD r = a ++ (r.f3.drop i).map (·.f1) → Ev (fun k => gamehallref1_Begin.l1 k 0 0 r.f3 (r.f3.length : Int) (i : Int) r.f0 r.f1 r.f2 r.f3 r.f4 r.f5 r.f6 r.f7 r.f8 r.f9 r.f10 c a b 0 0) res := by
  have ht := hr.t
  intro d
  induction d with
  | zero =>
    intro i a hi ha he
    obtain rfl := hd_end r i hi a he
    refine Ev.step (fun k => by rw [gamehallref1_Begin.l1]) ?_
    exact ite (fun h => absurd h (by omega)) (fun _ => kont)
  | succ d ih =>
    intro i a hi ha he
    have hi1 : i < r.f3.length := by omega
    have hi2 : (i : Int) < (r.f3.length : Int) := by omega
    have n1 : i + 1 + d = r.f3.length := by omega
    have hwn := wn1 i (by omega)
    have la : a.length < 17592186044416 := by omega
    refine Ev.step (fun k => by rw [gamehallref1_Begin.l1]) ?_
    rw [hwn]
    refine ite (fun _ => ?_) (fun h => absurd hi2 h)
    refine ite (fun _ => ?_) (fun h => absurd (Int.natCast_nonneg _) h)
    refine ite (fun _ => ?_) (fun h => absurd hi2 h)
    refine ite (fun _ => ?_) (fun h => absurd (by decide) h)
    refine ite (fun _ => ?_) (fun h => absurd (by decide) h)
    refine ite (fun _ => ?_) (fun h => absurd rfl h)
    refine ite (fun _ => ?_) (fun h => absurd la h)
    exact ih (i + 1) _ n1 (by rw [List.length_append, List.length_cons, List.length_nil]; omega) (hd_drop r i hi1 a he)
theorem rb_l1_1 (r : S26) (hr : VR r) (c b : List Int) (res : List Int × List Int × List Int × Int × Int) (kont : Ev (fun k => gamehallref1_Begin.l0 k (wrap64 (1 + 1)) r.f0 r.f1 r.f2 r.f3 r.f4 r.f5 r.f6 r.f7 r.f8 r.f9 r.f10 c b (HD r) 0 0) res) :
    ∀ (d i : Nat) (a : List Int), i + d = r.f3.length → a.length ≤ i → HD r = a ++ (r.f3.drop i).map (·.f1) → Ev (fun k => gamehallref1_Begin.l1 k 1 1 r.f3 (r.f3.length : Int) (i : Int) r.f0 r.f1 r.f2 r.f3 r.f4 r.f5 r.f6 r.f7 r.f8 r.f9 r.f10 c b a 0 0) res := by
  have ht := hr.t
  intro d
  induction d with
  | zero =>
    intro i a hi ha he
    obtain rfl := hd_end r i hi a he
    refine Ev.step (fun k => by rw [gamehallref1_Begin.l1]) ?_
    exact ite (fun h => absurd h (by omega)) (fun _ => kont)
  | succ d ih =>
    intro i a hi ha he
    have hi1 : i < r.f3.length := by omega
    have hi2 : (i : Int) < (r.f3.length : Int) := by omega
    have n1 : i + 1 + d = r.f3.length := by omega
    have hwn := wn1 i (by omega)
    have la : a.length < 17592186044416 := by omega
    refine Ev.step (fun k => by rw [gamehallref1_Begin.l1]) ?_
    rw [hwn]
    refine ite (fun _ => ?_) (fun h => absurd hi2 h)
    refine ite (fun _ => ?_) (fun h => absurd (Int.natCast_nonneg _) h)
    refine ite (fun _ => ?_) (fun h => absurd hi2 h)
    refine ite (fun _ => ?_) (fun h => absurd (by decide) h)
    refine ite (fun _ => ?_) (fun h => absurd (by decide) h)
    refine ite (fun h => absurd h (by decide)) (fun _ => ?_)
    refine ite (fun _ => ?_) (fun h => absurd la h)
    exact ih (i + 1) _ n1 (by rw [List.length_append, List.length_cons, List.length_nil]; omega) (hd_drop r i hi1 a he)
theorem rb_f (r : S26) (hr : VR r) : Ev (fun k => gamehallref1_Begin.f k r.f0 r.f1 r.f2 r.f3 r.f4 r.f5 r.f6 r.f7 r.f8 r.f9 r.f10) (r.f4, HD r, HD r, 0, 0) := by
  have ht := hr.t
  have ha := area hr
  have hs := hr.st.1
  unfold gamehallref1_Begin.f
  refine bind_now (a := []) rfl ?_
  refine ite (fun _ => ?_) (fun h => absurd (by simp; omega) h)
  rw [List.nil_append]
  refine Ev.step (fun k => by rw [gamehallref1_Begin.l0]) ?_
  refine ite (fun _ => ?_) (fun h => absurd (by decide) h)
  refine rb_l1_0 r hr r.f4 [] _ ?_ r.f3.length 0 [] (Nat.zero_add _) (Nat.le_refl 0) (by rw [List.drop_zero]; rfl)
  rw [show wrap64 (0 + 1) = 1 by decide +kernel]
  refine Ev.step (fun k => by rw [gamehallref1_Begin.l0]) ?_
  refine ite (fun _ => ?_) (fun h => absurd (by decide) h)
  refine rb_l1_1 r hr r.f4 (HD r) _ ?_ r.f3.length 0 [] (Nat.zero_add _) (Nat.le_refl 0) (by rw [List.drop_zero]; rfl)
  rw [show wrap64 (1 + 1) = 2 by decide +kernel]
  refine Ev.step (fun k => by rw [gamehallref1_Begin.l0]) ?_
  exact ite (fun h => absurd h (by decide)) (fun _ => now rfl)
theorem begin_f (r : S26) (hr : VR r) (hc : Ev (fun k => rules_Check.f k r.f0 r.f1 r.f2 r.f3 r.f4 r.f5 r.f6 r.f7 r.f8 r.f9 r.f10) 0) : Ev (fun k => place_Begin.f k r.f0 r.f1 r.f2 r.f3 r.f4 r.f5 r.f6 r.f7 r.f8 r.f9 r.f10) (r.f4, HD r, HD r, 0, 0, 0) := by
  unfold place_Begin.f
  refine Ev.bind hc ?_
  refine ite (fun _ => ?_) (fun h => absurd rfl h)
  exact Ev.bind (fr_f r hr) (now rfl)
theorem begin_no (r : S26) (e : Int) (he : e ≠ 0) (hc : Ev (fun k => rules_Check.f k r.f0 r.f1 r.f2 r.f3 r.f4 r.f5 r.f6 r.f7 r.f8 r.f9 r.f10) e) : Ev (fun k => place_Begin.f k r.f0 r.f1 r.f2 r.f3 r.f4 r.f5 r.f6 r.f7 r.f8 r.f9 r.f10) ([], [], [], 0, 0, e) := by
  unfold place_Begin.f
  refine Ev.bind hc ?_
  exact ite (fun h => absurd h he) (fun _ => now rfl)
theorem same_l0 (l : List Int) (hl : l.length ≤ 100000) : ∀ (d i : Nat), i + d = l.length → Ev (fun k => gamehallref1_SameInts.l0 k l l (l.length : Int) (i : Int)) true := by
  intro d
  induction d with
  | zero =>
    intro i hi
    refine Ev.step (fun k => by rw [gamehallref1_SameInts.l0]) ?_
    exact ite (fun h => absurd h (by omega)) (fun _ => now rfl)
  | succ d ih =>
    intro i hi
    have hi2 : (i : Int) < (l.length : Int) := by omega
    refine Ev.step (fun k => by rw [gamehallref1_SameInts.l0]) ?_
    rw [wn1 i (by omega)]
    refine ite (fun _ => ?_) (fun h => absurd hi2 h)
    refine ite (fun _ => ?_) (fun h => absurd (Int.natCast_nonneg _) h)
    refine ite (fun _ => ?_) (fun h => absurd hi2 h)
    refine ite (fun _ => ?_) (fun h => absurd hi2 h)
    refine ite (fun _ => ?_) (fun h => absurd rfl h)
    exact ih (i + 1) (by omega)
theorem same_f (l : List Int) (hl : l.length ≤ 100000) : Ev (fun k => gamehallref1_SameInts.f k l l) true := by
  unfold gamehallref1_SameInts.f
  refine ite (fun _ => ?_) (fun h => absurd rfl h)
  exact same_l0 l hl l.length 0 (Nat.zero_add _)
theorem place_refl (a b c : List Int) (t q : Int) (ha : a.length ≤ 100000) (hb : b.length ≤ 100000) (hc : c.length ≤ 100000) : Ev (fun k => gamehallref1_SamePlace.f k a b c t q a b c t q) true := by
  unfold gamehallref1_SamePlace.f
  refine ite (fun _ => ?_) (fun h => absurd rfl h)
  refine ite (fun _ => ?_) (fun h => absurd rfl h)
  refine Ev.bind (same_f a ha) ?_
  refine ite (fun _ => ?_) (fun h => absurd rfl h)
  refine Ev.bind (same_f b hb) ?_
  refine ite (fun _ => ?_) (fun h => absurd rfl h)
  exact Ev.bind (same_f c hc) (now rfl)
end Co
end Go.Proofs.YtloadbbndnmdlaaDoor.Pure
