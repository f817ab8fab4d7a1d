/- zob: the keys, and the key after a move; what the reference's After returns. -/
import Derived.Test.YtloadbbndnmdlaaCoreEq
import Derived.Test.YtloadbbndnmdlaaCorePlace
import Derived.Test.YtloadbbndnmdlaaPZobKeysx14
namespace Go.Proofs.Ytloadbbndnmdlaa.Pure
open Go.RowKit Go.Proofs.Ytloadbbndnmdlaa.PZobKeys Go.Proofs.YtloadbbndnmdlaaW.PrintWords Go.Proofs.YtloadbbndnmdlaaW.PrintLast
set_option linter.unusedSimpArgs false
set_option linter.unusedVariables false
namespace Co
open Aid
theorem u_mod (n : Int) : IntKind.u64.wrap n = n % 18446744073709551616 := by simp [IntKind.wrap, IntKind.bits, IntKind.signed]
theorem ua (a b : Int) : IntKind.u64.wrap (IntKind.u64.wrap a + b) = IntKind.u64.wrap (a + b) := by simp only [u_mod, Int.emod_add_emod]
theorem ub (a b : Int) : IntKind.u64.wrap (a + IntKind.u64.wrap b) = IntKind.u64.wrap (a + b) := by simp only [u_mod, Int.add_emod_emod]
theorem uc (a b : Int) : IntKind.u64.wrap (IntKind.u64.wrap a - b) = IntKind.u64.wrap (a - b) := by simp only [u_mod]; omega
theorem ud (a b : Int) : IntKind.u64.wrap (a - IntKind.u64.wrap b) = IntKind.u64.wrap (a - b) := by simp only [u_mod]; omega
theorem ue (a b : Int) : IntKind.u64.wrap (IntKind.u64.wrap a * b) = IntKind.u64.wrap (a * b) := by simp only [u_mod]; rw [Int.mul_emod, Int.emod_emod, ← Int.mul_emod]
theorem uu (a : Int) : IntKind.u64.wrap (IntKind.u64.wrap a) = IntKind.u64.wrap a := by simp only [u_mod, Int.emod_emod]
theorem uq (x c : Int) (hc : 1 ≤ c) : IntKind.u64.wrap (Int.tdiv (IntKind.u64.wrap x) c) = IntKind.u64.wrap x / c := by
  have h0 : 0 ≤ x % 18446744073709551616 := Int.emod_nonneg _ (by decide)
  have h1 : x % 18446744073709551616 < 18446744073709551616 := Int.emod_lt_of_pos _ (by decide)
  simp only [u_mod]
  rw [Int.tdiv_eq_ediv_of_nonneg h0]
  exact Int.emod_eq_of_lt (Int.ediv_nonneg h0 (by omega)) (Int.lt_of_le_of_lt (Int.ediv_le_self _ h0) h1)
/-! Mix -/
def mixv (n : Int) : Int := (zob_Mix.f n).getD 0
theorem mix_f (n : Int) : zob_Mix.f n = some (mixv n) := rfl
theorem mixed_f (n : Int) : gamehallref1_Mixed.f n = some (mixv n) := by
  have h0 : IntKind.u64.wrap (IntKind.u64.wrap (IntKind.u64.wrap n * 11400714819323198485) + 11400714819323198485) = IntKind.u64.wrap (IntKind.u64.wrap (IntKind.u64.wrap n + 1) * 11400714819323198485) := by
    rw [ue, ue, ua, Int.add_mul]
    rw [← ua (IntKind.u64.wrap n * 11400714819323198485) (1 * 11400714819323198485), ue, ua, Int.one_mul]
  rw [← mix_f]
  unfold gamehallref1_Mixed.f zob_Mix.f
  simp only [h0, uq _ 1073741824 (by decide), uq _ 134217728 (by decide), uq _ 2147483648 (by decide)]
/-! sums -/
def sqv (s c : Int) : Int := if c = 0 then 0 else mixv (16 * s + c)
def hdv (o t n : Int) : Int := n * mixv (2000 + 8 * o + t)
def sumS (f : Int → Int → Int) : Int → List Int → Int
  | _, [] => 0
  | s, c :: cs => f s c + sumS f (s + 1) cs
theorem sum_drop (f : Int → Int → Int) (xs : List Int) (i : Nat) (h : i < xs.length) : sumS f (i : Int) (xs.drop i) = f (i : Int) (rd xs (i : Int)) + sumS f ((i + 1 : Nat) : Int) (xs.drop (i + 1)) := by
  rw [List.drop_eq_getElem_cons h, sumS, rd_nat xs i h]; rfl
theorem sum_end (f : Int → Int → Int) (xs : List Int) (i : Nat) (h : xs.length ≤ i) (s : Int) : sumS f s (xs.drop i) = 0 := by
  rw [List.drop_of_length_le h]; rfl
theorem sum_same (f g : Int → Int → Int) (xs : List Int) : ∀ s : Int, (∀ i : Nat, i < xs.length → f (s + i) (rd xs i) = g (s + i) (rd xs i)) → sumS f s xs = sumS g s xs := by
  induction xs with
  | nil => intro s h; rfl
  | cons x xs ih =>
    intro s h
    have h0 := h 0 (by simp)
    have hr : rd (x :: xs) ((0 : Nat) : Int) = x := rfl
    rw [hr, Int.natCast_zero, Int.add_zero] at h0
    have ht : sumS f (s + 1) xs = sumS g (s + 1) xs := by
      refine ih (s + 1) (fun i hi => ?_)
      have h1 := h (i + 1) (by simp; omega)
      have h2 : rd (x :: xs) ((i + 1 : Nat) : Int) = rd xs (i : Int) := by simp [rd]
      have h3 : s + ((i + 1 : Nat) : Int) = s + 1 + (i : Int) := by omega
      rw [h2, h3] at h1; exact h1
    simp only [sumS, h0, ht]
theorem sum_at (f g : Int → Int → Int) (xs : List Int) (a : Nat) (ha : a < xs.length) (h : ∀ i : Nat, i < xs.length → i ≠ a → g i (rd xs i) = f i (rd xs i)) : sumS g 0 xs = sumS f 0 xs + (g a (rd xs a) - f a (rd xs a)) := by
  have hh : sumS g 0 xs = sumS (fun s c => if s = (a : Int) then g s c - f s c + f s c else f s c) 0 xs := by
    refine sum_same _ _ xs 0 (fun i hi => ?_)
    by_cases e : i = a
    · subst e; simp
    · have e2 : ¬ (0 + (i : Int) = (a : Int)) := by omega
      rw [if_neg e2, Int.zero_add]; exact h i hi e
  have key : ∀ (ys : List Int) (s : Int) (b : Nat), b < ys.length → s + b = a → sumS (fun s c => if s = (a : Int) then g s c - f s c + f s c else f s c) s ys = sumS f s ys + (g a (rd ys b) - f a (rd ys b)) := by
    intro ys
    induction ys with
    | nil => intro s b hb; exact absurd hb (by simp)
    | cons y ys ih =>
      intro s b hb hs
      rcases b with _ | b
      · have hs' : s = (a : Int) := by simpa using hs
        have hr : rd (y :: ys) ((0 : Nat) : Int) = y := rfl
        have ht : sumS (fun s c => if s = (a : Int) then g s c - f s c + f s c else f s c) (s + 1) ys = sumS f (s + 1) ys := by
          refine sum_same _ _ ys (s + 1) (fun i _ => ?_)
          have : ¬ (s + 1 + (i : Int) = (a : Int)) := by omega
          rw [if_neg this]
        simp only [sumS]
        rw [ht, if_pos hs', hr, hs']; omega
      · have h2 : rd (y :: ys) ((b + 1 : Nat) : Int) = rd ys (b : Int) := by simp [rd]
        have hb' : b < ys.length := by simpa using hb
        have hs2 : ¬ s = (a : Int) := by omega
        simp only [sumS]
        rw [ih (s + 1) b hb' (by omega), if_neg hs2, h2]; omega
  rw [hh, key xs 0 a ha (by omega)]
def mapS (g : Int → Int → Int) : Int → List Int → List Int
  | _, [] => []
  | s, c :: cs => g s c :: mapS g (s + 1) cs
theorem map_len (g : Int → Int → Int) : ∀ (xs : List Int) (s : Int), (mapS g s xs).length = xs.length := by
  intro xs
  induction xs with
  | nil => intro s; rfl
  | cons x xs ih => intro s; simp [mapS, ih]
theorem sum_map (f g : Int → Int → Int) : ∀ (xs : List Int) (s : Int), sumS f s (mapS g s xs) = sumS (fun s c => f s (g s c)) s xs := by
  intro xs
  induction xs with
  | nil => intro s; rfl
  | cons x xs ih => intro s; simp only [mapS, sumS, ih]
theorem map_all (g : Int → Int → Int) (P : Int → Prop) (xs : List Int) : ∀ s, (∀ s, ∀ c ∈ xs, P (g s c)) → ∀ c ∈ mapS g s xs, P c := by
  induction xs with
  | nil => intro s _ c hc; simp [mapS] at hc
  | cons x xs ih =>
    intro s h c hc
    simp only [mapS, List.mem_cons] at hc
    rcases hc with hc | hc
    · rw [hc]; exact h s x (by simp)
    · exact ih (s + 1) (fun s c hc => h s c (by simp [hc])) c hc
theorem map_drop (g : Int → Int → Int) (xs : List Int) (i : Nat) (h : i < xs.length) : mapS g (i : Int) (xs.drop i) = g (i : Int) (rd xs (i : Int)) :: mapS g ((i + 1 : Nat) : Int) (xs.drop (i + 1)) := by
  rw [List.drop_eq_getElem_cons h, mapS, rd_nat xs i h]; rfl
theorem map_end (g : Int → Int → Int) (xs : List Int) (i : Nat) (h : xs.length ≤ i) (s : Int) : mapS g s (xs.drop i) = [] := by
  rw [List.drop_of_length_le h]; rfl
/-! the key -/
structure KV (cs h0 h1 : List Int) (tu : Int) : Prop where
  n : cs.length ≤ 64
  c : ∀ c ∈ cs, 0 ≤ c ∧ c ≤ 100
  l0 : h0.length ≤ 6
  l1 : h1.length ≤ 6
  b0 : ∀ c ∈ h0, 0 ≤ c ∧ c ≤ 1000
  b1 : ∀ c ∈ h1, 0 ≤ c ∧ c ≤ 1000
  t : tu = 0 ∨ tu = 1
def keyv (cs h0 h1 : List Int) (tu : Int) : Int := tu * mixv 3000 + (sumS sqv 0 cs + (sumS (hdv 0) 0 h0 + sumS (hdv 1) 0 h1))
theorem turn_f (a : Int) : zob_turn.f a = some (IntKind.u64.wrap (a * mixv 3000)) := by
  unfold zob_turn.f; rw [mix_f]; exact congrArg some (ue _ _)
theorem square_f (s c : Int) (h0 : 0 ≤ s) (h1 : s ≤ 64) (h2 : 0 ≤ c) (h3 : c ≤ 100) : zob_square.f s c = some (sqv s c) := by
  unfold zob_square.f sqv
  by_cases h : c = 0
  · rw [if_pos h, if_pos h]
  · rw [if_neg h, if_neg h, w64 (n := 16 * s) (by omega) (by omega), w64 (n := 16 * s + c) (by omega) (by omega), mix_f]; rfl
theorem held_f (o t n : Int) (h0 : 0 ≤ o) (h1 : o ≤ 1) (h2 : 0 ≤ t) (h3 : t ≤ 100) : zob_held.f o t n = some (IntKind.u64.wrap (hdv o t n)) := by
  unfold zob_held.f hdv
  rw [w64 (n := 8 * o) (by omega) (by omega), w64 (n := 2000 + 8 * o) (by omega) (by omega), w64 (n := 2000 + 8 * o + t) (by omega) (by omega), mix_f]
  exact congrArg some (ue _ _)
theorem wnx (i : Nat) (h : i ≤ 1000) : wrap64 ((i : Int) + 1) = ((i + 1 : Nat) : Int) := by rw [w64s (by omega) (by omega)]; omega
theorem w11 : wrap64 (1 + 1) = 2 := by decide +kernel
theorem w01 : wrap64 (0 + 1) = 1 := by decide +kernel
theorem of_l2 (o S : Int) (h0 h1 : List Int) (ho : 0 ≤ o) (ho1 : o ≤ 1) (h : List Int) (hl : h.length ≤ 6) (e : ∀ a, Ev (fun k => zob_Of.l1 k (IntKind.u64.wrap a) (wrap64 (o + 1)) h0 h1) (IntKind.u64.wrap (a + S))) :
    ∀ (d i : Nat) (a : Int), i + d = h.length → Ev (fun k => zob_Of.l2 k (IntKind.u64.wrap a) o o h (h.length : Int) (i : Int) h0 h1) (IntKind.u64.wrap (a + (sumS (hdv o) (i : Int) (h.drop i) + S))) := by
  intro d
  induction d with
  | zero =>
    intro i a hi
    refine Ev.step (fun k => by rw [zob_Of.l2]) ?_
    rw [sum_end _ h i (by omega), Int.zero_add]
    exact ite (fun h => absurd h (by omega)) (fun _ => e a)
  | succ d ih =>
    intro i a hi
    have hi1 : i < h.length := by omega
    have hi2 : (i : Int) < (h.length : Int) := by omega
    have e2 := ih (i + 1) (a + hdv o (i : Int) (rd h (i : Int))) (by omega)
    rw [← wnx i (by omega)] at e2
    refine Ev.step (fun k => by rw [zob_Of.l2]) ?_
    refine ite (fun _ => ?_) (fun h => absurd hi2 h)
    refine ite (fun _ => ?_) (fun h => absurd (Int.natCast_nonneg _) h)
    refine ite (fun _ => ?_) (fun h => absurd hi2 h)
    refine bind_now (held_f o (i : Int) _ ho ho1 (by omega) (by omega)) ?_
    rw [sum_drop _ h i hi1, ua, ub]
    refine ev_eq e2 ?_
    rw [wnx i (by omega), Int.add_assoc, Int.add_assoc]
theorem of_l1 (h0 h1 : List Int) (l0 : h0.length ≤ 6) (l1 : h1.length ≤ 6) (a : Int) : Ev (fun k => zob_Of.l1 k (IntKind.u64.wrap a) 0 h0 h1) (IntKind.u64.wrap (a + (sumS (hdv 0) 0 h0 + sumS (hdv 1) 0 h1))) := by
  have e2 : ∀ a, Ev (fun k => zob_Of.l1 k (IntKind.u64.wrap a) (wrap64 (1 + 1)) h0 h1) (IntKind.u64.wrap (a + 0)) := by
    intro a
    rw [w11]
    refine Ev.step (fun k => by rw [zob_Of.l1]) ?_
    exact ite (fun h => absurd h (by decide)) (fun _ => now (by rw [Int.add_zero]))
  have e1 : ∀ a, Ev (fun k => zob_Of.l1 k (IntKind.u64.wrap a) (wrap64 (0 + 1)) h0 h1) (IntKind.u64.wrap (a + sumS (hdv 1) 0 h1)) := by
    intro a
    rw [w01]
    refine Ev.step (fun k => by rw [zob_Of.l1]) ?_
    refine ite (fun _ => ?_) (fun h => absurd (by decide) h)
    refine ite (fun _ => ?_) (fun h => absurd (by decide) h)
    refine ite (fun h => absurd h (by decide)) (fun _ => ?_)
    refine Ev.step (fun k => by rw [zob_Of.j2]) ?_
    have h := of_l2 1 0 h0 h1 (by decide) (by decide) h1 l1 e2 h1.length 0 a (by omega)
    rw [Int.add_zero] at h; exact h
  refine Ev.step (fun k => by rw [zob_Of.l1]) ?_
  refine ite (fun _ => ?_) (fun h => absurd (by decide) h)
  refine ite (fun _ => ?_) (fun h => absurd (by decide) h)
  refine ite (fun _ => ?_) (fun h => absurd rfl h)
  refine Ev.step (fun k => by rw [zob_Of.j2]) ?_
  exact of_l2 0 _ h0 h1 (by decide) (by decide) h0 l0 e1 h0.length 0 a (by omega)
theorem of_f (cs h0 h1 : List Int) (tu q : Int) (v : KV cs h0 h1 tu) : Ev (fun k => zob_Of.f k cs h0 h1 tu q) (IntKind.u64.wrap (keyv cs h0 h1 tu)) := by
  have hn := v.n
  have l0 : ∀ (d i : Nat) (a : Int), i + d = cs.length → Ev (fun k => zob_Of.l0 k (IntKind.u64.wrap a) cs (cs.length : Int) (i : Int) cs h0 h1 tu q) (IntKind.u64.wrap (a + (sumS sqv (i : Int) (cs.drop i) + (sumS (hdv 0) 0 h0 + sumS (hdv 1) 0 h1)))) := by
    intro d
    induction d with
    | zero =>
      intro i a hi
      refine Ev.step (fun k => by rw [zob_Of.l0]) ?_
      rw [sum_end _ cs i (by omega), Int.zero_add]
      exact ite (fun h => absurd h (by omega)) (fun _ => of_l1 h0 h1 v.l0 v.l1 a)
    | succ d ih =>
      intro i a hi
      have hi1 : i < cs.length := by omega
      have hi2 : (i : Int) < (cs.length : Int) := by omega
      have hc := v.c _ (rd_mem cs (i : Int) (by omega) hi2)
      have e2 := ih (i + 1) (a + sqv (i : Int) (rd cs (i : Int))) (by omega)
      rw [← wnx i (by omega)] at e2
      refine Ev.step (fun k => by rw [zob_Of.l0]) ?_
      refine ite (fun _ => ?_) (fun h => absurd hi2 h)
      refine ite (fun _ => ?_) (fun h => absurd (Int.natCast_nonneg _) h)
      refine ite (fun _ => ?_) (fun h => absurd hi2 h)
      refine bind_now (square_f (i : Int) _ (by omega) (by omega) hc.1 hc.2) ?_
      rw [sum_drop _ cs i hi1, ua]
      refine ev_eq e2 ?_
      rw [wnx i (by omega), Int.add_assoc, Int.add_assoc]
  unfold zob_Of.f
  exact bind_now (turn_f tu) (l0 cs.length 0 _ (by omega))
/-! the reference's key -/
theorem key_l3 (x5 x6 x32 : Int) (x38 cs h0 h1 : List Int) (x39 x40 n tu q S : Int) (h5 : 0 ≤ x5) (h5' : x5 ≤ 1) (h6 : 0 ≤ x6) (h6' : x6 ≤ 100) (hn : n ≤ 1000) (e : ∀ a, Ev (fun k => gamehallref1_Key.l2 k (IntKind.u64.wrap a) x5 x32 x38 x39 (wrap64 (x40 + 1)) cs h0 h1 tu q) (IntKind.u64.wrap (a + S))) :
    ∀ (d i : Nat) (a : Int), (i : Int) + d = n → Ev (fun k => gamehallref1_Key.l3 k (IntKind.u64.wrap a) x5 x6 x32 x38 x39 x40 n (i : Int) cs h0 h1 tu q) (IntKind.u64.wrap (a + ((d : Int) * mixv (2000 + 8 * x5 + x6) + S))) := by
  intro d
  induction d with
  | zero =>
    intro i a hi
    refine Ev.step (fun k => by rw [gamehallref1_Key.l3]) ?_
    rw [Int.natCast_zero, Int.zero_mul, Int.zero_add]
    exact ite (fun h => absurd h (by omega)) (fun _ => e a)
  | succ d ih =>
    intro i a hi
    have hi2 : (i : Int) < n := by omega
    have e2 := ih (i + 1) (a + mixv (2000 + 8 * x5 + x6)) (by omega)
    rw [← wnx i (by omega)] at e2
    refine Ev.step (fun k => by rw [gamehallref1_Key.l3]) ?_
    refine ite (fun _ => ?_) (fun h => absurd hi2 h)
    have ei : wrap64 (wrap64 (wrap64 (x5 * 8) + x6) + 2000) = 2000 + 8 * x5 + x6 := by
      rw [w64 (n := x5 * 8) (by omega) (by omega), w64 (n := x5 * 8 + x6) (by omega) (by omega), w64 (by omega) (by omega)]; omega
    rw [ei]
    refine bind_now (mixed_f _) ?_
    rw [ua]
    refine ev_eq e2 ?_
    rw [Int.natCast_add, Int.add_mul]
    congr 1
    simp only [Int.natCast_one, Int.one_mul]
    omega
theorem key_l2 (o S : Int) (cs h0 h1 : List Int) (tu q : Int) (ho : 0 ≤ o) (ho1 : o ≤ 1) (h : List Int) (hl : h.length ≤ 6) (hb : ∀ c ∈ h, 0 ≤ c ∧ c ≤ 1000) (e : ∀ a, Ev (fun k => gamehallref1_Key.l1 k (IntKind.u64.wrap a) (wrap64 (o + 1)) cs h0 h1 tu q) (IntKind.u64.wrap (a + S))) :
    ∀ (d i : Nat) (a : Int), i + d = h.length → Ev (fun k => gamehallref1_Key.l2 k (IntKind.u64.wrap a) o o h (h.length : Int) (i : Int) cs h0 h1 tu q) (IntKind.u64.wrap (a + (sumS (hdv o) (i : Int) (h.drop i) + S))) := by
  intro d
  induction d with
  | zero =>
    intro i a hi
    refine Ev.step (fun k => by rw [gamehallref1_Key.l2]) ?_
    rw [sum_end _ h i (by omega), Int.zero_add]
    exact ite (fun h => absurd h (by omega)) (fun _ => e a)
  | succ d ih =>
    intro i a hi
    have hi1 : i < h.length := by omega
    have hi2 : (i : Int) < (h.length : Int) := by omega
    have hv := hb _ (rd_mem h (i : Int) (by omega) hi2)
    have e2 := fun a => ih (i + 1) a (by omega)
    rw [← wnx i (by omega)] at e2
    refine Ev.step (fun k => by rw [gamehallref1_Key.l2]) ?_
    refine ite (fun _ => ?_) (fun h => absurd hi2 h)
    refine ite (fun _ => ?_) (fun h => absurd (Int.natCast_nonneg _) h)
    refine ite (fun _ => ?_) (fun h => absurd hi2 h)
    have h3 := key_l3 o (i : Int) o h cs h0 h1 (h.length : Int) (i : Int) (rd h (i : Int)) tu q _ ho ho1 (by omega) (by omega) hv.2 e2 (rd h (i : Int)).toNat 0 a (by omega)
    rw [show (((rd h (i : Int)).toNat : Nat) : Int) = rd h (i : Int) by omega] at h3
    refine ev_eq h3 ?_
    rw [sum_drop _ h i hi1, wnx i (by omega), show hdv o (i : Int) (rd h (i : Int)) = rd h (i : Int) * mixv (2000 + 8 * o + (i : Int)) from rfl]; congr 1; omega
theorem key_f (cs h0 h1 : List Int) (tu q : Int) (v : KV cs h0 h1 tu) : Ev (fun k => gamehallref1_Key.f k cs h0 h1 tu q) (IntKind.u64.wrap (keyv cs h0 h1 tu)) := by
  have hn := v.n
  have e2 : ∀ a, Ev (fun k => gamehallref1_Key.l1 k (IntKind.u64.wrap a) (wrap64 (1 + 1)) cs h0 h1 tu q) (IntKind.u64.wrap (a + tu * mixv 3000)) := by
    intro a
    rw [w11]
    refine Ev.step (fun k => by rw [gamehallref1_Key.l1]) ?_
    refine ite (fun h => absurd h (by decide)) (fun _ => ?_)
    refine ite (fun h => ?_) (fun h => ?_)
    · refine bind_now (mixed_f _) (now ?_)
      rw [ua, h, Int.one_mul]
    · have : tu = 0 := by have := v.t; omega
      exact now (by rw [this, Int.zero_mul, Int.add_zero])
  have e1 : ∀ a, Ev (fun k => gamehallref1_Key.l1 k (IntKind.u64.wrap a) (wrap64 (0 + 1)) cs h0 h1 tu q) (IntKind.u64.wrap (a + (sumS (hdv 1) 0 h1 + tu * mixv 3000))) := by
    intro a
    rw [w01]
    refine Ev.step (fun k => by rw [gamehallref1_Key.l1]) ?_
    refine ite (fun _ => ?_) (fun h => absurd (by decide) h)
    refine ite (fun _ => ?_) (fun h => absurd (by decide) h)
    refine ite (fun h => absurd h (by decide)) (fun _ => ?_)
    refine Ev.step (fun k => by rw [gamehallref1_Key.j2]) ?_
    exact key_l2 1 _ cs h0 h1 tu q (by decide) (by decide) h1 v.l1 v.b1 e2 h1.length 0 a (by omega)
  have e0 : ∀ a, Ev (fun k => gamehallref1_Key.l1 k (IntKind.u64.wrap a) 0 cs h0 h1 tu q) (IntKind.u64.wrap (a + (sumS (hdv 0) 0 h0 + (sumS (hdv 1) 0 h1 + tu * mixv 3000)))) := by
    intro a
    refine Ev.step (fun k => by rw [gamehallref1_Key.l1]) ?_
    refine ite (fun _ => ?_) (fun h => absurd (by decide) h)
    refine ite (fun _ => ?_) (fun h => absurd (by decide) h)
    refine ite (fun _ => ?_) (fun h => absurd rfl h)
    refine Ev.step (fun k => by rw [gamehallref1_Key.j2]) ?_
    exact key_l2 0 _ cs h0 h1 tu q (by decide) (by decide) h0 v.l0 v.b0 e1 h0.length 0 a (by omega)
  have l0 : ∀ (d i : Nat) (a : Int), i + d = cs.length → Ev (fun k => gamehallref1_Key.l0 k (IntKind.u64.wrap a) (cs.length : Int) (i : Int) cs h0 h1 tu q) (IntKind.u64.wrap (a + (sumS sqv (i : Int) (cs.drop i) + (sumS (hdv 0) 0 h0 + (sumS (hdv 1) 0 h1 + tu * mixv 3000))))) := by
    intro d
    induction d with
    | zero =>
      intro i a hi
      refine Ev.step (fun k => by rw [gamehallref1_Key.l0]) ?_
      rw [sum_end _ cs i (by omega), Int.zero_add]
      exact ite (fun h => absurd h (by omega)) (fun _ => e0 a)
    | succ d ih =>
      intro i a hi
      have hi1 : i < cs.length := by omega
      have hi2 : (i : Int) < (cs.length : Int) := by omega
      have hc := v.c _ (rd_mem cs (i : Int) (by omega) hi2)
      have e2 := fun a => ih (i + 1) a (by omega)
      rw [← wnx i (by omega)] at e2
      have ei : wrap64 (wrap64 ((i : Int) * 16) + rd cs (i : Int)) = 16 * (i : Int) + rd cs (i : Int) := by
        rw [w64 (n := (i : Int) * 16) (by omega) (by omega), w64 (by omega) (by omega)]; omega
      refine Ev.step (fun k => by rw [gamehallref1_Key.l0]) ?_
      refine ite (fun _ => ?_) (fun h => absurd hi2 h)
      refine ite (fun _ => ?_) (fun h => absurd (Int.natCast_nonneg _) h)
      refine ite (fun _ => ?_) (fun h => absurd hi2 h)
      rw [sum_drop _ cs i hi1, ei]
      refine ite (fun h => ?_) (fun h => ?_)
      · refine bind_now (mixed_f _) ?_
        rw [ua]
        refine ev_eq (e2 _) ?_
        have hs : sqv (i : Int) (rd cs (i : Int)) = mixv (16 * (i : Int) + rd cs (i : Int)) := by
          have : ¬ rd cs (i : Int) = 0 := by omega
          unfold sqv; rw [if_neg this]
        rw [hs, wnx i (by omega), Int.add_assoc, Int.add_assoc]
      · refine ev_eq (e2 _) ?_
        have hs : sqv (i : Int) (rd cs (i : Int)) = 0 := by
          have : rd cs (i : Int) = 0 := by omega
          unfold sqv; rw [if_pos this]
        rw [hs, wnx i (by omega), Int.zero_add]
  unfold gamehallref1_Key.f
  have h := l0 cs.length 0 0 (by omega)
  rw [show IntKind.u64.wrap 0 = 0 by decide] at h
  refine ev_eq h ?_
  unfold keyv
  simp only [List.drop_zero, Int.natCast_zero]
  congr 1
  omega
end Co
end Go.Proofs.Ytloadbbndnmdlaa.Pure
