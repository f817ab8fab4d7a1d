-- Printed by a program of this claim's writer (wip/ext): an extension of the kit's print.
import Derived.Test.YteooljkamebenaaPKnockoutPlaysx0
import Derived.Test.YteooljkamebenaaPKnockoutPlaysx1
namespace Go.Proofs.Yteooljkamebenaa.PKnockoutPlays
open Go.RowKit Go.Proofs.YteooljkamebenaaW.PrintWords Go.Proofs.YteooljkamebenaaW.PrintLast Go.Proofs.YteooljkamebenaaW.PrintMore
attribute [local go_sem] max2_int min2_int max_two min_two max_three min_three max_four min_four   -- for this text's walks alone
set_option linter.unusedVariables false
set_option linter.unusedSimpArgs false

attribute [local go_sem high] eqA148
/-! ### gamehalllaw3_played: function 31 -/
mutual
def gamehalllaw3_played.l0 : Nat → List Int → List Int → List (S148) → Int → Int → List Int → Int → Int → Option (Bool)
  | 0, _, _, _, _, _, _, _, _ => none
  | k + 1, x0, x1, x2, x3, x4, x21, x22, x23 => if x23 < x22 then (if 0 ≤ x23 then (if x23 < (x21.length : Int) then (if (rd x21 x23) = 0 then (gamehalllaw3_played.l0 k x0 x1 x2 x3 x4 x21 x22 (wrap64 (x23 + 1))) else (if (rd x21 x23) = 2 then (gamehalllaw3_played.l0 k x0 x1 x2 x3 x4 x21 x22 (wrap64 (x23 + 1))) else (if x4 = 4 then (some ((wrap64 ((x2.length : Int) + x3)) == 0)) else (some false)))) else (none)) else (none)) else (gamehalllaw3_played.l1 k x0 x1 x2 x3 x4 0 0 false 0)
def gamehalllaw3_played.l1 : Nat → List Int → List Int → List (S148) → Int → Int → Int → Int → Bool → Int → Option (Bool)
  | 0, _, _, _, _, _, _, _, _, _ => none
  | k + 1, x0, x1, x2, x3, x4, x13, x14, x15, x16 => if (x0.length : Int) > 1 then (gamehalllaw3_played.j2 k x0 x1 x2 x3 x4 x13 x14 x15 x16 (!x15)) else (gamehalllaw3_played.j2 k x0 x1 x2 x3 x4 x13 x14 x15 x16 false)
def gamehalllaw3_played.j2 : Nat → List Int → List Int → List (S148) → Int → Int → Int → Int → Bool → Int → Bool → Option (Bool)
  | 0, _, _, _, _, _, _, _, _, _, _ => none
  | k + 1, x0, x1, x2, x3, x4, x13, x14, x15, x16, x49 => if x49 = true then (if 0 ≤ (wrap64 ((x0.length : Int) / 2)) then (if (wrap64 ((x0.length : Int) / 2) : Int).toNat ≤ 35184372088832 then ((some (List.replicate (wrap64 ((x0.length : Int) / 2) : Int).toNat 0 : List Int)).bind fun y159 => (gamehalllaw3_played.l2 k x0 x1 x2 x3 x4 x13 x14 x15 x16 y159 (y159.length : Int) 0)) else (none)) else (none)) else (if x13 < (x1.length : Int) then (if x4 = 2 then (some ((wrap64 ((x2.length : Int) + x3)) == 0)) else (some false)) else (if x15 = true then (if x4 = 0 then (if x3 = (-1) then (some (x14 == (x2.length : Int))) else (some false)) else (some false)) else (if x4 = 0 then (if 0 < (x0.length : Int) then (if x3 = (rd x0 0) then (some (x14 == (x2.length : Int))) else (some false)) else (none)) else (some false))))
def gamehalllaw3_played.l2 : Nat → List Int → List Int → List (S148) → Int → Int → Int → Int → Bool → Int → List Int → Int → Int → Option (Bool)
  | 0, _, _, _, _, _, _, _, _, _, _, _, _ => none
  | k + 1, x0, x1, x2, x3, x4, x13, x14, x15, x16, x17, x57, x58 => if x58 < x57 then (if 0 ≤ (wrap64 (2 * x58)) then (if (wrap64 (2 * x58)) < (x0.length : Int) then (if 0 ≤ (wrap64 ((wrap64 (2 * x58)) + 1)) then (if (wrap64 ((wrap64 (2 * x58)) + 1)) < (x0.length : Int) then (if x4 = 0 then (if x14 ≥ (x2.length : Int) then (gamehalllaw3_played.j4 k x0 x1 x2 x3 x4 x13 x14 x15 x16 x17 x58 (rd x0 (wrap64 (2 * x58))) (rd x0 (wrap64 ((wrap64 (2 * x58)) + 1))) x57 x58 true) else (if 0 ≤ x14 then (if x14 < (x2.length : Int) then (gamehalllaw3_played.j4 k x0 x1 x2 x3 x4 x13 x14 x15 x16 x17 x58 (rd x0 (wrap64 (2 * x58))) (rd x0 (wrap64 ((wrap64 (2 * x58)) + 1))) x57 x58 (!(((rd_T148 x2 x14).f0) == x16) || (!(((rd_T148 x2 x14).f1) == (rd x0 (wrap64 (2 * x58)))) || (!(((rd_T148 x2 x14).f2) == (rd x0 (wrap64 ((wrap64 (2 * x58)) + 1)))))))) else (none)) else (none))) else (gamehalllaw3_played.j4 k x0 x1 x2 x3 x4 x13 x14 x15 x16 x17 x58 (rd x0 (wrap64 (2 * x58))) (rd x0 (wrap64 ((wrap64 (2 * x58)) + 1))) x57 x58 false)) else (none)) else (none)) else (none)) else (none)) else (gamehalllaw3_played.l1 k x17 x1 x2 x3 x4 x13 x14 x15 (wrap64 (x16 + 1)))
def gamehalllaw3_played.j4 : Nat → List Int → List Int → List (S148) → Int → Int → Int → Int → Bool → Int → List Int → Int → Int → Int → Int → Int → Bool → Option (Bool)
  | 0, _, _, _, _, _, _, _, _, _, _, _, _, _, _, _, _ => none
  | k + 1, x0, x1, x2, x3, x4, x13, x14, x15, x16, x17, x18, x19, x20, x57, x58, x90 => if x90 = true then (some false) else (if x19 = (-1) then (gamehalllaw3_played.j5 k x0 x1 x2 x3 x4 x13 (wrap64 (x14 + 1)) x15 x16 x17 x18 x19 x20 x57 x58 true) else (gamehalllaw3_played.j5 k x0 x1 x2 x3 x4 x13 (wrap64 (x14 + 1)) x15 x16 x17 x18 x19 x20 x57 x58 (x20 == (-1))))
def gamehalllaw3_played.j5 : Nat → List Int → List Int → List (S148) → Int → Int → Int → Int → Bool → Int → List Int → Int → Int → Int → Int → Int → Bool → Option (Bool)
  | 0, _, _, _, _, _, _, _, _, _, _, _, _, _, _, _, _ => none
  | k + 1, x0, x1, x2, x3, x4, x13, x14, x15, x16, x17, x18, x19, x20, x57, x58, x108 => if x108 = true then (if 0 ≤ x18 then (if x18 < (x17.length : Int) then (gamehalllaw3_played.l2 k x0 x1 x2 x3 x4 x13 x14 x15 x16 (x17.set (x18 : Int).toNat (mx x19 x20)) x57 (wrap64 (x58 + 1))) else (none)) else (none)) else (if x13 = (x1.length : Int) then (gamehalllaw3_played.l2 k x0 x1 x2 x3 x4 x13 x14 true x16 x17 x57 (wrap64 (x58 + 1))) else (if 0 ≤ x18 then (if x18 < (x17.length : Int) then ((some (x17.set (x18 : Int).toNat x20 : List Int)).bind fun y166 => (if 0 ≤ x13 then (if x13 < (x1.length : Int) then (if (rd x1 x13) = 2 then (gamehalllaw3_played.l2 k x0 x1 x2 x3 x4 (wrap64 (x13 + 1)) x14 x15 x16 (y166.set (x18 : Int).toNat x19) x57 (wrap64 (x58 + 1))) else (gamehalllaw3_played.l2 k x0 x1 x2 x3 x4 (wrap64 (x13 + 1)) x14 x15 x16 y166 x57 (wrap64 (x58 + 1)))) else (none)) else (none))) else (none)) else (none)))
end
def gamehalllaw3_played.f (k : Nat) (l0 : List Int) (l1 : List Int) (l2 : List (S148)) (a3 : Int) (a4 : Int) : Option (Bool) := gamehalllaw3_played.l0 k l0 l1 l2 a3 a4 l1 (l1.length : Int) 0
theorem gamehalllaw3_played.mono_l : ∀ k, (∀ y0 y1 y2 y3 y4 y5 y6 y7, LeO (gamehalllaw3_played.l0 k y0 y1 y2 y3 y4 y5 y6 y7) (gamehalllaw3_played.l0 (k + 1) y0 y1 y2 y3 y4 y5 y6 y7)) ∧ (∀ y0 y1 y2 y3 y4 y5 y6 y7 y8, LeO (gamehalllaw3_played.l1 k y0 y1 y2 y3 y4 y5 y6 y7 y8) (gamehalllaw3_played.l1 (k + 1) y0 y1 y2 y3 y4 y5 y6 y7 y8)) ∧ (∀ y0 y1 y2 y3 y4 y5 y6 y7 y8 y9, LeO (gamehalllaw3_played.j2 k y0 y1 y2 y3 y4 y5 y6 y7 y8 y9) (gamehalllaw3_played.j2 (k + 1) y0 y1 y2 y3 y4 y5 y6 y7 y8 y9)) ∧ (∀ y0 y1 y2 y3 y4 y5 y6 y7 y8 y9 y10 y11, LeO (gamehalllaw3_played.l2 k y0 y1 y2 y3 y4 y5 y6 y7 y8 y9 y10 y11) (gamehalllaw3_played.l2 (k + 1) y0 y1 y2 y3 y4 y5 y6 y7 y8 y9 y10 y11)) ∧ (∀ y0 y1 y2 y3 y4 y5 y6 y7 y8 y9 y10 y11 y12 y13 y14 y15, LeO (gamehalllaw3_played.j4 k y0 y1 y2 y3 y4 y5 y6 y7 y8 y9 y10 y11 y12 y13 y14 y15) (gamehalllaw3_played.j4 (k + 1) y0 y1 y2 y3 y4 y5 y6 y7 y8 y9 y10 y11 y12 y13 y14 y15)) ∧ (∀ y0 y1 y2 y3 y4 y5 y6 y7 y8 y9 y10 y11 y12 y13 y14 y15, LeO (gamehalllaw3_played.j5 k y0 y1 y2 y3 y4 y5 y6 y7 y8 y9 y10 y11 y12 y13 y14 y15) (gamehalllaw3_played.j5 (k + 1) y0 y1 y2 y3 y4 y5 y6 y7 y8 y9 y10 y11 y12 y13 y14 y15))
  | 0 => ⟨fun _ _ _ _ _ _ _ _ r h => by simp [gamehalllaw3_played.l0] at h, fun _ _ _ _ _ _ _ _ _ r h => by simp [gamehalllaw3_played.l1] at h, fun _ _ _ _ _ _ _ _ _ _ r h => by simp [gamehalllaw3_played.j2] at h, fun _ _ _ _ _ _ _ _ _ _ _ _ r h => by simp [gamehalllaw3_played.l2] at h, fun _ _ _ _ _ _ _ _ _ _ _ _ _ _ _ _ r h => by simp [gamehalllaw3_played.j4] at h, fun _ _ _ _ _ _ _ _ _ _ _ _ _ _ _ _ r h => by simp [gamehalllaw3_played.j5] at h⟩
  | k + 1 => by
    obtain ⟨ih0, ih1, ih2, ih3, ih4, ih5⟩ := gamehalllaw3_played.mono_l k
    refine ⟨?_, ?_, ?_, ?_, ?_, ?_⟩
    · intro y0 y1 y2 y3 y4 y5 y6 y7
      unfold gamehalllaw3_played.l0
      repeat' first
      | (with_reducible exact ih0 _ _ _ _ _ _ _ _)
      | (with_reducible exact ih1 _ _ _ _ _ _ _ _ _)
      | (with_reducible exact ih2 _ _ _ _ _ _ _ _ _ _)
      | (with_reducible exact ih3 _ _ _ _ _ _ _ _ _ _ _ _)
      | (with_reducible exact ih4 _ _ _ _ _ _ _ _ _ _ _ _ _ _ _ _)
      | (with_reducible exact ih5 _ _ _ _ _ _ _ _ _ _ _ _ _ _ _ _)
      | (with_reducible exact LeO.refl _)
      | (with_reducible exact LeO.none _)
      | (with_reducible refine LeO.ite ?_ ?_)
      | (with_reducible refine LeO.bind ?_ (fun _ => ?_))
      | exact ih0 _ _ _ _ _ _ _ _
      | exact ih1 _ _ _ _ _ _ _ _ _
      | exact ih2 _ _ _ _ _ _ _ _ _ _
      | exact ih3 _ _ _ _ _ _ _ _ _ _ _ _
      | exact ih4 _ _ _ _ _ _ _ _ _ _ _ _ _ _ _ _
      | exact ih5 _ _ _ _ _ _ _ _ _ _ _ _ _ _ _ _
      | exact LeO.none _
      | refine LeO.ite ?_ ?_
      | refine LeO.bind ?_ (fun _ => ?_)
    · intro y0 y1 y2 y3 y4 y5 y6 y7 y8
      unfold gamehalllaw3_played.l1
      repeat' first
      | (with_reducible exact ih0 _ _ _ _ _ _ _ _)
      | (with_reducible exact ih1 _ _ _ _ _ _ _ _ _)
      | (with_reducible exact ih2 _ _ _ _ _ _ _ _ _ _)
      | (with_reducible exact ih3 _ _ _ _ _ _ _ _ _ _ _ _)
      | (with_reducible exact ih4 _ _ _ _ _ _ _ _ _ _ _ _ _ _ _ _)
      | (with_reducible exact ih5 _ _ _ _ _ _ _ _ _ _ _ _ _ _ _ _)
      | (with_reducible exact LeO.refl _)
      | (with_reducible exact LeO.none _)
      | (with_reducible refine LeO.ite ?_ ?_)
      | (with_reducible refine LeO.bind ?_ (fun _ => ?_))
      | exact ih0 _ _ _ _ _ _ _ _
      | exact ih1 _ _ _ _ _ _ _ _ _
      | exact ih2 _ _ _ _ _ _ _ _ _ _
      | exact ih3 _ _ _ _ _ _ _ _ _ _ _ _
      | exact ih4 _ _ _ _ _ _ _ _ _ _ _ _ _ _ _ _
      | exact ih5 _ _ _ _ _ _ _ _ _ _ _ _ _ _ _ _
      | exact LeO.none _
      | refine LeO.ite ?_ ?_
      | refine LeO.bind ?_ (fun _ => ?_)
    · intro y0 y1 y2 y3 y4 y5 y6 y7 y8 y9
      unfold gamehalllaw3_played.j2
      repeat' first
      | (with_reducible exact ih0 _ _ _ _ _ _ _ _)
      | (with_reducible exact ih1 _ _ _ _ _ _ _ _ _)
      | (with_reducible exact ih2 _ _ _ _ _ _ _ _ _ _)
      | (with_reducible exact ih3 _ _ _ _ _ _ _ _ _ _ _ _)
      | (with_reducible exact ih4 _ _ _ _ _ _ _ _ _ _ _ _ _ _ _ _)
      | (with_reducible exact ih5 _ _ _ _ _ _ _ _ _ _ _ _ _ _ _ _)
      | (with_reducible exact LeO.refl _)
      | (with_reducible exact LeO.none _)
      | (with_reducible refine LeO.ite ?_ ?_)
      | (with_reducible refine LeO.bind ?_ (fun _ => ?_))
      | exact ih0 _ _ _ _ _ _ _ _
      | exact ih1 _ _ _ _ _ _ _ _ _
      | exact ih2 _ _ _ _ _ _ _ _ _ _
      | exact ih3 _ _ _ _ _ _ _ _ _ _ _ _
      | exact ih4 _ _ _ _ _ _ _ _ _ _ _ _ _ _ _ _
      | exact ih5 _ _ _ _ _ _ _ _ _ _ _ _ _ _ _ _
      | exact LeO.none _
      | refine LeO.ite ?_ ?_
      | refine LeO.bind ?_ (fun _ => ?_)
    · intro y0 y1 y2 y3 y4 y5 y6 y7 y8 y9 y10 y11
      unfold gamehalllaw3_played.l2
      repeat' first
      | (with_reducible exact ih0 _ _ _ _ _ _ _ _)
      | (with_reducible exact ih1 _ _ _ _ _ _ _ _ _)
      | (with_reducible exact ih2 _ _ _ _ _ _ _ _ _ _)
      | (with_reducible exact ih3 _ _ _ _ _ _ _ _ _ _ _ _)
      | (with_reducible exact ih4 _ _ _ _ _ _ _ _ _ _ _ _ _ _ _ _)
      | (with_reducible exact ih5 _ _ _ _ _ _ _ _ _ _ _ _ _ _ _ _)
      | (with_reducible exact LeO.refl _)
      | (with_reducible exact LeO.none _)
      | (with_reducible refine LeO.ite ?_ ?_)
      | (with_reducible refine LeO.bind ?_ (fun _ => ?_))
      | exact ih0 _ _ _ _ _ _ _ _
      | exact ih1 _ _ _ _ _ _ _ _ _
      | exact ih2 _ _ _ _ _ _ _ _ _ _
      | exact ih3 _ _ _ _ _ _ _ _ _ _ _ _
      | exact ih4 _ _ _ _ _ _ _ _ _ _ _ _ _ _ _ _
      | exact ih5 _ _ _ _ _ _ _ _ _ _ _ _ _ _ _ _
      | exact LeO.none _
      | refine LeO.ite ?_ ?_
      | refine LeO.bind ?_ (fun _ => ?_)
    · intro y0 y1 y2 y3 y4 y5 y6 y7 y8 y9 y10 y11 y12 y13 y14 y15
      unfold gamehalllaw3_played.j4
      repeat' first
      | (with_reducible exact ih0 _ _ _ _ _ _ _ _)
      | (with_reducible exact ih1 _ _ _ _ _ _ _ _ _)
      | (with_reducible exact ih2 _ _ _ _ _ _ _ _ _ _)
      | (with_reducible exact ih3 _ _ _ _ _ _ _ _ _ _ _ _)
      | (with_reducible exact ih4 _ _ _ _ _ _ _ _ _ _ _ _ _ _ _ _)
      | (with_reducible exact ih5 _ _ _ _ _ _ _ _ _ _ _ _ _ _ _ _)
      | (with_reducible exact LeO.refl _)
      | (with_reducible exact LeO.none _)
      | (with_reducible refine LeO.ite ?_ ?_)
      | (with_reducible refine LeO.bind ?_ (fun _ => ?_))
      | exact ih0 _ _ _ _ _ _ _ _
      | exact ih1 _ _ _ _ _ _ _ _ _
      | exact ih2 _ _ _ _ _ _ _ _ _ _
      | exact ih3 _ _ _ _ _ _ _ _ _ _ _ _
      | exact ih4 _ _ _ _ _ _ _ _ _ _ _ _ _ _ _ _
      | exact ih5 _ _ _ _ _ _ _ _ _ _ _ _ _ _ _ _
      | exact LeO.none _
      | refine LeO.ite ?_ ?_
      | refine LeO.bind ?_ (fun _ => ?_)
    · intro y0 y1 y2 y3 y4 y5 y6 y7 y8 y9 y10 y11 y12 y13 y14 y15
      unfold gamehalllaw3_played.j5
      repeat' first
      | (with_reducible exact ih0 _ _ _ _ _ _ _ _)
      | (with_reducible exact ih1 _ _ _ _ _ _ _ _ _)
      | (with_reducible exact ih2 _ _ _ _ _ _ _ _ _ _)
      | (with_reducible exact ih3 _ _ _ _ _ _ _ _ _ _ _ _)
      | (with_reducible exact ih4 _ _ _ _ _ _ _ _ _ _ _ _ _ _ _ _)
      | (with_reducible exact ih5 _ _ _ _ _ _ _ _ _ _ _ _ _ _ _ _)
      | (with_reducible exact LeO.refl _)
      | (with_reducible exact LeO.none _)
      | (with_reducible refine LeO.ite ?_ ?_)
      | (with_reducible refine LeO.bind ?_ (fun _ => ?_))
      | exact ih0 _ _ _ _ _ _ _ _
      | exact ih1 _ _ _ _ _ _ _ _ _
      | exact ih2 _ _ _ _ _ _ _ _ _ _
      | exact ih3 _ _ _ _ _ _ _ _ _ _ _ _
      | exact ih4 _ _ _ _ _ _ _ _ _ _ _ _ _ _ _ _
      | exact ih5 _ _ _ _ _ _ _ _ _ _ _ _ _ _ _ _
      | exact LeO.none _
      | refine LeO.ite ?_ ?_
      | refine LeO.bind ?_ (fun _ => ?_)
theorem gamehalllaw3_played.mono : ∀ a0 a1 a2 a3 a4 k, LeO (gamehalllaw3_played.f k a0 a1 a2 a3 a4) (gamehalllaw3_played.f (k + 1) a0 a1 a2 a3 a4) := by
  intro a0 a1 a2 a3 a4 k
  obtain ⟨ih0, ih1, ih2, ih3, ih4, ih5⟩ := gamehalllaw3_played.mono_l k
  unfold gamehalllaw3_played.f
  repeat' first
      | (with_reducible exact ih0 _ _ _ _ _ _ _ _)
      | (with_reducible exact ih1 _ _ _ _ _ _ _ _ _)
      | (with_reducible exact ih2 _ _ _ _ _ _ _ _ _ _)
      | (with_reducible exact ih3 _ _ _ _ _ _ _ _ _ _ _ _)
      | (with_reducible exact ih4 _ _ _ _ _ _ _ _ _ _ _ _ _ _ _ _)
      | (with_reducible exact ih5 _ _ _ _ _ _ _ _ _ _ _ _ _ _ _ _)
      | (with_reducible exact LeO.refl _)
      | (with_reducible exact LeO.none _)
      | (with_reducible refine LeO.ite ?_ ?_)
      | (with_reducible refine LeO.bind ?_ (fun _ => ?_))
      | exact ih0 _ _ _ _ _ _ _ _
      | exact ih1 _ _ _ _ _ _ _ _ _
      | exact ih2 _ _ _ _ _ _ _ _ _ _
      | exact ih3 _ _ _ _ _ _ _ _ _ _ _ _
      | exact ih4 _ _ _ _ _ _ _ _ _ _ _ _ _ _ _ _
      | exact ih5 _ _ _ _ _ _ _ _ _ _ _ _ _ _ _ _
      | exact LeO.none _
      | refine LeO.ite ?_ ?_
      | refine LeO.bind ?_ (fun _ => ?_)
set_option maxHeartbeats 8000000 in
set_option maxRecDepth 100000 in
theorem gamehalllaw3_played.calls (k : Nat) (P0_ : Nat → Prop) (A0 : Option Addr) (c0 : Nat) (l0 : List Int) (A1 : Option Addr) (c1 : Nat) (l1 : List Int) (A2 : Option Addr) (c2 : Nat) (l2 : List (S148)) (a3 : Int) (a4 : Int) (r : Bool) (w : World) (hs0 : Kd.V (Kd.int .i64) 3 w w.heap.size (fun k_ => P0_ k_) (.slice A0 l0.length c0) l0) (hr1 : Kd.C (Kd.int .i64) w A1 l1.length l1) (hc1 : l1.length ≤ c1) (hr2 : Kd.C k148 w A2 l2.length l2) (hc2 : l2.length ≤ c2) (h : gamehalllaw3_played.f k l0 l1 l2 a3 a4 = some r) :
    Calls Try.prog 31 #[.slice A0 l0.length c0, .slice A1 l1.length c1, .slice A2 l2.length c2, .int .i64 a3, .int .i64 a4] w fun e w' => e = .returned (.bool r) ∧ Below w.heap.size w w' := by
 have hu148 := Try.underlying148
 have HO0 := Aside0.mk (show Kd.V (Kd.int .i64) 3 w w.heap.size (fun k_ => (P0_ k_ ∨ w.heap.size ≤ k_)) (.slice A0 l0.length c0) l0 from Kd.V_mono hs0 (fun k_ hk => .inl hk))
 have HR1 := Aside0.mk hr1
 have HC1 := Aside0.mk hc1
 clear hr1 hc1
 have HR2 := Aside0.mk hr2
 have HC2 := Aside0.mk hc2
 clear hr2 hc2
 have HB := Aside0.mk (Below.refl w.heap.size w)
 have H : (gamehalllaw3_played.l0 k l0 l1 l2 a3 a4 l1 (l1.length : Int) 0) = some r := h
 clear h
 have H' := Aside0.mk H
 clear H
 go_enter Try.func31, Try.ntmps31
 go_wp2
 repeat (go_quiet (fail); try go_wp2)
 go_loopg [23] k (fun kq v23 w' => ∃ (x23_1 : Int), v23 = .int .i64 x23_1 ∧ Aside0 (gamehalllaw3_played.l0 kq l0 l1 l2 a3 a4 l1 (l1.length : Int) x23_1 = some r) ∧ Aside0 (kq ≤ k) ∧ Aside0 (Kd.V (Kd.int .i64) 3 w' w.heap.size (fun k_ => (P0_ k_ ∨ w.heap.size ≤ k_)) (.slice A0 l0.length c0) l0) ∧ Aside0 (Below w.heap.size w w'))
 case atStart => exact ⟨(0), (by first | rfl | (simp; done) | (simp [*]; done)), H', ⟨Nat.le_refl _⟩, ⟨by (with_reducible repeat (first | apply Kd.V_alloc | apply Kd.V_drewN | apply Kd.V_drew)); exact HO0.out⟩, ⟨by repeat (first | (with_reducible first | exact HB.out | apply below_alloc | apply pw_below_drewN | apply below_drew1) | exact HB.out)⟩⟩
 case round =>
  clear H'
  try clear c1
  try clear c2
  try clear p2
  try clear c3
  obtain ⟨x23_1, rfl, HA, HK1, HO_0, HB⟩ := hrel
  cases gk with
  | zero => exact absurd HA.out (by simp [gamehalllaw3_played.l0])
  | succ k1 =>
   have H := HA.out
   clear HA
   simp only [gamehalllaw3_played.l0] at H
   by_cases c6 : x23_1 < (l1.length : Int)
   ·rw [if_pos c6] at H
    have c6b0 : decide (x23_1 < (l1.length : Int)) = true := decide_eq_true c6
    clear c6
    by_cases c7 : 0 ≤ x23_1
    ·rw [if_pos c7] at H
     have c7b0 : decide (0 ≤ x23_1) = true := decide_eq_true c7
     clear c7
     by_cases c8 : x23_1 < (l1.length : Int)
     ·rw [if_pos c8] at H
      have c8b0 : decide (x23_1 < (l1.length : Int)) = true := decide_eq_true c8
      clear c8
      by_cases c9 : (rd l1 x23_1) = 0
      ·rw [if_pos c9] at H
       have c9b0 : ((rd l1 x23_1) == 0) = true := beq_iff_eq.mpr c9
       have c9b1 : ((rd l1 x23_1) != 0) = false := bne_eq_false_iff_eq.mpr c9
       clear c9
       have H' := Aside0.mk H
       clear H
       have p158 : 0 ≤ (x23_1 : Int) := of_decide_eq_true (by first | (with_reducible assumption) | assumption)
       have q158 : x23_1 < (l1.length : Int) := of_decide_eq_true (by first | (with_reducible assumption) | assumption)
       obtain ⟨ad158, e158, hx158_0⟩ := Kd.at_int HR1.out x23_1 p158 q158
       cases e158
       replace hx158_0 := (HB.out.cell (World.block_lt_of_cell? w _ hx158_0)).trans hx158_0
       replace p158 := eq_true p158
       replace q158 := eq_true q158
       go_wp2
       repeat (go_quiet (fail); try go_wp2)
       go_roundg k1
       case measure => have := HK1.out; omega
       case rel => exact ⟨(wrap64 (x23_1 + 1)), (by first | rfl | (simp; done) | (simp [*]; done)), H', ⟨by have := HK1.out; omega⟩, ⟨by (with_reducible repeat (first | apply Kd.V_alloc | apply Kd.V_drewN | apply Kd.V_drew)); exact HO_0.out⟩, ⟨by repeat (first | (with_reducible first | exact HB.out | apply below_alloc | apply pw_below_drewN | apply below_drew1) | exact HB.out)⟩⟩
      ·rw [if_neg c9] at H
       have c9b0 : ((rd l1 x23_1) == 0) = false := beq_eq_false_iff_ne.mpr c9
       have c9b1 : ((rd l1 x23_1) != 0) = true := bne_iff_ne.mpr c9
       by_cases c10 : (rd l1 x23_1) = 2
       ·rw [if_pos c10] at H
        have c10b0 : ((rd l1 x23_1) == 2) = true := beq_iff_eq.mpr c10
        have c10b1 : ((rd l1 x23_1) != 2) = false := bne_eq_false_iff_eq.mpr c10
        clear c10
        have H' := Aside0.mk H
        clear H
        have p158 : 0 ≤ (x23_1 : Int) := of_decide_eq_true (by first | (with_reducible assumption) | assumption)
        have q158 : x23_1 < (l1.length : Int) := of_decide_eq_true (by first | (with_reducible assumption) | assumption)
        obtain ⟨ad158, e158, hx158_0⟩ := Kd.at_int HR1.out x23_1 p158 q158
        cases e158
        replace hx158_0 := (HB.out.cell (World.block_lt_of_cell? w _ hx158_0)).trans hx158_0
        replace p158 := eq_true p158
        replace q158 := eq_true q158
        go_wp2
        repeat (go_quiet (fail); try go_wp2)
        go_roundg k1
        case measure => have := HK1.out; omega
        case rel => exact ⟨(wrap64 (x23_1 + 1)), (by first | rfl | (simp; done) | (simp [*]; done)), H', ⟨by have := HK1.out; omega⟩, ⟨by (with_reducible repeat (first | apply Kd.V_alloc | apply Kd.V_drewN | apply Kd.V_drew)); exact HO_0.out⟩, ⟨by repeat (first | (with_reducible first | exact HB.out | apply below_alloc | apply pw_below_drewN | apply below_drew1) | exact HB.out)⟩⟩
       ·rw [if_neg c10] at H
        have c10b0 : ((rd l1 x23_1) == 2) = false := beq_eq_false_iff_ne.mpr c10
        have c10b1 : ((rd l1 x23_1) != 2) = true := bne_iff_ne.mpr c10
        by_cases c11 : a4 = 4
        ·rw [if_pos c11] at H
         have c11b0 : (a4 == 4) = true := beq_iff_eq.mpr c11
         have c11b1 : (a4 != 4) = false := bne_eq_false_iff_eq.mpr c11
         clear c11
         obtain rfl := Option.some.inj H
         have p158 : 0 ≤ (x23_1 : Int) := of_decide_eq_true (by first | (with_reducible assumption) | assumption)
         have q158 : x23_1 < (l1.length : Int) := of_decide_eq_true (by first | (with_reducible assumption) | assumption)
         obtain ⟨ad158, e158, hx158_0⟩ := Kd.at_int HR1.out x23_1 p158 q158
         cases e158
         replace hx158_0 := (HB.out.cell (World.block_lt_of_cell? w _ hx158_0)).trans hx158_0
         replace p158 := eq_true p158
         replace q158 := eq_true q158
         go_wp2
         repeat (go_quiet (fail); try go_wp2)
         go_ret
         exact ⟨by first | rfl | (simp [errW_none, errW_some] <;> rfl) | (simp [*, errW_none, errW_some] <;> rfl), by repeat (first | (with_reducible first | exact HB.out | apply below_alloc | apply pw_below_drewN | apply below_drew1) | exact HB.out)⟩
        ·rw [if_neg c11] at H
         have c11b0 : (a4 == 4) = false := beq_eq_false_iff_ne.mpr c11
         have c11b1 : (a4 != 4) = true := bne_iff_ne.mpr c11
         obtain rfl := Option.some.inj H
         have p158 : 0 ≤ (x23_1 : Int) := of_decide_eq_true (by first | (with_reducible assumption) | assumption)
         have q158 : x23_1 < (l1.length : Int) := of_decide_eq_true (by first | (with_reducible assumption) | assumption)
         obtain ⟨ad158, e158, hx158_0⟩ := Kd.at_int HR1.out x23_1 p158 q158
         cases e158
         replace hx158_0 := (HB.out.cell (World.block_lt_of_cell? w _ hx158_0)).trans hx158_0
         replace p158 := eq_true p158
         replace q158 := eq_true q158
         go_wp2
         repeat (go_quiet (fail); try go_wp2)
         go_ret
         exact ⟨by first | rfl | (simp [errW_none, errW_some] <;> rfl) | (simp [*, errW_none, errW_some] <;> rfl), by repeat (first | (with_reducible first | exact HB.out | apply below_alloc | apply pw_below_drewN | apply below_drew1) | exact HB.out)⟩
     ·rw [if_neg c8] at H
      exact absurd H (by simp)
    ·rw [if_neg c7] at H
     exact absurd H (by simp)
   ·rw [if_neg c6] at H
    have c6b0 : decide (x23_1 < (l1.length : Int)) = false := decide_eq_false c6
    clear c6
    have H' := Aside0.mk H
    clear H
    go_wp2
    repeat (go_quiet (fail); try go_wp2)
    go_loopg [0, 13, 14, 15, 16] k1 (fun kq v0 v13 v14 v15 v16 w' => ∃ (x0_2 : List Int) (x13_2 : Int) (x14_2 : Int) (x15_2 : Bool) (x16_2 : Int), v13 = .int .i64 x13_2 ∧ v14 = .int .i64 x14_2 ∧ v15 = .bool x15_2 ∧ v16 = .int .i64 x16_2 ∧ Aside0 (gamehalllaw3_played.l1 kq x0_2 l1 l2 a3 a4 x13_2 x14_2 x15_2 x16_2 = some r) ∧ Aside0 (kq ≤ k1) ∧ Aside0 (Kd.V (Kd.int .i64) 3 w' w.heap.size (fun k_ => (P0_ k_ ∨ w.heap.size ≤ k_)) v0 x0_2) ∧ Aside0 (Below w.heap.size w w'))
    case atStart => exact ⟨(l0), (0), (0), (false), (0), (by first | rfl | (simp; done) | (simp [*]; done)), (by first | rfl | (simp; done) | (simp [*]; done)), (by first | rfl | (simp; done) | (simp [*]; done)), (by first | rfl | (simp; done) | (simp [*]; done)), H', ⟨Nat.le_refl _⟩, ⟨by (with_reducible repeat (first | apply Kd.V_alloc | apply Kd.V_drewN | apply Kd.V_drew)); exact HO_0.out⟩, ⟨by repeat (first | (with_reducible first | exact HB.out | apply below_alloc | apply pw_below_drewN | apply below_drew1) | exact HB.out)⟩⟩
    case round =>
     clear H'
     try clear c1
     try clear p1
     try clear q1
     try clear hx1
     try clear c2
     try clear p2
     try clear c3
     try clear c6
     try clear c6b0
     try clear p6
     try clear c7
     try clear c7b0
     try clear c8
     try clear c8b0
     try clear c9
     try clear c9b0
     try clear c9b1
     try clear c10
     try clear c10b0
     try clear c10b1
     try clear c11
     try clear c11b0
     try clear c11b1
     try clear hx158_0
     try clear p158
     try clear p2
     try clear q158
     obtain ⟨x0_2, x13_2, x14_2, x15_2, x16_2, rfl, rfl, rfl, rfl, HA, HK2, HO_0, HB⟩ := hrel
     cases gk with
     | zero => exact absurd HA.out (by simp [gamehalllaw3_played.l1])
     | succ k2 =>
      have H := HA.out
      clear HA
      simp only [gamehalllaw3_played.l1] at H
      have HC12 := Aside0.mk H
      clear H
      go_upto_region 9 with (fail)
      repeat (go_quiet (fail); go_upto_region 9 with (fail))
      go_cut [49] (fun v49 wc => ∃ (kq : Nat) (x49_11 : Bool), v49 = .bool x49_11 ∧ Aside0 (gamehalllaw3_played.j2 kq x0_2 l1 l2 a3 a4 x13_2 x14_2 x15_2 x16_2 x49_11 = some r) ∧ Aside0 (kq ≤ k2) ∧ Aside0 (Kd.V (Kd.int .i64) 3 wc w.heap.size (fun k_ => (P0_ k_ ∨ w.heap.size ≤ k_)) u0 x0_2) ∧ Aside0 (Below w.heap.size w wc))
      case first =>
       have H := HC12.out
       clear HC12
       by_cases c13 : (x0_2.length : Int) > 1
       ·rw [if_pos c13] at H
        have c13b0 : decide (1 < (x0_2.length : Int)) = true := decide_eq_true c13
        have c13b1 : decide (1 < x0_2.length) = true := decide_eq_true (by omega)
        clear c13
        (first | rw [c13b0] | (simp only [i64_w, i32_w]; rw [c13b0]) | skip)
        have H' := Aside0.mk H
        clear H
        obtain ⟨Ao14, co14, eo14⟩ := Kd.V_slice HO_0.out
        subst eo14
        go_wp2
        repeat (go_quiet (fail); try go_wp2)
        go_meet
        case rel => exact ⟨_, (!x15_2), (by first | rfl | (simp; done) | (simp [*]; done)), H', ⟨by have := HK1.out; have := HK2.out; first | omega | exact Nat.le_refl _⟩, ⟨by (with_reducible repeat (first | apply Kd.V_alloc | apply Kd.V_drewN | apply Kd.V_drew)); exact HO_0.out⟩, ⟨by repeat (first | (with_reducible first | exact HB.out | apply below_alloc | apply pw_below_drewN | apply below_drew1) | exact HB.out)⟩⟩
       ·rw [if_neg c13] at H
        have c13b0 : decide (1 < (x0_2.length : Int)) = false := decide_eq_false c13
        have c13b1 : decide (1 < x0_2.length) = false := decide_eq_false (by omega)
        clear c13
        (first | rw [c13b0] | (simp only [i64_w, i32_w]; rw [c13b0]) | skip)
        have H' := Aside0.mk H
        clear H
        obtain ⟨Ao15, co15, eo15⟩ := Kd.V_slice HO_0.out
        subst eo15
        go_wp2
        repeat (go_quiet (fail); try go_wp2)
        go_meet
        case rel => exact ⟨_, (false), (by first | rfl | (simp; done) | (simp [*]; done)), H', ⟨by have := HK1.out; have := HK2.out; first | omega | exact Nat.le_refl _⟩, ⟨by (with_reducible repeat (first | apply Kd.V_alloc | apply Kd.V_drewN | apply Kd.V_drew)); exact HO_0.out⟩, ⟨by repeat (first | (with_reducible first | exact HB.out | apply below_alloc | apply pw_below_drewN | apply below_drew1) | exact HB.out)⟩⟩
      case rest =>
       clear HC12
       try clear c1
       try clear p1
       try clear q1
       try clear hx1
       try clear c2
       try clear p2
       try clear c3
       try clear c6
       try clear c6b0
       try clear p6
       try clear c7
       try clear c7b0
       try clear c8
       try clear c8b0
       try clear c9
       try clear c9b0
       try clear c9b1
       try clear c10
       try clear c10b0
       try clear c10b1
       try clear c11
       try clear c11b0
       try clear c11b1
       try clear c13
       try clear c13b0
       try clear c13b1
       try clear p15
       try clear q15
       try clear hx15
       try clear hx158_0
       try clear p1
       try clear p158
       try clear p2
       try clear p6
       try clear q1
       try clear q158
       obtain ⟨kq, x49_11, rfl, HA, HJ11, HO_0, HB⟩ := hcut
       cases kq with
       | zero => exact absurd HA.out (by simp [gamehalllaw3_played.j2])
       | succ kj11 =>
        have H := HA.out
        clear HA
        simp only [gamehalllaw3_played.j2] at H
        by_cases c16 : x49_11 = true
        ·subst c16
         have H1 : (if 0 ≤ (wrap64 ((x0_2.length : Int) / 2)) then (if (wrap64 ((x0_2.length : Int) / 2) : Int).toNat ≤ 35184372088832 then ((some (List.replicate (wrap64 ((x0_2.length : Int) / 2) : Int).toNat 0 : List Int)).bind fun y159 => (gamehalllaw3_played.l2 kj11 x0_2 l1 l2 a3 a4 x13_2 x14_2 x15_2 x16_2 y159 (y159.length : Int) 0)) else (none)) else (none)) = some r := by rw [if_pos rfl] at H; exact H
         clear H
         have H := H1
         clear H1
         obtain ⟨ji17, hji17⟩ : ∃ j_ : Int, (wrap64 ((x0_2.length : Int) / 2)) = j_ := ⟨_, rfl⟩
         replace H : (if 0 ≤ (ji17) then (if (ji17 : Int).toNat ≤ 35184372088832 then ((some (List.replicate (ji17 : Int).toNat 0 : List Int)).bind fun y159 => (gamehalllaw3_played.l2 kj11 x0_2 l1 l2 a3 a4 x13_2 x14_2 x15_2 x16_2 y159 (y159.length : Int) 0)) else (none)) else (none)) = some r := by first | (rw [hji17] at H; exact H) | (simp only [hji17] at H ⊢; exact H)
         have hji17w : (IntKind.i64.wrap ((x0_2.length : Int) / 2)) = ji17 := (i64_w _).trans hji17
         by_cases c18 : 0 ≤ (ji17)
         ·rw [if_pos c18] at H
          have c18b0 := eq_true c18
          have c18b1 : decide (0 ≤ (ji17)) = true := decide_eq_true c18
          clear c18
          by_cases c19 : (ji17 : Int).toNat ≤ 35184372088832
          ·rw [if_pos c19] at H
           have c19b0 := eq_true c19
           have c19b1 : decide ((ji17 : Int).toNat ≤ 35184372088832) = true := decide_eq_true c19
           clear c19
           obtain ⟨y159, hy159⟩ : ∃ y_ : List Int, y_ = (List.replicate (ji17 : Int).toNat 0) := ⟨_, rfl⟩
           replace H : (gamehalllaw3_played.l2 kj11 x0_2 l1 l2 a3 a4 x13_2 x14_2 x15_2 x16_2 y159 (y159.length : Int) 0) = some r := by first | (rw [hy159]; with_reducible exact H) | (have H2_ := (Option.bind_some _ _).symm.trans H; rw [hy159]; with_reducible exact H2_) | (have H2_ := (Option.bind_some _ _).symm.trans H; with_reducible exact H2_) | with_reducible exact H | (rw [hy159]; exact H) | exact H
           have Ny159 := Aside0.mk hy159
           clear hy159
           have H' := Aside0.mk H
           clear H
           obtain ⟨Ao20, co20, eo20⟩ := Kd.V_slice HO_0.out
           subst eo20
           go_wp2_with (first | ((with_reducible refine gate_dst (N := 55) rfl ?_); (try (refine gate_guard (by rfl) ?_; dsimp only)); refine Kd.R_make (Kd.int .i64) _ 3 rfl (N := 55) rfl 23 _ _ rfl ji17 rfl rfl Try.underlying23 (.int .i64 0) 8 info3 rfl (by decide) (by omega) 0 (ok := fun _ => True) (okp := fun _ => True) rfl (fun _ hk => hk) trivial (of_decide_eq_true (by first | (with_reducible assumption) | assumption)) (Nat.le_trans (Nat.mul_le_mul_right _ (of_decide_eq_true (by first | (with_reducible assumption) | assumption) : ji17.toNat ≤ 35184372088832)) (by omega)) (Below.refl _ _) (Nat.le_refl _) ?_; intro v160 w21 ho22 hb hg_ hnew_; clear hg_ hnew_; (first | rw [← Ny159.out] at ho22 | (simp only [Int.reduceToNat] at ho22; rw [← Ny159.out] at ho22)); have n0_ := Aside0.mk (Kd.V_elder' (by (with_reducible repeat (first | apply Kd.V_alloc | apply Kd.V_drewN | apply Kd.V_drew)); exact HO_0.out) (Kd.R_base ho22) hb); have n1_ := Aside0.mk (Kd.R_lower (Kd.R_newM (M := fun k_ => (w.heap.size ≤ k_)) ho22 (below_size (by repeat (first | (with_reducible first | exact HB.out | apply below_alloc | apply pw_below_drewN | apply below_drew1) | exact HB.out))) (fun k_ h_ => h_)) (below_size (by repeat (first | (with_reducible first | exact HB.out | apply below_alloc | apply pw_below_drewN | apply below_drew1) | exact HB.out)))); have n2_ := Aside0.mk (below_step (by repeat (first | (with_reducible first | exact HB.out | apply below_alloc | apply pw_below_drewN | apply below_drew1) | exact HB.out)) hb); clear HO_0; clear HB; have HO_0 := n0_; have HO161 := n1_; have HB := n2_; clear n0_ n1_ n2_; clear hb ho22; obtain ⟨Ao23, co23, eo23⟩ := Kd.R_slice HO161.out; subst eo23))
           repeat (go_quiet (first | ((with_reducible refine gate_dst (N := 55) rfl ?_); (try (refine gate_guard (by rfl) ?_; dsimp only)); refine Kd.R_make (Kd.int .i64) _ 3 rfl (N := 55) rfl 23 _ _ rfl ji17 rfl rfl Try.underlying23 (.int .i64 0) 8 info3 rfl (by decide) (by omega) 0 (ok := fun _ => True) (okp := fun _ => True) rfl (fun _ hk => hk) trivial (of_decide_eq_true (by first | (with_reducible assumption) | assumption)) (Nat.le_trans (Nat.mul_le_mul_right _ (of_decide_eq_true (by first | (with_reducible assumption) | assumption) : ji17.toNat ≤ 35184372088832)) (by omega)) (Below.refl _ _) (Nat.le_refl _) ?_; intro v160 w21 ho22 hb hg_ hnew_; clear hg_ hnew_; (first | rw [← Ny159.out] at ho22 | (simp only [Int.reduceToNat] at ho22; rw [← Ny159.out] at ho22)); have n0_ := Aside0.mk (Kd.V_elder' (by (with_reducible repeat (first | apply Kd.V_alloc | apply Kd.V_drewN | apply Kd.V_drew)); exact HO_0.out) (Kd.R_base ho22) hb); have n1_ := Aside0.mk (Kd.R_lower (Kd.R_newM (M := fun k_ => (w.heap.size ≤ k_)) ho22 (below_size (by repeat (first | (with_reducible first | exact HB.out | apply below_alloc | apply pw_below_drewN | apply below_drew1) | exact HB.out))) (fun k_ h_ => h_)) (below_size (by repeat (first | (with_reducible first | exact HB.out | apply below_alloc | apply pw_below_drewN | apply below_drew1) | exact HB.out)))); have n2_ := Aside0.mk (below_step (by repeat (first | (with_reducible first | exact HB.out | apply below_alloc | apply pw_below_drewN | apply below_drew1) | exact HB.out)) hb); clear HO_0; clear HB; have HO_0 := n0_; have HO161 := n1_; have HB := n2_; clear n0_ n1_ n2_; clear hb ho22; obtain ⟨Ao23, co23, eo23⟩ := Kd.R_slice HO161.out; subst eo23)); try go_wp2_with (first | ((with_reducible refine gate_dst (N := 55) rfl ?_); (try (refine gate_guard (by rfl) ?_; dsimp only)); refine Kd.R_make (Kd.int .i64) _ 3 rfl (N := 55) rfl 23 _ _ rfl ji17 rfl rfl Try.underlying23 (.int .i64 0) 8 info3 rfl (by decide) (by omega) 0 (ok := fun _ => True) (okp := fun _ => True) rfl (fun _ hk => hk) trivial (of_decide_eq_true (by first | (with_reducible assumption) | assumption)) (Nat.le_trans (Nat.mul_le_mul_right _ (of_decide_eq_true (by first | (with_reducible assumption) | assumption) : ji17.toNat ≤ 35184372088832)) (by omega)) (Below.refl _ _) (Nat.le_refl _) ?_; intro v160 w21 ho22 hb hg_ hnew_; clear hg_ hnew_; (first | rw [← Ny159.out] at ho22 | (simp only [Int.reduceToNat] at ho22; rw [← Ny159.out] at ho22)); have n0_ := Aside0.mk (Kd.V_elder' (by (with_reducible repeat (first | apply Kd.V_alloc | apply Kd.V_drewN | apply Kd.V_drew)); exact HO_0.out) (Kd.R_base ho22) hb); have n1_ := Aside0.mk (Kd.R_lower (Kd.R_newM (M := fun k_ => (w.heap.size ≤ k_)) ho22 (below_size (by repeat (first | (with_reducible first | exact HB.out | apply below_alloc | apply pw_below_drewN | apply below_drew1) | exact HB.out))) (fun k_ h_ => h_)) (below_size (by repeat (first | (with_reducible first | exact HB.out | apply below_alloc | apply pw_below_drewN | apply below_drew1) | exact HB.out)))); have n2_ := Aside0.mk (below_step (by repeat (first | (with_reducible first | exact HB.out | apply below_alloc | apply pw_below_drewN | apply below_drew1) | exact HB.out)) hb); clear HO_0; clear HB; have HO_0 := n0_; have HO161 := n1_; have HB := n2_; clear n0_ n1_ n2_; clear hb ho22; obtain ⟨Ao23, co23, eo23⟩ := Kd.R_slice HO161.out; subst eo23)))
           go_loopg [13, 14, 15, 58] kj11 (fun kq v13 v14 v15 v58 w' => ∃ (x13_4 : Int) (x14_4 : Int) (x15_4 : Bool) (x17_4 : List Int) (x58_4 : Int), v13 = .int .i64 x13_4 ∧ v14 = .int .i64 x14_4 ∧ v15 = .bool x15_4 ∧ v58 = .int .i64 x58_4 ∧ Aside0 (gamehalllaw3_played.l2 kq x0_2 l1 l2 a3 a4 x13_4 x14_4 x15_4 x16_2 x17_4 (y159.length : Int) x58_4 = some r) ∧ Aside0 (kq ≤ kj11) ∧ Aside0 (Kd.V (Kd.int .i64) 3 w' w.heap.size (fun k_ => (P0_ k_ ∨ w.heap.size ≤ k_) ∧ some k_ ≠ ((.slice Ao23 y159.length co23) : Value).ownBlock) (.slice Ao20 x0_2.length co20) x0_2) ∧ Aside0 (Kd.R (Kd.int .i64) 3 w' w.heap.size (fun k_ => (w.heap.size ≤ k_)) (.slice Ao23 y159.length co23) x17_4) ∧ Aside0 (Below w.heap.size w w'))
           case atStart => exact ⟨(x13_2), (x14_2), (x15_2), (y159), (0), (by first | rfl | (simp; done) | (simp [*]; done)), (by first | rfl | (simp; done) | (simp [*]; done)), (by first | rfl | (simp; done) | (simp [*]; done)), (by first | rfl | (simp; done) | (simp [*]; done)), H', ⟨Nat.le_refl _⟩, ⟨by (with_reducible repeat (first | apply Kd.V_alloc | apply Kd.V_drewN | apply Kd.V_drew)); exact HO_0.out⟩, ⟨by (with_reducible repeat (first | apply Kd.R_alloc | apply Kd.R_drewN | apply Kd.R_drew)); exact Kd.R_mono HO161.out (fun _ hk => hk.1)⟩, ⟨by repeat (first | (with_reducible first | exact HB.out | apply below_alloc | apply pw_below_drewN | apply below_drew1) | exact HB.out)⟩⟩
           case round =>
            clear H'
            try clear c1
            try clear p1
            try clear q1
            try clear hx1
            try clear c2
            try clear p2
            try clear c3
            try clear c6
            try clear c6b0
            try clear p6
            try clear c7
            try clear c7b0
            try clear c8
            try clear c8b0
            try clear c9
            try clear c9b0
            try clear c9b1
            try clear c10
            try clear c10b0
            try clear c10b1
            try clear c11
            try clear c11b0
            try clear c11b1
            try clear c13
            try clear c13b0
            try clear c13b1
            try clear p15
            try clear q15
            try clear hx15
            try clear c16
            try clear c18
            try clear c18b0
            try clear c18b1
            try clear c19
            try clear c19b0
            try clear c19b1
            try clear hx158_0
            try clear p1
            try clear p15
            try clear p158
            try clear p2
            try clear p6
            try clear q1
            try clear q15
            try clear q158
            obtain ⟨x13_4, x14_4, x15_4, x17_4, x58_4, rfl, rfl, rfl, rfl, HA, HK4, HO_0, HO_17, HB⟩ := hrel
            have hl17_4 := (Kd.R_reads' HO_17.out).1
            rw [hl17_4] at HO_17
            (try simp only [hl17_4])
            (try simp only [hl17_4] at HO_0)
            cases gk with
            | zero => exact absurd HA.out (by simp [gamehalllaw3_played.l2])
            | succ k4 =>
             have H := HA.out
             clear HA
             simp only [gamehalllaw3_played.l2] at H
             by_cases c24 : x58_4 < (y159.length : Int)
             ·rw [if_pos c24] at H
              have c24b0 : decide (x58_4 < (y159.length : Int)) = true := decide_eq_true c24
              (try (have c24b0l := c24b0; simp only [hl17_4] at c24b0l))
              clear c24
              obtain ⟨ji25, hji25⟩ : ∃ j_ : Int, (wrap64 (2 * x58_4)) = j_ := ⟨_, rfl⟩
              replace H : (if 0 ≤ (ji25) then (if (ji25) < (x0_2.length : Int) then (if 0 ≤ (wrap64 ((ji25) + 1)) then (if (wrap64 ((ji25) + 1)) < (x0_2.length : Int) then (if a4 = 0 then (if x14_4 ≥ (l2.length : Int) then (gamehalllaw3_played.j4 k4 x0_2 l1 l2 a3 a4 x13_4 x14_4 x15_4 x16_2 x17_4 x58_4 (rd x0_2 (ji25)) (rd x0_2 (wrap64 ((ji25) + 1))) (y159.length : Int) x58_4 true) else (if 0 ≤ x14_4 then (if x14_4 < (l2.length : Int) then (gamehalllaw3_played.j4 k4 x0_2 l1 l2 a3 a4 x13_4 x14_4 x15_4 x16_2 x17_4 x58_4 (rd x0_2 (ji25)) (rd x0_2 (wrap64 ((ji25) + 1))) (y159.length : Int) x58_4 (!(((rd_T148 l2 x14_4).f0) == x16_2) || (!(((rd_T148 l2 x14_4).f1) == (rd x0_2 (ji25))) || (!(((rd_T148 l2 x14_4).f2) == (rd x0_2 (wrap64 ((ji25) + 1)))))))) else (none)) else (none))) else (gamehalllaw3_played.j4 k4 x0_2 l1 l2 a3 a4 x13_4 x14_4 x15_4 x16_2 x17_4 x58_4 (rd x0_2 (ji25)) (rd x0_2 (wrap64 ((ji25) + 1))) (y159.length : Int) x58_4 false)) else (none)) else (none)) else (none)) else (none)) = some r := by first | (rw [hji25] at H; exact H) | (simp only [hji25] at H ⊢; exact H)
              have hji25w : (IntKind.i64.wrap (2 * x58_4)) = ji25 := (i64_w _).trans hji25
              by_cases c26 : 0 ≤ (ji25)
              ·rw [if_pos c26] at H
               have c26b0 : decide (0 ≤ (ji25)) = true := decide_eq_true c26
               clear c26
               by_cases c27 : (ji25) < (x0_2.length : Int)
               ·rw [if_pos c27] at H
                have c27b0 : decide ((ji25) < (x0_2.length : Int)) = true := decide_eq_true c27
                (try (have c27b0l := c27b0; simp only [hl17_4] at c27b0l))
                clear c27
                obtain ⟨ji28, hji28⟩ : ∃ j_ : Int, (wrap64 ((ji25) + 1)) = j_ := ⟨_, rfl⟩
                replace H : (if 0 ≤ (ji28) then (if (ji28) < (x0_2.length : Int) then (if a4 = 0 then (if x14_4 ≥ (l2.length : Int) then (gamehalllaw3_played.j4 k4 x0_2 l1 l2 a3 a4 x13_4 x14_4 x15_4 x16_2 x17_4 x58_4 (rd x0_2 (ji25)) (rd x0_2 (ji28)) (y159.length : Int) x58_4 true) else (if 0 ≤ x14_4 then (if x14_4 < (l2.length : Int) then (gamehalllaw3_played.j4 k4 x0_2 l1 l2 a3 a4 x13_4 x14_4 x15_4 x16_2 x17_4 x58_4 (rd x0_2 (ji25)) (rd x0_2 (ji28)) (y159.length : Int) x58_4 (!(((rd_T148 l2 x14_4).f0) == x16_2) || (!(((rd_T148 l2 x14_4).f1) == (rd x0_2 (ji25))) || (!(((rd_T148 l2 x14_4).f2) == (rd x0_2 (ji28))))))) else (none)) else (none))) else (gamehalllaw3_played.j4 k4 x0_2 l1 l2 a3 a4 x13_4 x14_4 x15_4 x16_2 x17_4 x58_4 (rd x0_2 (ji25)) (rd x0_2 (ji28)) (y159.length : Int) x58_4 false)) else (none)) else (none)) = some r := by first | (rw [hji28] at H; exact H) | (simp only [hji28] at H ⊢; exact H)
                have hji28w : (IntKind.i64.wrap ((ji25) + 1)) = ji28 := (i64_w _).trans hji28
                by_cases c29 : 0 ≤ (ji28)
                ·rw [if_pos c29] at H
                 have c29b0 : decide (0 ≤ (ji28)) = true := decide_eq_true c29
                 clear c29
                 by_cases c30 : (ji28) < (x0_2.length : Int)
                 ·rw [if_pos c30] at H
                  have c30b0 : decide ((ji28) < (x0_2.length : Int)) = true := decide_eq_true c30
                  (try (have c30b0l := c30b0; simp only [hl17_4] at c30b0l))
                  clear c30
                  have HC31 := Aside0.mk H
                  clear H
                  have p162 : 0 ≤ ((ji25) : Int) := of_decide_eq_true (by first | (with_reducible assumption) | assumption)
                  have q162 : (ji25) < (x0_2.length : Int) := of_decide_eq_true (by first | (with_reducible assumption) | assumption)
                  obtain ⟨ad162, e162, hx162_0⟩ := Kd.at_int (Kd.V_reads' HO_0.out).2.2 (ji25) p162 q162
                  cases e162
                  replace p162 := eq_true p162
                  replace q162 := eq_true q162
                  have p163 : 0 ≤ ((ji28) : Int) := of_decide_eq_true (by first | (with_reducible assumption) | assumption)
                  have q163 : (ji28) < (x0_2.length : Int) := of_decide_eq_true (by first | (with_reducible assumption) | assumption)
                  obtain ⟨ad163, e163, hx163_0⟩ := Kd.at_int (Kd.V_reads' HO_0.out).2.2 (ji28) p163 q163
                  obtain rfl : ad162 = ad163 := (by injection e163)
                  replace p163 := eq_true p163
                  replace q163 := eq_true q163
                  go_upto_region 16 with (fail)
                  repeat (go_quiet (fail); go_upto_region 16 with (fail))
                  go_cut [90] (fun v90 wc => ∃ (kq : Nat) (x90_30 : Bool), v90 = .bool x90_30 ∧ Aside0 (gamehalllaw3_played.j4 kq x0_2 l1 l2 a3 a4 x13_4 x14_4 x15_4 x16_2 x17_4 x58_4 (rd x0_2 (ji25)) (rd x0_2 (ji28)) (y159.length : Int) x58_4 x90_30 = some r) ∧ Aside0 (kq ≤ k4) ∧ Aside0 (Kd.V (Kd.int .i64) 3 wc w.heap.size (fun k_ => (P0_ k_ ∨ w.heap.size ≤ k_) ∧ some k_ ≠ ((.slice Ao23 x17_4.length co23) : Value).ownBlock) (.slice (some ad162) x0_2.length co20) x0_2) ∧ Aside0 (Kd.R (Kd.int .i64) 3 wc w.heap.size (fun k_ => (w.heap.size ≤ k_)) (.slice Ao23 x17_4.length co23) x17_4) ∧ Aside0 (Below w.heap.size w wc))
                  case first =>
                   have H := HC31.out
                   clear HC31
                   by_cases c32 : a4 = 0
                   ·rw [if_pos c32] at H
                    have c32b0 : (a4 == 0) = true := beq_iff_eq.mpr c32
                    have c32b1 : (a4 != 0) = false := bne_eq_false_iff_eq.mpr c32
                    clear c32
                    (first | rw [c32b0] | (simp only [i64_w, i32_w]; rw [c32b0]) | skip)
                    by_cases c33 : x14_4 ≥ (l2.length : Int)
                    ·rw [if_pos c33] at H
                     have c33b0 : decide ((l2.length : Int) ≤ x14_4) = true := decide_eq_true c33
                     clear c33
                     have H' := Aside0.mk H
                     clear H
                     go_wp2
                     repeat (go_quiet (fail); try go_wp2)
                     go_meet
                     case rel => exact ⟨_, (true), (by first | rfl | (simp; done) | (simp [*]; done)), H', ⟨by have := HK1.out; have := HK2.out; have := HJ11.out; have := HK4.out; first | omega | exact Nat.le_refl _⟩, ⟨by (try simp only [hl17_4]); (with_reducible repeat (first | apply Kd.V_alloc | apply Kd.V_drewN | apply Kd.V_drew)); exact HO_0.out⟩, ⟨by (try simp only [hl17_4]); (with_reducible repeat (first | apply Kd.R_alloc | apply Kd.R_drewN | apply Kd.R_drew)); exact HO_17.out⟩, ⟨by repeat (first | (with_reducible first | exact HB.out | apply below_alloc | apply pw_below_drewN | apply below_drew1) | exact HB.out)⟩⟩
                    ·rw [if_neg c33] at H
                     have c33b0 : decide ((l2.length : Int) ≤ x14_4) = false := decide_eq_false c33
                     clear c33
                     by_cases c34 : 0 ≤ x14_4
                     ·rw [if_pos c34] at H
                      have c34b0 : decide (0 ≤ x14_4) = true := decide_eq_true c34
                      clear c34
                      by_cases c35 : x14_4 < (l2.length : Int)
                      ·rw [if_pos c35] at H
                       have c35b0 : decide (x14_4 < (l2.length : Int)) = true := decide_eq_true c35
                       clear c35
                       have H' := Aside0.mk H
                       clear H
                       have p164 : 0 ≤ (x14_4 : Int) := of_decide_eq_true (by first | (with_reducible assumption) | assumption)
                       have q164 : x14_4 < (l2.length : Int) := of_decide_eq_true (by first | (with_reducible assumption) | assumption)
                       obtain ⟨ad164, e164, hx164_0, hx164_1, hx164_2⟩ := at_T148 HR2.out x14_4 p164 q164
                       cases e164
                       replace hx164_0 := (HB.out.cell (World.block_lt_of_cell? w _ hx164_0)).trans hx164_0
                       replace hx164_1 := (HB.out.cell (World.block_lt_of_cell? w _ hx164_1)).trans hx164_1
                       replace hx164_2 := (HB.out.cell (World.block_lt_of_cell? w _ hx164_2)).trans hx164_2
                       replace p164 := eq_true p164
                       replace q164 := eq_true q164
                       go_wp2
                       repeat (go_quiet (fail); try go_wp2)
                       go_meet
                       case rel => exact ⟨_, ((!(((rd_T148 l2 x14_4).f0) == x16_2) || (!(((rd_T148 l2 x14_4).f1) == (rd x0_2 (ji25))) || (!(((rd_T148 l2 x14_4).f2) == (rd x0_2 (ji28))))))), (by first | rfl | (simp; done) | (simp only [← hji25, ← hji28] <;> (first | rfl | simp)) | (simp [*]; done)), H', ⟨by have := HK1.out; have := HK2.out; have := HJ11.out; have := HK4.out; first | omega | exact Nat.le_refl _⟩, ⟨by (try simp only [hl17_4]); (with_reducible repeat (first | apply Kd.V_alloc | apply Kd.V_drewN | apply Kd.V_drew)); exact HO_0.out⟩, ⟨by (try simp only [hl17_4]); (with_reducible repeat (first | apply Kd.R_alloc | apply Kd.R_drewN | apply Kd.R_drew)); exact HO_17.out⟩, ⟨by repeat (first | (with_reducible first | exact HB.out | apply below_alloc | apply pw_below_drewN | apply below_drew1) | exact HB.out)⟩⟩
                      ·rw [if_neg c35] at H
                       exact absurd H (by simp)
                     ·rw [if_neg c34] at H
                      exact absurd H (by simp)
                   ·rw [if_neg c32] at H
                    have c32b0 : (a4 == 0) = false := beq_eq_false_iff_ne.mpr c32
                    have c32b1 : (a4 != 0) = true := bne_iff_ne.mpr c32
                    (first | rw [c32b0] | (simp only [i64_w, i32_w]; rw [c32b0]) | skip)
                    have H' := Aside0.mk H
                    clear H
                    go_wp2
                    repeat (go_quiet (fail); try go_wp2)
                    go_meet
                    case rel => exact ⟨_, (false), (by first | rfl | (simp; done) | (simp [*]; done)), H', ⟨by have := HK1.out; have := HK2.out; have := HJ11.out; have := HK4.out; first | omega | exact Nat.le_refl _⟩, ⟨by (try simp only [hl17_4]); (with_reducible repeat (first | apply Kd.V_alloc | apply Kd.V_drewN | apply Kd.V_drew)); exact HO_0.out⟩, ⟨by (try simp only [hl17_4]); (with_reducible repeat (first | apply Kd.R_alloc | apply Kd.R_drewN | apply Kd.R_drew)); exact HO_17.out⟩, ⟨by repeat (first | (with_reducible first | exact HB.out | apply below_alloc | apply pw_below_drewN | apply below_drew1) | exact HB.out)⟩⟩
                  case rest =>
                   clear HC31
                   try clear c1
                   try clear p1
                   try clear q1
                   try clear hx1
                   try clear c2
                   try clear p2
                   try clear c3
                   try clear c6
                   try clear c6b0
                   try clear p6
                   try clear c7
                   try clear c7b0
                   try clear c8
                   try clear c8b0
                   try clear c9
                   try clear c9b0
                   try clear c9b1
                   try clear c10
                   try clear c10b0
                   try clear c10b1
                   try clear c11
                   try clear c11b0
                   try clear c11b1
                   try clear c13
                   try clear c13b0
                   try clear c13b1
                   try clear p15
                   try clear q15
                   try clear hx15
                   try clear c16
                   try clear p16
                   try clear q16
                   try clear hx16
                   try clear c18
                   try clear c18b0
                   try clear c18b1
                   try clear c19
                   try clear c19b0
                   try clear c19b1
                   try clear c24
                   try clear c24b0
                   try clear c26
                   try clear c26b0
                   try clear c27
                   try clear c27b0
                   try clear c29
                   try clear c29b0
                   try clear c30
                   try clear c30b0
                   try clear c31
                   try clear c32
                   try clear c32b0
                   try clear c32b1
                   try clear c33
                   try clear c33b0
                   try clear c34
                   try clear c34b0
                   try clear c35
                   try clear c35b0
                   try clear hx158_0
                   try clear hx162_0
                   try clear hx163_0
                   try clear hx164_0
                   try clear hx164_1
                   try clear hx164_2
                   try clear p1
                   try clear p15
                   try clear p158
                   try clear p162
                   try clear p163
                   try clear p164
                   try clear p2
                   try clear p6
                   try clear q1
                   try clear q15
                   try clear q158
                   try clear q162
                   try clear q163
                   try clear q164
                   obtain ⟨kq, x90_30, rfl, HA, HJ30, HO_0, HO_17, HB⟩ := hcut
                   cases kq with
                   | zero => exact absurd HA.out (by simp [gamehalllaw3_played.j4])
                   | succ kj30 =>
                    have H := HA.out
                    clear HA
                    simp only [gamehalllaw3_played.j4] at H
                    by_cases c36 : x90_30 = true
                    ·subst c36
                     have H1 : (some false) = some r := by rw [if_pos rfl] at H; exact H
                     clear H
                     have H := H1
                     clear H1
                     obtain rfl := Option.some.inj H
                     go_wp2
                     repeat (go_quiet (fail); try go_wp2)
                     go_ret
                     exact ⟨by first | rfl | (simp [errW_none, errW_some] <;> rfl) | (simp only [← hji17, ← hji25, ← hji28]; first | rfl | (simp [errW_none, errW_some] <;> rfl)) | (simp [*, errW_none, errW_some] <;> rfl), by repeat (first | (with_reducible first | exact HB.out | apply below_alloc | apply pw_below_drewN | apply below_drew1) | exact HB.out)⟩
                    ·replace c36 := Bool.eq_false_iff.mpr c36
                     subst c36
                     have H1 : (if (rd x0_2 (ji25)) = (-1) then (gamehalllaw3_played.j5 kj30 x0_2 l1 l2 a3 a4 x13_4 (wrap64 (x14_4 + 1)) x15_4 x16_2 x17_4 x58_4 (rd x0_2 (ji25)) (rd x0_2 (ji28)) (y159.length : Int) x58_4 true) else (gamehalllaw3_played.j5 kj30 x0_2 l1 l2 a3 a4 x13_4 (wrap64 (x14_4 + 1)) x15_4 x16_2 x17_4 x58_4 (rd x0_2 (ji25)) (rd x0_2 (ji28)) (y159.length : Int) x58_4 ((rd x0_2 (ji28)) == (-1)))) = some r := by rw [if_neg (show ¬ (false = true) by decide)] at H; exact H
                     clear H
                     have H := H1
                     clear H1
                     have HC37 := Aside0.mk H
                     clear H
                     go_upto_region 23 with (fail)
                     repeat (go_quiet (fail); go_upto_region 23 with (fail))
                     go_cut [108] (fun v108 wc => ∃ (kq : Nat) (x108_36 : Bool), v108 = .bool x108_36 ∧ Aside0 (gamehalllaw3_played.j5 kq x0_2 l1 l2 a3 a4 x13_4 (wrap64 (x14_4 + 1)) x15_4 x16_2 x17_4 x58_4 (rd x0_2 (ji25)) (rd x0_2 (ji28)) (y159.length : Int) x58_4 x108_36 = some r) ∧ Aside0 (kq ≤ kj30) ∧ Aside0 (Kd.V (Kd.int .i64) 3 wc w.heap.size (fun k_ => (P0_ k_ ∨ w.heap.size ≤ k_) ∧ some k_ ≠ ((.slice Ao23 x17_4.length co23) : Value).ownBlock) (.slice (some ad162) x0_2.length co20) x0_2) ∧ Aside0 (Kd.R (Kd.int .i64) 3 wc w.heap.size (fun k_ => (w.heap.size ≤ k_)) (.slice Ao23 x17_4.length co23) x17_4) ∧ Aside0 (Below w.heap.size w wc))
                     case first =>
                      have H := HC37.out
                      clear HC37
                      by_cases c38 : (rd x0_2 (ji25)) = (-1)
                      ·rw [if_pos c38] at H
                       have c38b0 : ((rd x0_2 (ji25)) == (-1)) = true := beq_iff_eq.mpr c38
                       have c38b1 : ((rd x0_2 (ji25)) != (-1)) = false := bne_eq_false_iff_eq.mpr c38
                       clear c38
                       (first | rw [c38b0] | (simp only [i64_w, i32_w]; rw [c38b0]) | skip)
                       have H' := Aside0.mk H
                       clear H
                       go_wp2
                       repeat (go_quiet (fail); try go_wp2)
                       go_meet
                       case rel => exact ⟨_, (true), (by first | rfl | (simp; done) | (simp [*]; done)), H', ⟨by have := HK1.out; have := HK2.out; have := HJ11.out; have := HK4.out; have := HJ30.out; first | omega | exact Nat.le_refl _⟩, ⟨by (try simp only [hl17_4]); (with_reducible repeat (first | apply Kd.V_alloc | apply Kd.V_drewN | apply Kd.V_drew)); exact HO_0.out⟩, ⟨by (try simp only [hl17_4]); (with_reducible repeat (first | apply Kd.R_alloc | apply Kd.R_drewN | apply Kd.R_drew)); exact HO_17.out⟩, ⟨by repeat (first | (with_reducible first | exact HB.out | apply below_alloc | apply pw_below_drewN | apply below_drew1) | exact HB.out)⟩⟩
                      ·rw [if_neg c38] at H
                       have c38b0 : ((rd x0_2 (ji25)) == (-1)) = false := beq_eq_false_iff_ne.mpr c38
                       have c38b1 : ((rd x0_2 (ji25)) != (-1)) = true := bne_iff_ne.mpr c38
                       (first | rw [c38b0] | (simp only [i64_w, i32_w]; rw [c38b0]) | skip)
                       have H' := Aside0.mk H
                       clear H
                       go_wp2
                       repeat (go_quiet (fail); try go_wp2)
                       go_meet
                       case rel => exact ⟨_, (((rd x0_2 (ji28)) == (-1))), (by first | rfl | (simp; done) | (simp only [← hji28] <;> (first | rfl | simp)) | (simp [*]; done)), H', ⟨by have := HK1.out; have := HK2.out; have := HJ11.out; have := HK4.out; have := HJ30.out; first | omega | exact Nat.le_refl _⟩, ⟨by (try simp only [hl17_4]); (with_reducible repeat (first | apply Kd.V_alloc | apply Kd.V_drewN | apply Kd.V_drew)); exact HO_0.out⟩, ⟨by (try simp only [hl17_4]); (with_reducible repeat (first | apply Kd.R_alloc | apply Kd.R_drewN | apply Kd.R_drew)); exact HO_17.out⟩, ⟨by repeat (first | (with_reducible first | exact HB.out | apply below_alloc | apply pw_below_drewN | apply below_drew1) | exact HB.out)⟩⟩
                     case rest =>
                      clear HC37
                      try clear c1
                      try clear p1
                      try clear q1
                      try clear hx1
                      try clear c2
                      try clear p2
                      try clear c3
                      try clear c6
                      try clear c6b0
                      try clear p6
                      try clear c7
                      try clear c7b0
                      try clear c8
                      try clear c8b0
                      try clear c9
                      try clear c9b0
                      try clear c9b1
                      try clear c10
                      try clear c10b0
                      try clear c10b1
                      try clear c11
                      try clear c11b0
                      try clear c11b1
                      try clear c13
                      try clear c13b0
                      try clear c13b1
                      try clear p15
                      try clear q15
                      try clear hx15
                      try clear c16
                      try clear p16
                      try clear q16
                      try clear hx16
                      try clear c18
                      try clear c18b0
                      try clear c18b1
                      try clear c19
                      try clear c19b0
                      try clear c19b1
                      try clear c24
                      try clear c24b0
                      try clear c26
                      try clear c26b0
                      try clear c27
                      try clear c27b0
                      try clear c29
                      try clear c29b0
                      try clear c30
                      try clear c30b0
                      try clear c31
                      try clear c32
                      try clear c32b0
                      try clear c32b1
                      try clear c33
                      try clear c33b0
                      try clear c34
                      try clear c34b0
                      try clear c35
                      try clear c35b0
                      try clear c36
                      try clear c38
                      try clear c38b0
                      try clear c38b1
                      try clear hx158_0
                      try clear hx162_0
                      try clear hx163_0
                      try clear hx164_0
                      try clear hx164_1
                      try clear hx164_2
                      try clear p1
                      try clear p15
                      try clear p158
                      try clear p16
                      try clear p162
                      try clear p163
                      try clear p164
                      try clear p2
                      try clear p6
                      try clear q1
                      try clear q15
                      try clear q158
                      try clear q16
                      try clear q162
                      try clear q163
                      try clear q164
                      obtain ⟨kq, x108_36, rfl, HA, HJ36, HO_0, HO_17, HB⟩ := hcut
                      cases kq with
                      | zero => exact absurd HA.out (by simp [gamehalllaw3_played.j5])
                      | succ kj36 =>
                       have H := HA.out
                       clear HA
                       simp only [gamehalllaw3_played.j5] at H
                       by_cases c39 : x108_36 = true
                       ·subst c39
                        have H1 : (if 0 ≤ x58_4 then (if x58_4 < (x17_4.length : Int) then (gamehalllaw3_played.l2 kj36 x0_2 l1 l2 a3 a4 x13_4 (wrap64 (x14_4 + 1)) x15_4 x16_2 (x17_4.set (x58_4 : Int).toNat (mx (rd x0_2 (ji25)) (rd x0_2 (ji28)))) (y159.length : Int) (wrap64 (x58_4 + 1))) else (none)) else (none)) = some r := by rw [if_pos rfl] at H; exact H
                        clear H
                        have H := H1
                        clear H1
                        obtain ⟨ji40, hji40⟩ : ∃ j_ : Int, (mx (rd x0_2 (ji25)) (rd x0_2 (ji28))) = j_ := ⟨_, rfl⟩
                        replace H : (if 0 ≤ x58_4 then (if x58_4 < (x17_4.length : Int) then (gamehalllaw3_played.l2 kj36 x0_2 l1 l2 a3 a4 x13_4 (wrap64 (x14_4 + 1)) x15_4 x16_2 (x17_4.set (x58_4 : Int).toNat (ji40)) (y159.length : Int) (wrap64 (x58_4 + 1))) else (none)) else (none)) = some r := by first | (rw [hji40] at H; exact H) | (simp only [hji40] at H ⊢; exact H)
                        have hji40_ : (if (rd x0_2 (ji25)) < (rd x0_2 (ji28)) then (rd x0_2 (ji28)) else (rd x0_2 (ji25))) = ji40 := hji40
                        by_cases c41 : 0 ≤ x58_4
                        ·rw [if_pos c41] at H
                         have c41b0 : decide (0 ≤ x58_4) = true := decide_eq_true c41
                         clear c41
                         by_cases c42 : x58_4 < (x17_4.length : Int)
                         ·rw [if_pos c42] at H
                          have c42b0 : decide (x58_4 < (x17_4.length : Int)) = true := decide_eq_true c42
                          clear c42
                          obtain ⟨y165, hy165⟩ : ∃ y_ : List Int, y_ = (x17_4.set (x58_4 : Int).toNat (ji40)) := ⟨_, rfl⟩
                          replace H : (gamehalllaw3_played.l2 kj36 x0_2 l1 l2 a3 a4 x13_4 (wrap64 (x14_4 + 1)) x15_4 x16_2 y165 (y159.length : Int) (wrap64 (x58_4 + 1))) = some r := by first | (rw [hy165]; with_reducible exact H) | (have H2_ := (Option.bind_some _ _).symm.trans H; rw [hy165]; with_reducible exact H2_) | (have H2_ := (Option.bind_some _ _).symm.trans H; with_reducible exact H2_) | with_reducible exact H | (rw [hy165]; exact H) | exact H
                          have Ny165 := Aside0.mk hy165
                          clear hy165
                          have H' := Aside0.mk H
                          clear H
                          have p43 : 0 ≤ (x58_4 : Int) := of_decide_eq_true (by first | (with_reducible assumption) | assumption)
                          have q43 : (x58_4 : Int) < ((x17_4.length : Int) : Int) := of_decide_eq_true (by first | (with_reducible assumption) | assumption)
                          obtain ⟨go43, co43, eo43, gb43, gl43, cl43, HG43⟩ := Kd.R_form HO_17.out (by omega)
                          (first | cases eo43 | (injection eo43 with ea_ en_ ec_; (first | subst ea_ | (injection ea_ with ea_; subst ea_)); subst ec_; clear en_))
                          have GB43 := Aside0.mk gb43
                          have GG43 := Aside0.mk HG43
                          clear gb43 gl43 HG43
                          obtain ⟨hx43_0, hf43_0⟩ := Kd.R_celln 0 HO_17.out (x58_4 : Int) p43 q43
                          replace p43 := eq_true p43
                          replace q43 := eq_true q43
                          have HP44 := Kd.R_putg HO_17.out (x58_4 : Int) ji40
                          go_wp2_with (first | ((with_reducible refine gate_store (t := 3) (p := 120) rfl ?_); (try (rw [drewN_self wc]; generalize hq_ : World.drewN wc _ = wc; have n0_ := Aside0.mk (Kd.V_at hq_ HO_0.out); have n1_ := Aside0.mk (Kd.R_at hq_ HO_17.out); have n2_ := Aside0.mk (below_at hq_ HB.out); clear hq_ HO_0 HO_17 HB; have HO_0 := n0_; have HO_17 := n1_; have HB := n2_; clear n0_ n1_ n2_; (try (have HP44 := Kd.R_putg HO_17.out (x58_4 : Int) ji40)))); refine store_event (t := 3) (p := 120) (v := ?vo_w45) (w1 := (wc.setCell ⟨go43, (x58_4 : Int).toNat, none⟩ (.int .i64 ji40))) ?hg ?ho ?hn ?hr ?_; (case ho => rfl); (case hg => rfl); (case hn => rfl); (case hr => first | (go_simp; done) | (go_simp; rfl)); intro w45 hw; have hg : wc.grownBy w45 (some go43) := (by rw [hw]; exact HP44.2); have hp_ : Kd.R (Kd.int .i64) 3 w45 w.heap.size (fun k_ => (w.heap.size ≤ k_)) (.slice (some ⟨go43, 0, none⟩) x17_4.length co23) y165 := (by rw [hw, Ny165.out]; exact HP44.1); clear HP44; have n0_ := Aside0.mk (Kd.V_afterv (v := (.slice (some ⟨go43, 0, none⟩) x17_4.length co23)) (v1 := (.slice (some ⟨go43, 0, none⟩) x17_4.length co23)) (ok := (fun k_ => (P0_ k_ ∨ w.heap.size ≤ k_))) (by (with_reducible repeat (first | apply Kd.V_alloc | apply Kd.V_drewN | apply Kd.V_drew)); exact HO_0.out) hg (.inl rfl)); have n1_ := Aside0.mk (hp_); have n2_ := Aside0.mk ((by rw [hw]; exact below_set (HB.out) GB43.out : Below w.heap.size w w45)); clear HO_0; clear HO_17; clear HB; have HO_0 := n0_; have HO_17 := n1_; have HB := n2_; clear n0_ n1_ n2_; clear hg hw hp_))
                          repeat (go_quiet (first | ((with_reducible refine gate_store (t := 3) (p := 120) rfl ?_); (try (rw [drewN_self wc]; generalize hq_ : World.drewN wc _ = wc; have n0_ := Aside0.mk (Kd.V_at hq_ HO_0.out); have n1_ := Aside0.mk (Kd.R_at hq_ HO_17.out); have n2_ := Aside0.mk (below_at hq_ HB.out); clear hq_ HO_0 HO_17 HB; have HO_0 := n0_; have HO_17 := n1_; have HB := n2_; clear n0_ n1_ n2_; (try (have HP44 := Kd.R_putg HO_17.out (x58_4 : Int) ji40)))); refine store_event (t := 3) (p := 120) (v := ?vo_w45) (w1 := (wc.setCell ⟨go43, (x58_4 : Int).toNat, none⟩ (.int .i64 ji40))) ?hg ?ho ?hn ?hr ?_; (case ho => rfl); (case hg => rfl); (case hn => rfl); (case hr => first | (go_simp; done) | (go_simp; rfl)); intro w45 hw; have hg : wc.grownBy w45 (some go43) := (by rw [hw]; exact HP44.2); have hp_ : Kd.R (Kd.int .i64) 3 w45 w.heap.size (fun k_ => (w.heap.size ≤ k_)) (.slice (some ⟨go43, 0, none⟩) x17_4.length co23) y165 := (by rw [hw, Ny165.out]; exact HP44.1); clear HP44; have n0_ := Aside0.mk (Kd.V_afterv (v := (.slice (some ⟨go43, 0, none⟩) x17_4.length co23)) (v1 := (.slice (some ⟨go43, 0, none⟩) x17_4.length co23)) (ok := (fun k_ => (P0_ k_ ∨ w.heap.size ≤ k_))) (by (with_reducible repeat (first | apply Kd.V_alloc | apply Kd.V_drewN | apply Kd.V_drew)); exact HO_0.out) hg (.inl rfl)); have n1_ := Aside0.mk (hp_); have n2_ := Aside0.mk ((by rw [hw]; exact below_set (HB.out) GB43.out : Below w.heap.size w w45)); clear HO_0; clear HO_17; clear HB; have HO_0 := n0_; have HO_17 := n1_; have HB := n2_; clear n0_ n1_ n2_; clear hg hw hp_)); try go_wp2_with (first | ((with_reducible refine gate_store (t := 3) (p := 120) rfl ?_); (try (rw [drewN_self wc]; generalize hq_ : World.drewN wc _ = wc; have n0_ := Aside0.mk (Kd.V_at hq_ HO_0.out); have n1_ := Aside0.mk (Kd.R_at hq_ HO_17.out); have n2_ := Aside0.mk (below_at hq_ HB.out); clear hq_ HO_0 HO_17 HB; have HO_0 := n0_; have HO_17 := n1_; have HB := n2_; clear n0_ n1_ n2_; (try (have HP44 := Kd.R_putg HO_17.out (x58_4 : Int) ji40)))); refine store_event (t := 3) (p := 120) (v := ?vo_w45) (w1 := (wc.setCell ⟨go43, (x58_4 : Int).toNat, none⟩ (.int .i64 ji40))) ?hg ?ho ?hn ?hr ?_; (case ho => rfl); (case hg => rfl); (case hn => rfl); (case hr => first | (go_simp; done) | (go_simp; rfl)); intro w45 hw; have hg : wc.grownBy w45 (some go43) := (by rw [hw]; exact HP44.2); have hp_ : Kd.R (Kd.int .i64) 3 w45 w.heap.size (fun k_ => (w.heap.size ≤ k_)) (.slice (some ⟨go43, 0, none⟩) x17_4.length co23) y165 := (by rw [hw, Ny165.out]; exact HP44.1); clear HP44; have n0_ := Aside0.mk (Kd.V_afterv (v := (.slice (some ⟨go43, 0, none⟩) x17_4.length co23)) (v1 := (.slice (some ⟨go43, 0, none⟩) x17_4.length co23)) (ok := (fun k_ => (P0_ k_ ∨ w.heap.size ≤ k_))) (by (with_reducible repeat (first | apply Kd.V_alloc | apply Kd.V_drewN | apply Kd.V_drew)); exact HO_0.out) hg (.inl rfl)); have n1_ := Aside0.mk (hp_); have n2_ := Aside0.mk ((by rw [hw]; exact below_set (HB.out) GB43.out : Below w.heap.size w w45)); clear HO_0; clear HO_17; clear HB; have HO_0 := n0_; have HO_17 := n1_; have HB := n2_; clear n0_ n1_ n2_; clear hg hw hp_)))
                          (try simp only [← hl17_4])
                          go_roundg kj36
                          case measure => have := HK1.out; have := HK2.out; have := HJ11.out; have := HK4.out; have := HJ30.out; have := HJ36.out; omega
                          case rel => exact ⟨(x13_4), ((wrap64 (x14_4 + 1))), (x15_4), (y165), (wrap64 (x58_4 + 1)), (by first | rfl | (simp; done) | (simp [*]; done)), (by first | rfl | (simp; done) | (simp [*]; done)), (by first | rfl | (simp; done) | (simp [*]; done)), (by first | rfl | (simp; done) | (simp [*]; done)), H', ⟨by have := HK1.out; have := HK2.out; have := HJ11.out; have := HK4.out; have := HJ30.out; have := HJ36.out; omega⟩, ⟨by (try simp only [hl17_4]); (with_reducible repeat (first | apply Kd.V_alloc | apply Kd.V_drewN | apply Kd.V_drew)); exact HO_0.out⟩, ⟨by (try simp only [hl17_4]); (with_reducible repeat (first | apply Kd.R_alloc | apply Kd.R_drewN | apply Kd.R_drew)); exact HO_17.out⟩, ⟨by repeat (first | (with_reducible first | exact HB.out | apply below_alloc | apply pw_below_drewN | apply below_drew1) | exact HB.out)⟩⟩
                         ·rw [if_neg c42] at H
                          exact absurd H (by simp)
                        ·rw [if_neg c41] at H
                         exact absurd H (by simp)
                       ·replace c39 := Bool.eq_false_iff.mpr c39
                        subst c39
                        have H1 : (if x13_4 = (l1.length : Int) then (gamehalllaw3_played.l2 kj36 x0_2 l1 l2 a3 a4 x13_4 (wrap64 (x14_4 + 1)) true x16_2 x17_4 (y159.length : Int) (wrap64 (x58_4 + 1))) else (if 0 ≤ x58_4 then (if x58_4 < (x17_4.length : Int) then ((some (x17_4.set (x58_4 : Int).toNat (rd x0_2 (ji28)) : List Int)).bind fun y166 => (if 0 ≤ x13_4 then (if x13_4 < (l1.length : Int) then (if (rd l1 x13_4) = 2 then (gamehalllaw3_played.l2 kj36 x0_2 l1 l2 a3 a4 (wrap64 (x13_4 + 1)) (wrap64 (x14_4 + 1)) x15_4 x16_2 (y166.set (x58_4 : Int).toNat (rd x0_2 (ji25))) (y159.length : Int) (wrap64 (x58_4 + 1))) else (gamehalllaw3_played.l2 kj36 x0_2 l1 l2 a3 a4 (wrap64 (x13_4 + 1)) (wrap64 (x14_4 + 1)) x15_4 x16_2 y166 (y159.length : Int) (wrap64 (x58_4 + 1)))) else (none)) else (none))) else (none)) else (none))) = some r := by rw [if_neg (show ¬ (false = true) by decide)] at H; exact H
                        clear H
                        have H := H1
                        clear H1
                        by_cases c46 : x13_4 = (l1.length : Int)
                        ·rw [if_pos c46] at H
                         have c46b0 : (x13_4 == (l1.length : Int)) = true := beq_iff_eq.mpr c46
                         have c46b1 : (x13_4 != (l1.length : Int)) = false := bne_eq_false_iff_eq.mpr c46
                         clear c46
                         have H' := Aside0.mk H
                         clear H
                         go_wp2
                         repeat (go_quiet (fail); try go_wp2)
                         (try simp only [← hl17_4])
                         go_roundg kj36
                         case measure => have := HK1.out; have := HK2.out; have := HJ11.out; have := HK4.out; have := HJ30.out; have := HJ36.out; omega
                         case rel => exact ⟨(x13_4), ((wrap64 (x14_4 + 1))), (true), (x17_4), (wrap64 (x58_4 + 1)), (by first | rfl | (simp; done) | (simp [*]; done)), (by first | rfl | (simp; done) | (simp [*]; done)), (by first | rfl | (simp; done) | (simp [*]; done)), (by first | rfl | (simp; done) | (simp [*]; done)), H', ⟨by have := HK1.out; have := HK2.out; have := HJ11.out; have := HK4.out; have := HJ30.out; have := HJ36.out; omega⟩, ⟨by (try simp only [hl17_4]); (with_reducible repeat (first | apply Kd.V_alloc | apply Kd.V_drewN | apply Kd.V_drew)); exact HO_0.out⟩, ⟨by (try simp only [hl17_4]); (with_reducible repeat (first | apply Kd.R_alloc | apply Kd.R_drewN | apply Kd.R_drew)); exact HO_17.out⟩, ⟨by repeat (first | (with_reducible first | exact HB.out | apply below_alloc | apply pw_below_drewN | apply below_drew1) | exact HB.out)⟩⟩
                        ·rw [if_neg c46] at H
                         have c46b0 : (x13_4 == (l1.length : Int)) = false := beq_eq_false_iff_ne.mpr c46
                         have c46b1 : (x13_4 != (l1.length : Int)) = true := bne_iff_ne.mpr c46
                         by_cases c47 : 0 ≤ x58_4
                         ·rw [if_pos c47] at H
                          have c47b0 : decide (0 ≤ x58_4) = true := decide_eq_true c47
                          clear c47
                          by_cases c48 : x58_4 < (x17_4.length : Int)
                          ·rw [if_pos c48] at H
                           have c48b0 : decide (x58_4 < (x17_4.length : Int)) = true := decide_eq_true c48
                           clear c48
                           obtain ⟨y166, hy166⟩ : ∃ y_ : List Int, y_ = (x17_4.set (x58_4 : Int).toNat (rd x0_2 (ji28))) := ⟨_, rfl⟩
                           replace H : (if 0 ≤ x13_4 then (if x13_4 < (l1.length : Int) then (if (rd l1 x13_4) = 2 then (gamehalllaw3_played.l2 kj36 x0_2 l1 l2 a3 a4 (wrap64 (x13_4 + 1)) (wrap64 (x14_4 + 1)) x15_4 x16_2 (y166.set (x58_4 : Int).toNat (rd x0_2 (ji25))) (y159.length : Int) (wrap64 (x58_4 + 1))) else (gamehalllaw3_played.l2 kj36 x0_2 l1 l2 a3 a4 (wrap64 (x13_4 + 1)) (wrap64 (x14_4 + 1)) x15_4 x16_2 y166 (y159.length : Int) (wrap64 (x58_4 + 1)))) else (none)) else (none)) = some r := by first | (rw [hy166]; with_reducible exact H) | (have H2_ := (Option.bind_some _ _).symm.trans H; rw [hy166]; with_reducible exact H2_) | (have H2_ := (Option.bind_some _ _).symm.trans H; with_reducible exact H2_) | with_reducible exact H | (rw [hy166]; exact H) | exact H
                           have Ny166 := Aside0.mk hy166
                           clear hy166
                           by_cases c50 : 0 ≤ x13_4
                           ·rw [if_pos c50] at H
                            have c50b0 : decide (0 ≤ x13_4) = true := decide_eq_true c50
                            clear c50
                            by_cases c51 : x13_4 < (l1.length : Int)
                            ·rw [if_pos c51] at H
                             have c51b0 : decide (x13_4 < (l1.length : Int)) = true := decide_eq_true c51
                             clear c51
                             by_cases c52 : (rd l1 x13_4) = 2
                             ·rw [if_pos c52] at H
                              have c52b0 : ((rd l1 x13_4) == 2) = true := beq_iff_eq.mpr c52
                              have c52b1 : ((rd l1 x13_4) != 2) = false := bne_eq_false_iff_eq.mpr c52
                              clear c52
                              obtain ⟨y168, hy168⟩ : ∃ y_ : List Int, y_ = (y166.set (x58_4 : Int).toNat (rd x0_2 (ji25))) := ⟨_, rfl⟩
                              replace H : (gamehalllaw3_played.l2 kj36 x0_2 l1 l2 a3 a4 (wrap64 (x13_4 + 1)) (wrap64 (x14_4 + 1)) x15_4 x16_2 y168 (y159.length : Int) (wrap64 (x58_4 + 1))) = some r := by first | (rw [hy168]; with_reducible exact H) | (have H2_ := (Option.bind_some _ _).symm.trans H; rw [hy168]; with_reducible exact H2_) | (have H2_ := (Option.bind_some _ _).symm.trans H; with_reducible exact H2_) | with_reducible exact H | (rw [hy168]; exact H) | exact H
                              have Ny168 := Aside0.mk hy168
                              clear hy168
                              have H' := Aside0.mk H
                              clear H
                              have p49 : 0 ≤ (x58_4 : Int) := of_decide_eq_true (by first | (with_reducible assumption) | assumption)
                              have q49 : (x58_4 : Int) < ((x17_4.length : Int) : Int) := of_decide_eq_true (by first | (with_reducible assumption) | assumption)
                              obtain ⟨go49, co49, eo49, gb49, gl49, cl49, HG49⟩ := Kd.R_form HO_17.out (by omega)
                              (first | cases eo49 | (injection eo49 with ea_ en_ ec_; (first | subst ea_ | (injection ea_ with ea_; subst ea_)); subst ec_; clear en_))
                              have GB49 := Aside0.mk gb49
                              have GG49 := Aside0.mk HG49
                              clear gb49 gl49 HG49
                              obtain ⟨hx49_0, hf49_0⟩ := Kd.R_celln 0 HO_17.out (x58_4 : Int) p49 q49
                              replace p49 := eq_true p49
                              replace q49 := eq_true q49
                              have HP54 := Kd.R_putg HO_17.out (x58_4 : Int) (rd x0_2 (ji28))
                              go_wp2_with (first | ((with_reducible refine gate_store (t := 3) (p := 96) rfl ?_); (try (rw [drewN_self wc]; generalize hq_ : World.drewN wc _ = wc; have n0_ := Aside0.mk (Kd.V_at hq_ HO_0.out); have n1_ := Aside0.mk (Kd.R_at hq_ HO_17.out); have n2_ := Aside0.mk (below_at hq_ HB.out); clear hq_ HO_0 HO_17 HB; have HO_0 := n0_; have HO_17 := n1_; have HB := n2_; clear n0_ n1_ n2_; (try (have HP54 := Kd.R_putg HO_17.out (x58_4 : Int) (rd x0_2 (ji28)))))); refine store_event (t := 3) (p := 96) (v := ?vo_w55) (w1 := (wc.setCell ⟨go49, (x58_4 : Int).toNat, none⟩ (.int .i64 (rd x0_2 (ji28))))) ?hg ?ho ?hn ?hr ?_; (case ho => rfl); (case hg => rfl); (case hn => rfl); (case hr => first | (go_simp; done) | (go_simp; rfl)); intro w55 hw; have hg : wc.grownBy w55 (some go49) := (by rw [hw]; exact HP54.2); have hp_ : Kd.R (Kd.int .i64) 3 w55 w.heap.size (fun k_ => (w.heap.size ≤ k_)) (.slice (some ⟨go49, 0, none⟩) x17_4.length co23) y166 := (by rw [hw, Ny166.out]; exact HP54.1); clear HP54; have n0_ := Aside0.mk (Kd.V_afterv (v := (.slice (some ⟨go49, 0, none⟩) x17_4.length co23)) (v1 := (.slice (some ⟨go49, 0, none⟩) x17_4.length co23)) (ok := (fun k_ => (P0_ k_ ∨ w.heap.size ≤ k_))) (by (with_reducible repeat (first | apply Kd.V_alloc | apply Kd.V_drewN | apply Kd.V_drew)); exact HO_0.out) hg (.inl rfl)); have n1_ := Aside0.mk (hp_); have n2_ := Aside0.mk ((by rw [hw]; exact below_set (HB.out) GB49.out : Below w.heap.size w w55)); clear HO_0; clear HO_17; clear HB; have HO_0 := n0_; have HO_17 := n1_; have HB := n2_; clear n0_ n1_ n2_; clear hg hw hp_; have p167 : 0 ≤ (x13_4 : Int) := of_decide_eq_true (by first | (with_reducible assumption) | assumption); have q167 : x13_4 < (l1.length : Int) := of_decide_eq_true (by first | (with_reducible assumption) | assumption); obtain ⟨ad167, e167, hx167_0⟩ := Kd.at_int HR1.out x13_4 p167 q167; cases e167; replace hx167_0 := (HB.out.cell (World.block_lt_of_cell? w _ hx167_0)).trans hx167_0; replace p167 := eq_true p167; replace q167 := eq_true q167; have p53 : 0 ≤ (x58_4 : Int) := of_decide_eq_true (by first | (with_reducible assumption) | assumption); have q53 : (x58_4 : Int) < ((x17_4.length : Int) : Int) := of_decide_eq_true (by first | (with_reducible assumption) | assumption); obtain ⟨hx53_0, hf53_0⟩ := Kd.R_celln 0 HO_17.out (x58_4 : Int) p53 q53; replace p53 := eq_true p53; replace q53 := eq_true q53; obtain ⟨hy56_, hz56_⟩ := Kd.R_celln 0 HO_17.out (x58_4 : Int) (of_decide_eq_true (by first | (with_reducible assumption) | assumption)) (of_decide_eq_true (by first | (with_reducible assumption) | assumption)); have HP56 := Kd.R_putg HO_17.out (x58_4 : Int) (rd x0_2 (ji25))) | ((with_reducible refine gate_store (t := 3) (p := 105) rfl ?_); (try (rw [drewN_self w55]; generalize hq_ : World.drewN w55 _ = w55; have n0_ := Aside0.mk (Kd.V_at hq_ HO_0.out); have n1_ := Aside0.mk (Kd.R_at hq_ HO_17.out); have n2_ := Aside0.mk (below_at hq_ HB.out); clear hq_ HO_0 HO_17 HB; have HO_0 := n0_; have HO_17 := n1_; have HB := n2_; clear n0_ n1_ n2_; (try (obtain ⟨hy56_, hz56_⟩ := Kd.R_celln 0 HO_17.out (x58_4 : Int) (of_decide_eq_true (by first | (with_reducible assumption) | assumption)) (of_decide_eq_true (by first | (with_reducible assumption) | assumption)))); (try (have HP56 := Kd.R_putg HO_17.out (x58_4 : Int) (rd x0_2 (ji25)))))); refine store_event (t := 3) (p := 105) (v := ?vo_w57) (w1 := (w55.setCell ⟨go49, (x58_4 : Int).toNat, none⟩ (.int .i64 (rd x0_2 (ji25))))) ?hg ?ho ?hn ?hr ?_; (case ho => rfl); (case hg => rfl); (case hn => rfl); (case hr => first | (go_simp; done) | (go_simp; rfl)); intro w57 hw; have hg : w55.grownBy w57 (some go49) := (by rw [hw]; exact HP56.2); have hp_ : Kd.R (Kd.int .i64) 3 w57 w.heap.size (fun k_ => (w.heap.size ≤ k_)) (.slice (some ⟨go49, 0, none⟩) x17_4.length co23) y168 := (by rw [hw, Ny168.out]; exact HP56.1); clear HP56; have n0_ := Aside0.mk (Kd.V_afterv (v := (.slice (some ⟨go49, 0, none⟩) x17_4.length co23)) (v1 := (.slice (some ⟨go49, 0, none⟩) x17_4.length co23)) (ok := (fun k_ => (P0_ k_ ∨ w.heap.size ≤ k_))) (by (with_reducible repeat (first | apply Kd.V_alloc | apply Kd.V_drewN | apply Kd.V_drew)); exact HO_0.out) hg (.inl rfl)); have n1_ := Aside0.mk (hp_); have n2_ := Aside0.mk ((by rw [hw]; exact below_set (HB.out) GB49.out : Below w.heap.size w w57)); clear HO_0; clear HO_17; clear HB; have HO_0 := n0_; have HO_17 := n1_; have HB := n2_; clear n0_ n1_ n2_; clear hg hw hp_))
                              repeat (go_quiet (first | ((with_reducible refine gate_store (t := 3) (p := 96) rfl ?_); (try (rw [drewN_self wc]; generalize hq_ : World.drewN wc _ = wc; have n0_ := Aside0.mk (Kd.V_at hq_ HO_0.out); have n1_ := Aside0.mk (Kd.R_at hq_ HO_17.out); have n2_ := Aside0.mk (below_at hq_ HB.out); clear hq_ HO_0 HO_17 HB; have HO_0 := n0_; have HO_17 := n1_; have HB := n2_; clear n0_ n1_ n2_; (try (have HP54 := Kd.R_putg HO_17.out (x58_4 : Int) (rd x0_2 (ji28)))))); refine store_event (t := 3) (p := 96) (v := ?vo_w55) (w1 := (wc.setCell ⟨go49, (x58_4 : Int).toNat, none⟩ (.int .i64 (rd x0_2 (ji28))))) ?hg ?ho ?hn ?hr ?_; (case ho => rfl); (case hg => rfl); (case hn => rfl); (case hr => first | (go_simp; done) | (go_simp; rfl)); intro w55 hw; have hg : wc.grownBy w55 (some go49) := (by rw [hw]; exact HP54.2); have hp_ : Kd.R (Kd.int .i64) 3 w55 w.heap.size (fun k_ => (w.heap.size ≤ k_)) (.slice (some ⟨go49, 0, none⟩) x17_4.length co23) y166 := (by rw [hw, Ny166.out]; exact HP54.1); clear HP54; have n0_ := Aside0.mk (Kd.V_afterv (v := (.slice (some ⟨go49, 0, none⟩) x17_4.length co23)) (v1 := (.slice (some ⟨go49, 0, none⟩) x17_4.length co23)) (ok := (fun k_ => (P0_ k_ ∨ w.heap.size ≤ k_))) (by (with_reducible repeat (first | apply Kd.V_alloc | apply Kd.V_drewN | apply Kd.V_drew)); exact HO_0.out) hg (.inl rfl)); have n1_ := Aside0.mk (hp_); have n2_ := Aside0.mk ((by rw [hw]; exact below_set (HB.out) GB49.out : Below w.heap.size w w55)); clear HO_0; clear HO_17; clear HB; have HO_0 := n0_; have HO_17 := n1_; have HB := n2_; clear n0_ n1_ n2_; clear hg hw hp_; have p167 : 0 ≤ (x13_4 : Int) := of_decide_eq_true (by first | (with_reducible assumption) | assumption); have q167 : x13_4 < (l1.length : Int) := of_decide_eq_true (by first | (with_reducible assumption) | assumption); obtain ⟨ad167, e167, hx167_0⟩ := Kd.at_int HR1.out x13_4 p167 q167; cases e167; replace hx167_0 := (HB.out.cell (World.block_lt_of_cell? w _ hx167_0)).trans hx167_0; replace p167 := eq_true p167; replace q167 := eq_true q167; have p53 : 0 ≤ (x58_4 : Int) := of_decide_eq_true (by first | (with_reducible assumption) | assumption); have q53 : (x58_4 : Int) < ((x17_4.length : Int) : Int) := of_decide_eq_true (by first | (with_reducible assumption) | assumption); obtain ⟨hx53_0, hf53_0⟩ := Kd.R_celln 0 HO_17.out (x58_4 : Int) p53 q53; replace p53 := eq_true p53; replace q53 := eq_true q53; obtain ⟨hy56_, hz56_⟩ := Kd.R_celln 0 HO_17.out (x58_4 : Int) (of_decide_eq_true (by first | (with_reducible assumption) | assumption)) (of_decide_eq_true (by first | (with_reducible assumption) | assumption)); have HP56 := Kd.R_putg HO_17.out (x58_4 : Int) (rd x0_2 (ji25))) | ((with_reducible refine gate_store (t := 3) (p := 105) rfl ?_); (try (rw [drewN_self w55]; generalize hq_ : World.drewN w55 _ = w55; have n0_ := Aside0.mk (Kd.V_at hq_ HO_0.out); have n1_ := Aside0.mk (Kd.R_at hq_ HO_17.out); have n2_ := Aside0.mk (below_at hq_ HB.out); clear hq_ HO_0 HO_17 HB; have HO_0 := n0_; have HO_17 := n1_; have HB := n2_; clear n0_ n1_ n2_; (try (obtain ⟨hy56_, hz56_⟩ := Kd.R_celln 0 HO_17.out (x58_4 : Int) (of_decide_eq_true (by first | (with_reducible assumption) | assumption)) (of_decide_eq_true (by first | (with_reducible assumption) | assumption)))); (try (have HP56 := Kd.R_putg HO_17.out (x58_4 : Int) (rd x0_2 (ji25)))))); refine store_event (t := 3) (p := 105) (v := ?vo_w57) (w1 := (w55.setCell ⟨go49, (x58_4 : Int).toNat, none⟩ (.int .i64 (rd x0_2 (ji25))))) ?hg ?ho ?hn ?hr ?_; (case ho => rfl); (case hg => rfl); (case hn => rfl); (case hr => first | (go_simp; done) | (go_simp; rfl)); intro w57 hw; have hg : w55.grownBy w57 (some go49) := (by rw [hw]; exact HP56.2); have hp_ : Kd.R (Kd.int .i64) 3 w57 w.heap.size (fun k_ => (w.heap.size ≤ k_)) (.slice (some ⟨go49, 0, none⟩) x17_4.length co23) y168 := (by rw [hw, Ny168.out]; exact HP56.1); clear HP56; have n0_ := Aside0.mk (Kd.V_afterv (v := (.slice (some ⟨go49, 0, none⟩) x17_4.length co23)) (v1 := (.slice (some ⟨go49, 0, none⟩) x17_4.length co23)) (ok := (fun k_ => (P0_ k_ ∨ w.heap.size ≤ k_))) (by (with_reducible repeat (first | apply Kd.V_alloc | apply Kd.V_drewN | apply Kd.V_drew)); exact HO_0.out) hg (.inl rfl)); have n1_ := Aside0.mk (hp_); have n2_ := Aside0.mk ((by rw [hw]; exact below_set (HB.out) GB49.out : Below w.heap.size w w57)); clear HO_0; clear HO_17; clear HB; have HO_0 := n0_; have HO_17 := n1_; have HB := n2_; clear n0_ n1_ n2_; clear hg hw hp_)); try go_wp2_with (first | ((with_reducible refine gate_store (t := 3) (p := 96) rfl ?_); (try (rw [drewN_self wc]; generalize hq_ : World.drewN wc _ = wc; have n0_ := Aside0.mk (Kd.V_at hq_ HO_0.out); have n1_ := Aside0.mk (Kd.R_at hq_ HO_17.out); have n2_ := Aside0.mk (below_at hq_ HB.out); clear hq_ HO_0 HO_17 HB; have HO_0 := n0_; have HO_17 := n1_; have HB := n2_; clear n0_ n1_ n2_; (try (have HP54 := Kd.R_putg HO_17.out (x58_4 : Int) (rd x0_2 (ji28)))))); refine store_event (t := 3) (p := 96) (v := ?vo_w55) (w1 := (wc.setCell ⟨go49, (x58_4 : Int).toNat, none⟩ (.int .i64 (rd x0_2 (ji28))))) ?hg ?ho ?hn ?hr ?_; (case ho => rfl); (case hg => rfl); (case hn => rfl); (case hr => first | (go_simp; done) | (go_simp; rfl)); intro w55 hw; have hg : wc.grownBy w55 (some go49) := (by rw [hw]; exact HP54.2); have hp_ : Kd.R (Kd.int .i64) 3 w55 w.heap.size (fun k_ => (w.heap.size ≤ k_)) (.slice (some ⟨go49, 0, none⟩) x17_4.length co23) y166 := (by rw [hw, Ny166.out]; exact HP54.1); clear HP54; have n0_ := Aside0.mk (Kd.V_afterv (v := (.slice (some ⟨go49, 0, none⟩) x17_4.length co23)) (v1 := (.slice (some ⟨go49, 0, none⟩) x17_4.length co23)) (ok := (fun k_ => (P0_ k_ ∨ w.heap.size ≤ k_))) (by (with_reducible repeat (first | apply Kd.V_alloc | apply Kd.V_drewN | apply Kd.V_drew)); exact HO_0.out) hg (.inl rfl)); have n1_ := Aside0.mk (hp_); have n2_ := Aside0.mk ((by rw [hw]; exact below_set (HB.out) GB49.out : Below w.heap.size w w55)); clear HO_0; clear HO_17; clear HB; have HO_0 := n0_; have HO_17 := n1_; have HB := n2_; clear n0_ n1_ n2_; clear hg hw hp_; have p167 : 0 ≤ (x13_4 : Int) := of_decide_eq_true (by first | (with_reducible assumption) | assumption); have q167 : x13_4 < (l1.length : Int) := of_decide_eq_true (by first | (with_reducible assumption) | assumption); obtain ⟨ad167, e167, hx167_0⟩ := Kd.at_int HR1.out x13_4 p167 q167; cases e167; replace hx167_0 := (HB.out.cell (World.block_lt_of_cell? w _ hx167_0)).trans hx167_0; replace p167 := eq_true p167; replace q167 := eq_true q167; have p53 : 0 ≤ (x58_4 : Int) := of_decide_eq_true (by first | (with_reducible assumption) | assumption); have q53 : (x58_4 : Int) < ((x17_4.length : Int) : Int) := of_decide_eq_true (by first | (with_reducible assumption) | assumption); obtain ⟨hx53_0, hf53_0⟩ := Kd.R_celln 0 HO_17.out (x58_4 : Int) p53 q53; replace p53 := eq_true p53; replace q53 := eq_true q53; obtain ⟨hy56_, hz56_⟩ := Kd.R_celln 0 HO_17.out (x58_4 : Int) (of_decide_eq_true (by first | (with_reducible assumption) | assumption)) (of_decide_eq_true (by first | (with_reducible assumption) | assumption)); have HP56 := Kd.R_putg HO_17.out (x58_4 : Int) (rd x0_2 (ji25))) | ((with_reducible refine gate_store (t := 3) (p := 105) rfl ?_); (try (rw [drewN_self w55]; generalize hq_ : World.drewN w55 _ = w55; have n0_ := Aside0.mk (Kd.V_at hq_ HO_0.out); have n1_ := Aside0.mk (Kd.R_at hq_ HO_17.out); have n2_ := Aside0.mk (below_at hq_ HB.out); clear hq_ HO_0 HO_17 HB; have HO_0 := n0_; have HO_17 := n1_; have HB := n2_; clear n0_ n1_ n2_; (try (obtain ⟨hy56_, hz56_⟩ := Kd.R_celln 0 HO_17.out (x58_4 : Int) (of_decide_eq_true (by first | (with_reducible assumption) | assumption)) (of_decide_eq_true (by first | (with_reducible assumption) | assumption)))); (try (have HP56 := Kd.R_putg HO_17.out (x58_4 : Int) (rd x0_2 (ji25)))))); refine store_event (t := 3) (p := 105) (v := ?vo_w57) (w1 := (w55.setCell ⟨go49, (x58_4 : Int).toNat, none⟩ (.int .i64 (rd x0_2 (ji25))))) ?hg ?ho ?hn ?hr ?_; (case ho => rfl); (case hg => rfl); (case hn => rfl); (case hr => first | (go_simp; done) | (go_simp; rfl)); intro w57 hw; have hg : w55.grownBy w57 (some go49) := (by rw [hw]; exact HP56.2); have hp_ : Kd.R (Kd.int .i64) 3 w57 w.heap.size (fun k_ => (w.heap.size ≤ k_)) (.slice (some ⟨go49, 0, none⟩) x17_4.length co23) y168 := (by rw [hw, Ny168.out]; exact HP56.1); clear HP56; have n0_ := Aside0.mk (Kd.V_afterv (v := (.slice (some ⟨go49, 0, none⟩) x17_4.length co23)) (v1 := (.slice (some ⟨go49, 0, none⟩) x17_4.length co23)) (ok := (fun k_ => (P0_ k_ ∨ w.heap.size ≤ k_))) (by (with_reducible repeat (first | apply Kd.V_alloc | apply Kd.V_drewN | apply Kd.V_drew)); exact HO_0.out) hg (.inl rfl)); have n1_ := Aside0.mk (hp_); have n2_ := Aside0.mk ((by rw [hw]; exact below_set (HB.out) GB49.out : Below w.heap.size w w57)); clear HO_0; clear HO_17; clear HB; have HO_0 := n0_; have HO_17 := n1_; have HB := n2_; clear n0_ n1_ n2_; clear hg hw hp_)))
                              (try simp only [← hl17_4])
                              go_roundg kj36
                              case measure => have := HK1.out; have := HK2.out; have := HJ11.out; have := HK4.out; have := HJ30.out; have := HJ36.out; omega
                              case rel => exact ⟨(wrap64 (x13_4 + 1)), ((wrap64 (x14_4 + 1))), (x15_4), (y168), (wrap64 (x58_4 + 1)), (by first | rfl | (simp; done) | (simp [*]; done)), (by first | rfl | (simp; done) | (simp [*]; done)), (by first | rfl | (simp; done) | (simp [*]; done)), (by first | rfl | (simp; done) | (simp [*]; done)), H', ⟨by have := HK1.out; have := HK2.out; have := HJ11.out; have := HK4.out; have := HJ30.out; have := HJ36.out; omega⟩, ⟨by (try simp only [hl17_4]); (with_reducible repeat (first | apply Kd.V_alloc | apply Kd.V_drewN | apply Kd.V_drew)); exact HO_0.out⟩, ⟨by (try simp only [hl17_4]); (with_reducible repeat (first | apply Kd.R_alloc | apply Kd.R_drewN | apply Kd.R_drew)); exact HO_17.out⟩, ⟨by repeat (first | (with_reducible first | exact HB.out | apply below_alloc | apply pw_below_drewN | apply below_drew1) | exact HB.out)⟩⟩
                             ·rw [if_neg c52] at H
                              have c52b0 : ((rd l1 x13_4) == 2) = false := beq_eq_false_iff_ne.mpr c52
                              have c52b1 : ((rd l1 x13_4) != 2) = true := bne_iff_ne.mpr c52
                              have H' := Aside0.mk H
                              clear H
                              have p49 : 0 ≤ (x58_4 : Int) := of_decide_eq_true (by first | (with_reducible assumption) | assumption)
                              have q49 : (x58_4 : Int) < ((x17_4.length : Int) : Int) := of_decide_eq_true (by first | (with_reducible assumption) | assumption)
                              obtain ⟨go49, co49, eo49, gb49, gl49, cl49, HG49⟩ := Kd.R_form HO_17.out (by omega)
                              (first | cases eo49 | (injection eo49 with ea_ en_ ec_; (first | subst ea_ | (injection ea_ with ea_; subst ea_)); subst ec_; clear en_))
                              have GB49 := Aside0.mk gb49
                              have GG49 := Aside0.mk HG49
                              clear gb49 gl49 HG49
                              obtain ⟨hx49_0, hf49_0⟩ := Kd.R_celln 0 HO_17.out (x58_4 : Int) p49 q49
                              replace p49 := eq_true p49
                              replace q49 := eq_true q49
                              have HP58 := Kd.R_putg HO_17.out (x58_4 : Int) (rd x0_2 (ji28))
                              go_wp2_with (first | ((with_reducible refine gate_store (t := 3) (p := 96) rfl ?_); (try (rw [drewN_self wc]; generalize hq_ : World.drewN wc _ = wc; have n0_ := Aside0.mk (Kd.V_at hq_ HO_0.out); have n1_ := Aside0.mk (Kd.R_at hq_ HO_17.out); have n2_ := Aside0.mk (below_at hq_ HB.out); clear hq_ HO_0 HO_17 HB; have HO_0 := n0_; have HO_17 := n1_; have HB := n2_; clear n0_ n1_ n2_; (try (have HP58 := Kd.R_putg HO_17.out (x58_4 : Int) (rd x0_2 (ji28)))))); refine store_event (t := 3) (p := 96) (v := ?vo_w59) (w1 := (wc.setCell ⟨go49, (x58_4 : Int).toNat, none⟩ (.int .i64 (rd x0_2 (ji28))))) ?hg ?ho ?hn ?hr ?_; (case ho => rfl); (case hg => rfl); (case hn => rfl); (case hr => first | (go_simp; done) | (go_simp; rfl)); intro w59 hw; have hg : wc.grownBy w59 (some go49) := (by rw [hw]; exact HP58.2); have hp_ : Kd.R (Kd.int .i64) 3 w59 w.heap.size (fun k_ => (w.heap.size ≤ k_)) (.slice (some ⟨go49, 0, none⟩) x17_4.length co23) y166 := (by rw [hw, Ny166.out]; exact HP58.1); clear HP58; have n0_ := Aside0.mk (Kd.V_afterv (v := (.slice (some ⟨go49, 0, none⟩) x17_4.length co23)) (v1 := (.slice (some ⟨go49, 0, none⟩) x17_4.length co23)) (ok := (fun k_ => (P0_ k_ ∨ w.heap.size ≤ k_))) (by (with_reducible repeat (first | apply Kd.V_alloc | apply Kd.V_drewN | apply Kd.V_drew)); exact HO_0.out) hg (.inl rfl)); have n1_ := Aside0.mk (hp_); have n2_ := Aside0.mk ((by rw [hw]; exact below_set (HB.out) GB49.out : Below w.heap.size w w59)); clear HO_0; clear HO_17; clear HB; have HO_0 := n0_; have HO_17 := n1_; have HB := n2_; clear n0_ n1_ n2_; clear hg hw hp_; have p167 : 0 ≤ (x13_4 : Int) := of_decide_eq_true (by first | (with_reducible assumption) | assumption); have q167 : x13_4 < (l1.length : Int) := of_decide_eq_true (by first | (with_reducible assumption) | assumption); obtain ⟨ad167, e167, hx167_0⟩ := Kd.at_int HR1.out x13_4 p167 q167; cases e167; replace hx167_0 := (HB.out.cell (World.block_lt_of_cell? w _ hx167_0)).trans hx167_0; replace p167 := eq_true p167; replace q167 := eq_true q167))
                              repeat (go_quiet (first | ((with_reducible refine gate_store (t := 3) (p := 96) rfl ?_); (try (rw [drewN_self wc]; generalize hq_ : World.drewN wc _ = wc; have n0_ := Aside0.mk (Kd.V_at hq_ HO_0.out); have n1_ := Aside0.mk (Kd.R_at hq_ HO_17.out); have n2_ := Aside0.mk (below_at hq_ HB.out); clear hq_ HO_0 HO_17 HB; have HO_0 := n0_; have HO_17 := n1_; have HB := n2_; clear n0_ n1_ n2_; (try (have HP58 := Kd.R_putg HO_17.out (x58_4 : Int) (rd x0_2 (ji28)))))); refine store_event (t := 3) (p := 96) (v := ?vo_w59) (w1 := (wc.setCell ⟨go49, (x58_4 : Int).toNat, none⟩ (.int .i64 (rd x0_2 (ji28))))) ?hg ?ho ?hn ?hr ?_; (case ho => rfl); (case hg => rfl); (case hn => rfl); (case hr => first | (go_simp; done) | (go_simp; rfl)); intro w59 hw; have hg : wc.grownBy w59 (some go49) := (by rw [hw]; exact HP58.2); have hp_ : Kd.R (Kd.int .i64) 3 w59 w.heap.size (fun k_ => (w.heap.size ≤ k_)) (.slice (some ⟨go49, 0, none⟩) x17_4.length co23) y166 := (by rw [hw, Ny166.out]; exact HP58.1); clear HP58; have n0_ := Aside0.mk (Kd.V_afterv (v := (.slice (some ⟨go49, 0, none⟩) x17_4.length co23)) (v1 := (.slice (some ⟨go49, 0, none⟩) x17_4.length co23)) (ok := (fun k_ => (P0_ k_ ∨ w.heap.size ≤ k_))) (by (with_reducible repeat (first | apply Kd.V_alloc | apply Kd.V_drewN | apply Kd.V_drew)); exact HO_0.out) hg (.inl rfl)); have n1_ := Aside0.mk (hp_); have n2_ := Aside0.mk ((by rw [hw]; exact below_set (HB.out) GB49.out : Below w.heap.size w w59)); clear HO_0; clear HO_17; clear HB; have HO_0 := n0_; have HO_17 := n1_; have HB := n2_; clear n0_ n1_ n2_; clear hg hw hp_; have p167 : 0 ≤ (x13_4 : Int) := of_decide_eq_true (by first | (with_reducible assumption) | assumption); have q167 : x13_4 < (l1.length : Int) := of_decide_eq_true (by first | (with_reducible assumption) | assumption); obtain ⟨ad167, e167, hx167_0⟩ := Kd.at_int HR1.out x13_4 p167 q167; cases e167; replace hx167_0 := (HB.out.cell (World.block_lt_of_cell? w _ hx167_0)).trans hx167_0; replace p167 := eq_true p167; replace q167 := eq_true q167)); try go_wp2_with (first | ((with_reducible refine gate_store (t := 3) (p := 96) rfl ?_); (try (rw [drewN_self wc]; generalize hq_ : World.drewN wc _ = wc; have n0_ := Aside0.mk (Kd.V_at hq_ HO_0.out); have n1_ := Aside0.mk (Kd.R_at hq_ HO_17.out); have n2_ := Aside0.mk (below_at hq_ HB.out); clear hq_ HO_0 HO_17 HB; have HO_0 := n0_; have HO_17 := n1_; have HB := n2_; clear n0_ n1_ n2_; (try (have HP58 := Kd.R_putg HO_17.out (x58_4 : Int) (rd x0_2 (ji28)))))); refine store_event (t := 3) (p := 96) (v := ?vo_w59) (w1 := (wc.setCell ⟨go49, (x58_4 : Int).toNat, none⟩ (.int .i64 (rd x0_2 (ji28))))) ?hg ?ho ?hn ?hr ?_; (case ho => rfl); (case hg => rfl); (case hn => rfl); (case hr => first | (go_simp; done) | (go_simp; rfl)); intro w59 hw; have hg : wc.grownBy w59 (some go49) := (by rw [hw]; exact HP58.2); have hp_ : Kd.R (Kd.int .i64) 3 w59 w.heap.size (fun k_ => (w.heap.size ≤ k_)) (.slice (some ⟨go49, 0, none⟩) x17_4.length co23) y166 := (by rw [hw, Ny166.out]; exact HP58.1); clear HP58; have n0_ := Aside0.mk (Kd.V_afterv (v := (.slice (some ⟨go49, 0, none⟩) x17_4.length co23)) (v1 := (.slice (some ⟨go49, 0, none⟩) x17_4.length co23)) (ok := (fun k_ => (P0_ k_ ∨ w.heap.size ≤ k_))) (by (with_reducible repeat (first | apply Kd.V_alloc | apply Kd.V_drewN | apply Kd.V_drew)); exact HO_0.out) hg (.inl rfl)); have n1_ := Aside0.mk (hp_); have n2_ := Aside0.mk ((by rw [hw]; exact below_set (HB.out) GB49.out : Below w.heap.size w w59)); clear HO_0; clear HO_17; clear HB; have HO_0 := n0_; have HO_17 := n1_; have HB := n2_; clear n0_ n1_ n2_; clear hg hw hp_; have p167 : 0 ≤ (x13_4 : Int) := of_decide_eq_true (by first | (with_reducible assumption) | assumption); have q167 : x13_4 < (l1.length : Int) := of_decide_eq_true (by first | (with_reducible assumption) | assumption); obtain ⟨ad167, e167, hx167_0⟩ := Kd.at_int HR1.out x13_4 p167 q167; cases e167; replace hx167_0 := (HB.out.cell (World.block_lt_of_cell? w _ hx167_0)).trans hx167_0; replace p167 := eq_true p167; replace q167 := eq_true q167)))
                              (try simp only [← hl17_4])
                              go_roundg kj36
                              case measure => have := HK1.out; have := HK2.out; have := HJ11.out; have := HK4.out; have := HJ30.out; have := HJ36.out; omega
                              case rel => exact ⟨(wrap64 (x13_4 + 1)), ((wrap64 (x14_4 + 1))), (x15_4), (y166), (wrap64 (x58_4 + 1)), (by first | rfl | (simp; done) | (simp [*]; done)), (by first | rfl | (simp; done) | (simp [*]; done)), (by first | rfl | (simp; done) | (simp [*]; done)), (by first | rfl | (simp; done) | (simp [*]; done)), H', ⟨by have := HK1.out; have := HK2.out; have := HJ11.out; have := HK4.out; have := HJ30.out; have := HJ36.out; omega⟩, ⟨by (try simp only [hl17_4]); (with_reducible repeat (first | apply Kd.V_alloc | apply Kd.V_drewN | apply Kd.V_drew)); exact HO_0.out⟩, ⟨by (try simp only [hl17_4]); (with_reducible repeat (first | apply Kd.R_alloc | apply Kd.R_drewN | apply Kd.R_drew)); exact HO_17.out⟩, ⟨by repeat (first | (with_reducible first | exact HB.out | apply below_alloc | apply pw_below_drewN | apply below_drew1) | exact HB.out)⟩⟩
                            ·rw [if_neg c51] at H
                             exact absurd H (by simp)
                           ·rw [if_neg c50] at H
                            exact absurd H (by simp)
                          ·rw [if_neg c48] at H
                           exact absurd H (by simp)
                         ·rw [if_neg c47] at H
                          exact absurd H (by simp)
                 ·rw [if_neg c30] at H
                  exact absurd H (by simp)
                ·rw [if_neg c29] at H
                 exact absurd H (by simp)
               ·rw [if_neg c27] at H
                exact absurd H (by simp)
              ·rw [if_neg c26] at H
               exact absurd H (by simp)
             ·rw [if_neg c24] at H
              have c24b0 : decide (x58_4 < (y159.length : Int)) = false := decide_eq_false c24
              (try (have c24b0l := c24b0; simp only [hl17_4] at c24b0l))
              clear c24
              have H' := Aside0.mk H
              clear H
              go_wp2
              repeat (go_quiet (fail); try go_wp2)
              (try simp only [← hl17_4])
              go_roundg k4
              case measure => have := HK1.out; have := HK2.out; have := HJ11.out; have := HK4.out; omega
              case rel => exact ⟨(x17_4), (x13_4), (x14_4), (x15_4), (wrap64 (x16_2 + 1)), (by first | rfl | (simp; done) | (simp [*]; done)), (by first | rfl | (simp; done) | (simp [*]; done)), (by first | rfl | (simp; done) | (simp [*]; done)), (by first | rfl | (simp; done) | (simp [*]; done)), H', ⟨by have := HK1.out; have := HK2.out; have := HJ11.out; have := HK4.out; omega⟩, ⟨Kd.V_mono (Kd.R_V (by (try simp only [hl17_4]); (with_reducible repeat (first | apply Kd.R_alloc | apply Kd.R_drewN | apply Kd.R_drew)); exact HO_17.out)) (fun k_ hk => by first | exact ⟨(.inr (hk.1)), hk.2⟩ | exact (.inr (hk)))⟩, ⟨by repeat (first | (with_reducible first | exact HB.out | apply below_alloc | apply pw_below_drewN | apply below_drew1) | exact HB.out)⟩⟩
          ·rw [if_neg c19] at H
           exact absurd H (by simp)
         ·rw [if_neg c18] at H
          exact absurd H (by simp)
        ·replace c16 := Bool.eq_false_iff.mpr c16
         subst c16
         have H1 : (if x13_2 < (l1.length : Int) then (if a4 = 2 then (some ((wrap64 ((l2.length : Int) + a3)) == 0)) else (some false)) else (if x15_2 = true then (if a4 = 0 then (if a3 = (-1) then (some (x14_2 == (l2.length : Int))) else (some false)) else (some false)) else (if a4 = 0 then (if 0 < (x0_2.length : Int) then (if a3 = (rd x0_2 0) then (some (x14_2 == (l2.length : Int))) else (some false)) else (none)) else (some false)))) = some r := by rw [if_neg (show ¬ (false = true) by decide)] at H; exact H
         clear H
         have H := H1
         clear H1
         by_cases c60 : x13_2 < (l1.length : Int)
         ·rw [if_pos c60] at H
          have c60b0 : decide (x13_2 < (l1.length : Int)) = true := decide_eq_true c60
          clear c60
          by_cases c61 : a4 = 2
          ·rw [if_pos c61] at H
           have c61b0 : (a4 == 2) = true := beq_iff_eq.mpr c61
           have c61b1 : (a4 != 2) = false := bne_eq_false_iff_eq.mpr c61
           clear c61
           obtain rfl := Option.some.inj H
           go_wp2
           repeat (go_quiet (fail); try go_wp2)
           go_ret
           exact ⟨by first | rfl | (simp [errW_none, errW_some] <;> rfl) | (simp [*, errW_none, errW_some] <;> rfl), by repeat (first | (with_reducible first | exact HB.out | apply below_alloc | apply pw_below_drewN | apply below_drew1) | exact HB.out)⟩
          ·rw [if_neg c61] at H
           have c61b0 : (a4 == 2) = false := beq_eq_false_iff_ne.mpr c61
           have c61b1 : (a4 != 2) = true := bne_iff_ne.mpr c61
           obtain rfl := Option.some.inj H
           go_wp2
           repeat (go_quiet (fail); try go_wp2)
           go_ret
           exact ⟨by first | rfl | (simp [errW_none, errW_some] <;> rfl) | (simp [*, errW_none, errW_some] <;> rfl), by repeat (first | (with_reducible first | exact HB.out | apply below_alloc | apply pw_below_drewN | apply below_drew1) | exact HB.out)⟩
         ·rw [if_neg c60] at H
          have c60b0 : decide (x13_2 < (l1.length : Int)) = false := decide_eq_false c60
          clear c60
          by_cases c62 : x15_2 = true
          ·subst c62
           have H1 : (if a4 = 0 then (if a3 = (-1) then (some (x14_2 == (l2.length : Int))) else (some false)) else (some false)) = some r := by rw [if_pos rfl] at H; exact H
           clear H
           have H := H1
           clear H1
           by_cases c63 : a4 = 0
           ·rw [if_pos c63] at H
            have c63b0 : (a4 == 0) = true := beq_iff_eq.mpr c63
            have c63b1 : (a4 != 0) = false := bne_eq_false_iff_eq.mpr c63
            clear c63
            by_cases c64 : a3 = (-1)
            ·rw [if_pos c64] at H
             have c64b0 : (a3 == (-1)) = true := beq_iff_eq.mpr c64
             have c64b1 : (a3 != (-1)) = false := bne_eq_false_iff_eq.mpr c64
             clear c64
             obtain rfl := Option.some.inj H
             go_wp2
             repeat (go_quiet (fail); try go_wp2)
             go_ret
             exact ⟨by first | rfl | (simp [errW_none, errW_some] <;> rfl) | (simp [*, errW_none, errW_some] <;> rfl), by repeat (first | (with_reducible first | exact HB.out | apply below_alloc | apply pw_below_drewN | apply below_drew1) | exact HB.out)⟩
            ·rw [if_neg c64] at H
             have c64b0 : (a3 == (-1)) = false := beq_eq_false_iff_ne.mpr c64
             have c64b1 : (a3 != (-1)) = true := bne_iff_ne.mpr c64
             obtain rfl := Option.some.inj H
             go_wp2
             repeat (go_quiet (fail); try go_wp2)
             go_ret
             exact ⟨by first | rfl | (simp [errW_none, errW_some] <;> rfl) | (simp [*, errW_none, errW_some] <;> rfl), by repeat (first | (with_reducible first | exact HB.out | apply below_alloc | apply pw_below_drewN | apply below_drew1) | exact HB.out)⟩
           ·rw [if_neg c63] at H
            have c63b0 : (a4 == 0) = false := beq_eq_false_iff_ne.mpr c63
            have c63b1 : (a4 != 0) = true := bne_iff_ne.mpr c63
            obtain rfl := Option.some.inj H
            go_wp2
            repeat (go_quiet (fail); try go_wp2)
            go_ret
            exact ⟨by first | rfl | (simp [errW_none, errW_some] <;> rfl) | (simp [*, errW_none, errW_some] <;> rfl), by repeat (first | (with_reducible first | exact HB.out | apply below_alloc | apply pw_below_drewN | apply below_drew1) | exact HB.out)⟩
          ·replace c62 := Bool.eq_false_iff.mpr c62
           subst c62
           have H1 : (if a4 = 0 then (if 0 < (x0_2.length : Int) then (if a3 = (rd x0_2 0) then (some (x14_2 == (l2.length : Int))) else (some false)) else (none)) else (some false)) = some r := by rw [if_neg (show ¬ (false = true) by decide)] at H; exact H
           clear H
           have H := H1
           clear H1
           by_cases c65 : a4 = 0
           ·rw [if_pos c65] at H
            have c65b0 : (a4 == 0) = true := beq_iff_eq.mpr c65
            have c65b1 : (a4 != 0) = false := bne_eq_false_iff_eq.mpr c65
            clear c65
            by_cases c66 : 0 < (x0_2.length : Int)
            ·rw [if_pos c66] at H
             have c66b0 : decide (0 < (x0_2.length : Int)) = true := decide_eq_true c66
             have c66b1 : decide (0 < x0_2.length) = true := decide_eq_true (by omega)
             clear c66
             by_cases c67 : a3 = (rd x0_2 0)
             ·rw [if_pos c67] at H
              have c67b0 : (a3 == (rd x0_2 0)) = true := beq_iff_eq.mpr c67
              have c67b1 : (a3 != (rd x0_2 0)) = false := bne_eq_false_iff_eq.mpr c67
              clear c67
              obtain rfl := Option.some.inj H
              obtain ⟨Ao68, co68, eo68⟩ := Kd.V_slice HO_0.out
              subst eo68
              have p169 : 0 ≤ (0 : Int) := (by omega)
              have q169 : 0 < (x0_2.length : Int) := of_decide_eq_true (by first | (with_reducible assumption) | assumption)
              obtain ⟨ad169, e169, hx169_0⟩ := Kd.at_int (Kd.V_reads' HO_0.out).2.2 0 p169 q169
              cases e169
              have qi169 : (0 < x0_2.length) = True := eq_true (by omega)
              (try rw [show ((0 : Int)).toNat = 0 from rfl] at hx169_0)
              (try rw [Addr.add_zero'] at hx169_0)
              replace p169 := eq_true p169
              replace q169 := eq_true q169
              go_wp2
              repeat (go_quiet (fail); try go_wp2)
              go_ret
              exact ⟨by first | rfl | (simp [errW_none, errW_some] <;> rfl) | (simp [*, errW_none, errW_some] <;> rfl), by repeat (first | (with_reducible first | exact HB.out | apply below_alloc | apply pw_below_drewN | apply below_drew1) | exact HB.out)⟩
             ·rw [if_neg c67] at H
              have c67b0 : (a3 == (rd x0_2 0)) = false := beq_eq_false_iff_ne.mpr c67
              have c67b1 : (a3 != (rd x0_2 0)) = true := bne_iff_ne.mpr c67
              obtain rfl := Option.some.inj H
              obtain ⟨Ao69, co69, eo69⟩ := Kd.V_slice HO_0.out
              subst eo69
              have p169 : 0 ≤ (0 : Int) := (by omega)
              have q169 : 0 < (x0_2.length : Int) := of_decide_eq_true (by first | (with_reducible assumption) | assumption)
              obtain ⟨ad169, e169, hx169_0⟩ := Kd.at_int (Kd.V_reads' HO_0.out).2.2 0 p169 q169
              cases e169
              have qi169 : (0 < x0_2.length) = True := eq_true (by omega)
              (try rw [show ((0 : Int)).toNat = 0 from rfl] at hx169_0)
              (try rw [Addr.add_zero'] at hx169_0)
              replace p169 := eq_true p169
              replace q169 := eq_true q169
              go_wp2
              repeat (go_quiet (fail); try go_wp2)
              go_ret
              exact ⟨by first | rfl | (simp [errW_none, errW_some] <;> rfl) | (simp [*, errW_none, errW_some] <;> rfl), by repeat (first | (with_reducible first | exact HB.out | apply below_alloc | apply pw_below_drewN | apply below_drew1) | exact HB.out)⟩
            ·rw [if_neg c66] at H
             exact absurd H (by simp)
           ·rw [if_neg c65] at H
            have c65b0 : (a4 == 0) = false := beq_eq_false_iff_ne.mpr c65
            have c65b1 : (a4 != 0) = true := bne_iff_ne.mpr c65
            obtain rfl := Option.some.inj H
            go_wp2
            repeat (go_quiet (fail); try go_wp2)
            go_ret
            exact ⟨by first | rfl | (simp [errW_none, errW_some] <;> rfl) | (simp [*, errW_none, errW_some] <;> rfl), by repeat (first | (with_reducible first | exact HB.out | apply below_alloc | apply pw_below_drewN | apply below_drew1) | exact HB.out)⟩

end Go.Proofs.Yteooljkamebenaa.PKnockoutPlays
