-- Printed by a program of this claim's writer (wip/ext): an extension of the kit's print.
import Derived.Test.YtcncilipmekfhaaDoorPBitsSetsx0
import Derived.Test.YtcncilipmekfhaaDoorPBitsSetsx1
namespace Go.Proofs.YtcncilipmekfhaaDoor.PBitsSets
open Go.RowKit Go.Proofs.YtcncilipmekfhaaDoorW.PrintWords Go.Proofs.YtcncilipmekfhaaDoorW.PrintLast Go.Proofs.YtcncilipmekfhaaDoorW.PrintMore
attribute [local go_sem] max2_int min2_int max_two min_two max_three min_three max_four min_four   -- for this text's walks alone
set_option linter.unusedVariables false
set_option linter.unusedSimpArgs false

/-! ### gamehalllaw1_BitsSets: function 3 -/
mutual
def gamehalllaw1_BitsSets.j0 : Nat → List Int → Int → Bool → Option (Bool)
  | 0, _, _, _ => none
  | k + 1, x0, x1, x40 => if x40 = true then (some false) else ((bits_First.f k 512).bind fun bt117 => (if bt117.2 = 0 then (gamehalllaw1_BitsSets.j1 k x0 x1 (bt117.1 != 9)) else (gamehalllaw1_BitsSets.j1 k x0 x1 true)))
def gamehalllaw1_BitsSets.j1 : Nat → List Int → Int → Bool → Option (Bool)
  | 0, _, _, _ => none
  | k + 1, x0, x1, x50 => if x50 = true then (some false) else (if 64 ≤ 35184372088832 then (gamehalllaw1_BitsSets.l0 k x0 x1 (List.replicate 64 0) 0 0 x0 (x0.length : Int) 0) else (none))
def gamehalllaw1_BitsSets.l0 : Nat → List Int → Int → List Int → Int → Int → List Int → Int → Int → Option (Bool)
  | 0, _, _, _, _, _, _, _, _ => none
  | k + 1, x0, x1, x9, x10, x11, x52, x53, x54 => if x54 < x53 then (if 0 ≤ x54 then (if x54 < (x52.length : Int) then (if x10 = 0 then ((gamehallref1_In.f (rd x52 x54) 0 63).bind fun t123 => (gamehalllaw1_BitsSets.j3 k x0 x1 x9 x10 x11 (rd x52 x54) x52 x53 x54 (!t123))) else (gamehalllaw1_BitsSets.j3 k x0 x1 x9 x10 x11 (rd x52 x54) x52 x53 x54 false)) else (none)) else (none)) else (if x10 = 0 then (gamehalllaw1_BitsSets.j6 k x0 x1 x10 x11) else (gamehalllaw1_BitsSets.j6 k x0 x1 x10 0))
def gamehalllaw1_BitsSets.j3 : Nat → List Int → Int → List Int → Int → Int → Int → List Int → Int → Int → Bool → Option (Bool)
  | 0, _, _, _, _, _, _, _, _, _, _ => none
  | k + 1, x0, x1, x9, x10, x11, x13, x52, x53, x54, x64 => if x64 = true then (gamehalllaw1_BitsSets.j4 k x0 x1 x9 4 x11 x13 x52 x53 x54) else (gamehalllaw1_BitsSets.j4 k x0 x1 x9 x10 x11 x13 x52 x53 x54)
def gamehalllaw1_BitsSets.j4 : Nat → List Int → Int → List Int → Int → Int → Int → List Int → Int → Int → Option (Bool)
  | 0, _, _, _, _, _, _, _, _, _ => none
  | k + 1, x0, x1, x9, x10, x11, x13, x52, x53, x54 => if x10 = 0 then (if 0 ≤ x13 then (if x13 < (x9.length : Int) then (gamehalllaw1_BitsSets.j5 k x0 x1 x9 x10 x11 x13 x52 x53 x54 (decide ((rd x9 x13) > 0))) else (none)) else (none)) else (gamehalllaw1_BitsSets.j5 k x0 x1 x9 x10 x11 x13 x52 x53 x54 false)
def gamehalllaw1_BitsSets.j5 : Nat → List Int → Int → List Int → Int → Int → Int → List Int → Int → Int → Bool → Option (Bool)
  | 0, _, _, _, _, _, _, _, _, _, _ => none
  | k + 1, x0, x1, x9, x10, x11, x13, x52, x53, x54, x73 => if x73 = true then (if 7 = 0 then (if 0 ≤ x13 then (if x13 < (x9.length : Int) then (gamehalllaw1_BitsSets.l0 k x0 x1 (x9.set (x13 : Int).toNat (wrap64 ((rd x9 x13) + 1))) 7 (IntKind.u64.wrap (x11 + (shl .u64 1 x13))) x52 x53 (wrap64 (x54 + 1))) else (none)) else (none)) else (gamehalllaw1_BitsSets.l0 k x0 x1 x9 7 x11 x52 x53 (wrap64 (x54 + 1)))) else (if x10 = 0 then (if 0 ≤ x13 then (if x13 < (x9.length : Int) then (gamehalllaw1_BitsSets.l0 k x0 x1 (x9.set (x13 : Int).toNat (wrap64 ((rd x9 x13) + 1))) x10 (IntKind.u64.wrap (x11 + (shl .u64 1 x13))) x52 x53 (wrap64 (x54 + 1))) else (none)) else (none)) else (gamehalllaw1_BitsSets.l0 k x0 x1 x9 x10 x11 x52 x53 (wrap64 (x54 + 1))))
def gamehalllaw1_BitsSets.j6 : Nat → List Int → Int → Int → Int → Option (Bool)
  | 0, _, _, _, _ => none
  | k + 1, x0, x1, x10, x11 => (bits_Of.f k x0).bind fun bt129 => (gamehalllaw1_BitsSets.l1 k x1 x10 x11 bt129.1 bt129.2 ([] : List Int) 0)
def gamehalllaw1_BitsSets.l1 : Nat → Int → Int → Int → Int → Int → List Int → Int → Option (Bool)
  | 0, _, _, _, _, _, _, _ => none
  | k + 1, x1, x10, x11, x14, x15, x16, x94 => if x94 < 64 then (if 0 ≤ x94 then (if (shl .u64 1 x94) = 0 then (none) else (if (Int.tmod (IntKind.u64.wrap (Int.tdiv x1 (shl .u64 1 x94))) 2) = 1 then (if x16.length < 17592186044416 then (gamehalllaw1_BitsSets.l1 k x1 x10 x11 x14 x15 (x16 ++ [x94]) (wrap64 (x94 + 1))) else (none)) else (gamehalllaw1_BitsSets.l1 k x1 x10 x11 x14 x15 x16 (wrap64 (x94 + 1))))) else (none)) else ((bits_First.f k x1).bind fun bt134 => (if (x16.length : Int) = 0 then (if x15 = x10 then (if x14 = x11 then (if bt134.2 = 8 then (if bt134.1 = 0 then ((bits_Count.f k x1).bind fun t136 => (if t136 = 0 then ((bits_List.f k x1).bind fun t137 => (some ((t137.length : Int) == 0))) else (some false))) else (some false)) else (some false)) else (some false)) else (some false)) else (if x15 = x10 then (if x14 = x11 then (if bt134.2 = 0 then (if 0 < (x16.length : Int) then (if bt134.1 = (rd x16 0) then ((bits_Count.f k x1).bind fun t141 => (if t141 = (x16.length : Int) then ((bits_List.f k x1).bind fun t142 => ((gamehallref1_SameInts.f k t142 x16).bind fun t145 => (some t145))) else (some false))) else (some false)) else (none)) else (some false)) else (some false)) else (some false))))
end
def gamehalllaw1_BitsSets.f (k : Nat) (l0 : List Int) (a1 : Int) : Option (Bool) := (bits_Of.f k (([0, 9] : List Int))).bind fun bt107 => (if bt107.2 = 0 then (if bt107.1 = 513 then ((bits_Count.f k 513).bind fun t109 => (if t109 = 2 then ((bits_List.f k 513).bind fun t110 => ((gamehallref1_SameInts.f k t110 (([0, 9] : List Int))).bind fun t116 => (gamehalllaw1_BitsSets.j0 k l0 a1 (!t116)))) else (gamehalllaw1_BitsSets.j0 k l0 a1 true))) else (gamehalllaw1_BitsSets.j0 k l0 a1 true)) else (gamehalllaw1_BitsSets.j0 k l0 a1 true))
theorem gamehalllaw1_BitsSets.mono_l : ∀ k, (∀ y0 y1 y2, LeO (gamehalllaw1_BitsSets.j0 k y0 y1 y2) (gamehalllaw1_BitsSets.j0 (k + 1) y0 y1 y2)) ∧ (∀ y0 y1 y2, LeO (gamehalllaw1_BitsSets.j1 k y0 y1 y2) (gamehalllaw1_BitsSets.j1 (k + 1) y0 y1 y2)) ∧ (∀ y0 y1 y2 y3 y4 y5 y6 y7, LeO (gamehalllaw1_BitsSets.l0 k y0 y1 y2 y3 y4 y5 y6 y7) (gamehalllaw1_BitsSets.l0 (k + 1) y0 y1 y2 y3 y4 y5 y6 y7)) ∧ (∀ y0 y1 y2 y3 y4 y5 y6 y7 y8 y9, LeO (gamehalllaw1_BitsSets.j3 k y0 y1 y2 y3 y4 y5 y6 y7 y8 y9) (gamehalllaw1_BitsSets.j3 (k + 1) y0 y1 y2 y3 y4 y5 y6 y7 y8 y9)) ∧ (∀ y0 y1 y2 y3 y4 y5 y6 y7 y8, LeO (gamehalllaw1_BitsSets.j4 k y0 y1 y2 y3 y4 y5 y6 y7 y8) (gamehalllaw1_BitsSets.j4 (k + 1) y0 y1 y2 y3 y4 y5 y6 y7 y8)) ∧ (∀ y0 y1 y2 y3 y4 y5 y6 y7 y8 y9, LeO (gamehalllaw1_BitsSets.j5 k y0 y1 y2 y3 y4 y5 y6 y7 y8 y9) (gamehalllaw1_BitsSets.j5 (k + 1) y0 y1 y2 y3 y4 y5 y6 y7 y8 y9)) ∧ (∀ y0 y1 y2 y3, LeO (gamehalllaw1_BitsSets.j6 k y0 y1 y2 y3) (gamehalllaw1_BitsSets.j6 (k + 1) y0 y1 y2 y3)) ∧ (∀ y0 y1 y2 y3 y4 y5 y6, LeO (gamehalllaw1_BitsSets.l1 k y0 y1 y2 y3 y4 y5 y6) (gamehalllaw1_BitsSets.l1 (k + 1) y0 y1 y2 y3 y4 y5 y6))
  | 0 => ⟨fun _ _ _ r h => by simp [gamehalllaw1_BitsSets.j0] at h, fun _ _ _ r h => by simp [gamehalllaw1_BitsSets.j1] at h, fun _ _ _ _ _ _ _ _ r h => by simp [gamehalllaw1_BitsSets.l0] at h, fun _ _ _ _ _ _ _ _ _ _ r h => by simp [gamehalllaw1_BitsSets.j3] at h, fun _ _ _ _ _ _ _ _ _ r h => by simp [gamehalllaw1_BitsSets.j4] at h, fun _ _ _ _ _ _ _ _ _ _ r h => by simp [gamehalllaw1_BitsSets.j5] at h, fun _ _ _ _ r h => by simp [gamehalllaw1_BitsSets.j6] at h, fun _ _ _ _ _ _ _ r h => by simp [gamehalllaw1_BitsSets.l1] at h⟩
  | k + 1 => by
    obtain ⟨ih0, ih1, ih2, ih3, ih4, ih5, ih6, ih7⟩ := gamehalllaw1_BitsSets.mono_l k
    refine ⟨?_, ?_, ?_, ?_, ?_, ?_, ?_, ?_⟩
    · intros
      unfold gamehalllaw1_BitsSets.j0
      repeat' first
      | (with_reducible apply ih0)
      | (with_reducible apply ih1)
      | (with_reducible apply ih2)
      | (with_reducible apply ih3)
      | (with_reducible apply ih4)
      | (with_reducible apply ih5)
      | (with_reducible apply ih6)
      | (with_reducible apply ih7)
      | (with_reducible apply bits_Count.mono)
      | (with_reducible apply bits_First.mono)
      | (with_reducible apply bits_List.mono)
      | (with_reducible apply bits_Of.mono)
      | (with_reducible apply gamehallref1_SameInts.mono)
      | (with_reducible exact LeO.refl _)
      | (with_reducible exact LeO.none _)
      | (with_reducible refine LeO.ite ?_ ?_)
      | (with_reducible refine LeO.bind ?_ (fun _ => ?_))
      | apply ih0
      | apply ih1
      | apply ih2
      | apply ih3
      | apply ih4
      | apply ih5
      | apply ih6
      | apply ih7
      | apply bits_Count.mono
      | apply bits_First.mono
      | apply bits_List.mono
      | apply bits_Of.mono
      | apply gamehallref1_SameInts.mono
      | exact LeO.none _
      | refine LeO.ite ?_ ?_
      | refine LeO.bind ?_ (fun _ => ?_)
    · intros
      unfold gamehalllaw1_BitsSets.j1
      repeat' first
      | (with_reducible apply ih0)
      | (with_reducible apply ih1)
      | (with_reducible apply ih2)
      | (with_reducible apply ih3)
      | (with_reducible apply ih4)
      | (with_reducible apply ih5)
      | (with_reducible apply ih6)
      | (with_reducible apply ih7)
      | (with_reducible apply bits_Count.mono)
      | (with_reducible apply bits_First.mono)
      | (with_reducible apply bits_List.mono)
      | (with_reducible apply bits_Of.mono)
      | (with_reducible apply gamehallref1_SameInts.mono)
      | (with_reducible exact LeO.refl _)
      | (with_reducible exact LeO.none _)
      | (with_reducible refine LeO.ite ?_ ?_)
      | (with_reducible refine LeO.bind ?_ (fun _ => ?_))
      | apply ih0
      | apply ih1
      | apply ih2
      | apply ih3
      | apply ih4
      | apply ih5
      | apply ih6
      | apply ih7
      | apply bits_Count.mono
      | apply bits_First.mono
      | apply bits_List.mono
      | apply bits_Of.mono
      | apply gamehallref1_SameInts.mono
      | exact LeO.none _
      | refine LeO.ite ?_ ?_
      | refine LeO.bind ?_ (fun _ => ?_)
    · intros
      unfold gamehalllaw1_BitsSets.l0
      repeat' first
      | (with_reducible apply ih0)
      | (with_reducible apply ih1)
      | (with_reducible apply ih2)
      | (with_reducible apply ih3)
      | (with_reducible apply ih4)
      | (with_reducible apply ih5)
      | (with_reducible apply ih6)
      | (with_reducible apply ih7)
      | (with_reducible apply bits_Count.mono)
      | (with_reducible apply bits_First.mono)
      | (with_reducible apply bits_List.mono)
      | (with_reducible apply bits_Of.mono)
      | (with_reducible apply gamehallref1_SameInts.mono)
      | (with_reducible exact LeO.refl _)
      | (with_reducible exact LeO.none _)
      | (with_reducible refine LeO.ite ?_ ?_)
      | (with_reducible refine LeO.bind ?_ (fun _ => ?_))
      | apply ih0
      | apply ih1
      | apply ih2
      | apply ih3
      | apply ih4
      | apply ih5
      | apply ih6
      | apply ih7
      | apply bits_Count.mono
      | apply bits_First.mono
      | apply bits_List.mono
      | apply bits_Of.mono
      | apply gamehallref1_SameInts.mono
      | exact LeO.none _
      | refine LeO.ite ?_ ?_
      | refine LeO.bind ?_ (fun _ => ?_)
    · intros
      unfold gamehalllaw1_BitsSets.j3
      repeat' first
      | (with_reducible apply ih0)
      | (with_reducible apply ih1)
      | (with_reducible apply ih2)
      | (with_reducible apply ih3)
      | (with_reducible apply ih4)
      | (with_reducible apply ih5)
      | (with_reducible apply ih6)
      | (with_reducible apply ih7)
      | (with_reducible apply bits_Count.mono)
      | (with_reducible apply bits_First.mono)
      | (with_reducible apply bits_List.mono)
      | (with_reducible apply bits_Of.mono)
      | (with_reducible apply gamehallref1_SameInts.mono)
      | (with_reducible exact LeO.refl _)
      | (with_reducible exact LeO.none _)
      | (with_reducible refine LeO.ite ?_ ?_)
      | (with_reducible refine LeO.bind ?_ (fun _ => ?_))
      | apply ih0
      | apply ih1
      | apply ih2
      | apply ih3
      | apply ih4
      | apply ih5
      | apply ih6
      | apply ih7
      | apply bits_Count.mono
      | apply bits_First.mono
      | apply bits_List.mono
      | apply bits_Of.mono
      | apply gamehallref1_SameInts.mono
      | exact LeO.none _
      | refine LeO.ite ?_ ?_
      | refine LeO.bind ?_ (fun _ => ?_)
    · intros
      unfold gamehalllaw1_BitsSets.j4
      repeat' first
      | (with_reducible apply ih0)
      | (with_reducible apply ih1)
      | (with_reducible apply ih2)
      | (with_reducible apply ih3)
      | (with_reducible apply ih4)
      | (with_reducible apply ih5)
      | (with_reducible apply ih6)
      | (with_reducible apply ih7)
      | (with_reducible apply bits_Count.mono)
      | (with_reducible apply bits_First.mono)
      | (with_reducible apply bits_List.mono)
      | (with_reducible apply bits_Of.mono)
      | (with_reducible apply gamehallref1_SameInts.mono)
      | (with_reducible exact LeO.refl _)
      | (with_reducible exact LeO.none _)
      | (with_reducible refine LeO.ite ?_ ?_)
      | (with_reducible refine LeO.bind ?_ (fun _ => ?_))
      | apply ih0
      | apply ih1
      | apply ih2
      | apply ih3
      | apply ih4
      | apply ih5
      | apply ih6
      | apply ih7
      | apply bits_Count.mono
      | apply bits_First.mono
      | apply bits_List.mono
      | apply bits_Of.mono
      | apply gamehallref1_SameInts.mono
      | exact LeO.none _
      | refine LeO.ite ?_ ?_
      | refine LeO.bind ?_ (fun _ => ?_)
    · intros
      unfold gamehalllaw1_BitsSets.j5
      repeat' first
      | (with_reducible apply ih0)
      | (with_reducible apply ih1)
      | (with_reducible apply ih2)
      | (with_reducible apply ih3)
      | (with_reducible apply ih4)
      | (with_reducible apply ih5)
      | (with_reducible apply ih6)
      | (with_reducible apply ih7)
      | (with_reducible apply bits_Count.mono)
      | (with_reducible apply bits_First.mono)
      | (with_reducible apply bits_List.mono)
      | (with_reducible apply bits_Of.mono)
      | (with_reducible apply gamehallref1_SameInts.mono)
      | (with_reducible exact LeO.refl _)
      | (with_reducible exact LeO.none _)
      | (with_reducible refine LeO.ite ?_ ?_)
      | (with_reducible refine LeO.bind ?_ (fun _ => ?_))
      | apply ih0
      | apply ih1
      | apply ih2
      | apply ih3
      | apply ih4
      | apply ih5
      | apply ih6
      | apply ih7
      | apply bits_Count.mono
      | apply bits_First.mono
      | apply bits_List.mono
      | apply bits_Of.mono
      | apply gamehallref1_SameInts.mono
      | exact LeO.none _
      | refine LeO.ite ?_ ?_
      | refine LeO.bind ?_ (fun _ => ?_)
    · intros
      unfold gamehalllaw1_BitsSets.j6
      repeat' first
      | (with_reducible apply ih0)
      | (with_reducible apply ih1)
      | (with_reducible apply ih2)
      | (with_reducible apply ih3)
      | (with_reducible apply ih4)
      | (with_reducible apply ih5)
      | (with_reducible apply ih6)
      | (with_reducible apply ih7)
      | (with_reducible apply bits_Count.mono)
      | (with_reducible apply bits_First.mono)
      | (with_reducible apply bits_List.mono)
      | (with_reducible apply bits_Of.mono)
      | (with_reducible apply gamehallref1_SameInts.mono)
      | (with_reducible exact LeO.refl _)
      | (with_reducible exact LeO.none _)
      | (with_reducible refine LeO.ite ?_ ?_)
      | (with_reducible refine LeO.bind ?_ (fun _ => ?_))
      | apply ih0
      | apply ih1
      | apply ih2
      | apply ih3
      | apply ih4
      | apply ih5
      | apply ih6
      | apply ih7
      | apply bits_Count.mono
      | apply bits_First.mono
      | apply bits_List.mono
      | apply bits_Of.mono
      | apply gamehallref1_SameInts.mono
      | exact LeO.none _
      | refine LeO.ite ?_ ?_
      | refine LeO.bind ?_ (fun _ => ?_)
    · intros
      unfold gamehalllaw1_BitsSets.l1
      repeat' first
      | (with_reducible apply ih0)
      | (with_reducible apply ih1)
      | (with_reducible apply ih2)
      | (with_reducible apply ih3)
      | (with_reducible apply ih4)
      | (with_reducible apply ih5)
      | (with_reducible apply ih6)
      | (with_reducible apply ih7)
      | (with_reducible apply bits_Count.mono)
      | (with_reducible apply bits_First.mono)
      | (with_reducible apply bits_List.mono)
      | (with_reducible apply bits_Of.mono)
      | (with_reducible apply gamehallref1_SameInts.mono)
      | (with_reducible exact LeO.refl _)
      | (with_reducible exact LeO.none _)
      | (with_reducible refine LeO.ite ?_ ?_)
      | (with_reducible refine LeO.bind ?_ (fun _ => ?_))
      | apply ih0
      | apply ih1
      | apply ih2
      | apply ih3
      | apply ih4
      | apply ih5
      | apply ih6
      | apply ih7
      | apply bits_Count.mono
      | apply bits_First.mono
      | apply bits_List.mono
      | apply bits_Of.mono
      | apply gamehallref1_SameInts.mono
      | exact LeO.none _
      | refine LeO.ite ?_ ?_
      | refine LeO.bind ?_ (fun _ => ?_)
theorem gamehalllaw1_BitsSets.mono : ∀ a0 a1 k, LeO (gamehalllaw1_BitsSets.f k a0 a1) (gamehalllaw1_BitsSets.f (k + 1) a0 a1) := by
  intro a0 a1 k
  obtain ⟨ih0, ih1, ih2, ih3, ih4, ih5, ih6, ih7⟩ := gamehalllaw1_BitsSets.mono_l k
  unfold gamehalllaw1_BitsSets.f
  repeat' first
      | (with_reducible apply ih0)
      | (with_reducible apply ih1)
      | (with_reducible apply ih2)
      | (with_reducible apply ih3)
      | (with_reducible apply ih4)
      | (with_reducible apply ih5)
      | (with_reducible apply ih6)
      | (with_reducible apply ih7)
      | (with_reducible apply bits_Count.mono)
      | (with_reducible apply bits_First.mono)
      | (with_reducible apply bits_List.mono)
      | (with_reducible apply bits_Of.mono)
      | (with_reducible apply gamehallref1_SameInts.mono)
      | (with_reducible exact LeO.refl _)
      | (with_reducible exact LeO.none _)
      | (with_reducible refine LeO.ite ?_ ?_)
      | (with_reducible refine LeO.bind ?_ (fun _ => ?_))
      | apply ih0
      | apply ih1
      | apply ih2
      | apply ih3
      | apply ih4
      | apply ih5
      | apply ih6
      | apply ih7
      | apply bits_Count.mono
      | apply bits_First.mono
      | apply bits_List.mono
      | apply bits_Of.mono
      | apply gamehallref1_SameInts.mono
      | exact LeO.none _
      | refine LeO.ite ?_ ?_
      | refine LeO.bind ?_ (fun _ => ?_)
set_option maxHeartbeats 8000000 in
set_option maxRecDepth 100000 in
theorem gamehalllaw1_BitsSets.calls (k : Nat) (A0 : Option Addr) (c0 : Nat) (l0 : List Int) (a1 : Int) (r : Bool) (w : World) (hr0 : Kd.C (Kd.int .i64) w A0 l0.length l0) (hc0 : l0.length ≤ c0) (h : gamehalllaw1_BitsSets.f k l0 a1 = some r) (hlaid : LaidS w) :
    Calls Tryd.prog 3 #[.slice A0 l0.length c0, .int .u64 a1] w fun e w' => e = .returned (.bool r) ∧ Below w.heap.size w w' := by
 have HR0 := Aside0.mk hr0; have HC0 := Aside0.mk hc0; clear hr0 hc0; have HB := Aside0.mk (Below.refl w.heap.size w); have hss_ := @isSome_setCell
 have H : ((bits_Of.f k (([0, 9] : List Int))).bind fun bt107 => (if bt107.2 = 0 then (if bt107.1 = 513 then ((bits_Count.f k 513).bind fun t109 => (if t109 = 2 then ((bits_List.f k 513).bind fun t110 => ((gamehallref1_SameInts.f k t110 (([0, 9] : List Int))).bind fun t116 => (gamehalllaw1_BitsSets.j0 k l0 a1 (!t116)))) else (gamehalllaw1_BitsSets.j0 k l0 a1 true))) else (gamehalllaw1_BitsSets.j0 k l0 a1 true)) else (gamehalllaw1_BitsSets.j0 k l0 a1 true))) = some r := h
 clear h
 obtain ⟨y104, hy104⟩ : ∃ y_ : List Int, y_ = (([0, 9] : List Int)) := ⟨_, rfl⟩
 replace H : ((bits_Of.f k y104).bind fun bt107 => (if bt107.2 = 0 then (if bt107.1 = 513 then ((bits_Count.f k 513).bind fun t109 => (if t109 = 2 then ((bits_List.f k 513).bind fun t110 => ((gamehallref1_SameInts.f k t110 (([0, 9] : List Int))).bind fun t116 => (gamehalllaw1_BitsSets.j0 k l0 a1 (!t116)))) else (gamehalllaw1_BitsSets.j0 k l0 a1 true))) else (gamehalllaw1_BitsSets.j0 k l0 a1 true)) else (gamehalllaw1_BitsSets.j0 k l0 a1 true))) = some r := by first | (rw [hy104]; with_reducible exact H) | (have H2_ := (Option.bind_some _ _).symm.trans H; rw [hy104]; with_reducible exact H2_) | (have H2_ := (Option.bind_some _ _).symm.trans H; with_reducible exact H2_) | with_reducible exact H | (rw [hy104]; exact H) | exact H
 have Ny104 := Aside0.mk hy104; clear hy104; replace H := Option.bind_eq_some_iff.mp H
 obtain ⟨⟨t107, t108⟩, A30, H⟩ := H
 try dsimp only at H
 have A3 := Aside0.mk A30; clear A30; have HC4 := Aside0.mk H; clear H
 go_enter Tryd.func3, Tryd.ntmps3
 go_upto_region 2 with (first | ((with_reducible refine gate_dst (N := 21) rfl ?_); (try (refine gate_guard (by rfl) ?_; dsimp only)); refine Kd.R_lit (Kd.int .i64) _ 3 ?hg (N := 21) ?hd (xs := ([0, 9] : List Int)) (inner := [.int .i64 0, .int .i64 9]) (ok := fun _ => True) (okp := fun _ => True) ?hr ?hp (fun _ hk => hk) trivial (Below.refl _ _) (Nat.le_refl _) (by simp) ?_; (case hd => rfl); (case hg => rfl); (case hr => first | (go_simp; done) | (go_simp; rfl)); (case hp => exact (Reps.one (show Kd.M (Kd.int .i64) _ _ _ 0 [.int .i64 0] from rfl) (Reps.one (show Kd.M (Kd.int .i64) _ _ _ 9 [.int .i64 9] from rfl) (Reps.none _ _)))); intro v105 w5 ho6 hb hg_ hnew_; clear hg_ hnew_; (first | rw [← Ny104.out] at ho6 | (simp only [Int.reduceToNat] at ho6; rw [← Ny104.out] at ho6)); have HO106 := Aside0.mk (Kd.R_lower ho6 (below_size (xW HB))); replace HB := Aside0.mk (xS HB hb); clear hb ho6; obtain ⟨Ao7, co7, eo7⟩ := Kd.R_slice HO106.out; subst eo7) | ((with_reducible refine gate_callee (f := 6) rfl ?_); refine goesL_ (some 22) rfl rfl Tryd.func6 (by kernel_rfl) rfl #[.slice Ao7 y104.length co7] rfl (by (try simp only [List.map_toArray, List.map_cons, List.map_nil]); first | done | rfl | (simp only [List.length_drop, List.length_take]; rfl)) ?_; (with_reducible refine (bits_Of.calls k _ _ y104 t107 t108 _ ?side1 ?side2 A3.out).mono ?_); (case side1 => repeat (first | exact (Kd.R_reads' HO106.out).2.2 | (with_reducible refine Kd.C_alloc ?_ _) | (with_reducible refine Kd.C_drewN ?_ _) | (with_reducible refine Kd.C_drew ?_))); (case side2 => exact (Kd.R_reads' HO106.out).2.1); rintro e w' ⟨rfl, ⟨nd, rfl⟩⟩; refine ⟨_, rfl, ?_⟩))
 (try simp only [Act.put, List.setIfInBounds_toArray, List.set_cons_zero, List.set_cons_succ])
 go_cut [40] (fun vs40 wc => ∃ (kq : Nat) (x40_3 : Bool), vs40 = .bool x40_3 ∧ Aside0 (gamehalllaw1_BitsSets.j0 kq l0 a1 x40_3 = some r) ∧ Aside0 (kq ≤ k) ∧ Aside0 (Below w.heap.size w wc))
 case first =>
  have H := HC4.out; clear HC4
  by_cases c8 : t108 = 0
  ·rw [if_pos c8] at H
   have c8b0 : (t108 == 0) = true := beq_iff_eq.mpr c8
   have c8b1 : (t108 != 0) = false := bne_eq_false_iff_eq.mpr c8
   clear c8
   (first | rw [c8b0] | (simp only [i64_w, i32_w]; rw [c8b0]) | skip)
   by_cases c9 : t107 = 513
   ·rw [if_pos c9] at H
    have c9b0 : (t107 == 513) = true := beq_iff_eq.mpr c9
    have c9b1 : (t107 != 513) = false := bne_eq_false_iff_eq.mpr c9
    clear c9; replace H := Option.bind_eq_some_iff.mp H
    obtain ⟨t109, A100, H⟩ := H
    try dsimp only at H
    have A10 := Aside0.mk A100; clear A100
    by_cases c11 : t109 = 2
    ·rw [if_pos c11] at H
     have c11b0 : (t109 == 2) = true := beq_iff_eq.mpr c11
     have c11b1 : (t109 != 2) = false := bne_eq_false_iff_eq.mpr c11
     clear c11; replace H := Option.bind_eq_some_iff.mp H
     obtain ⟨t110, A120, H⟩ := H
     try dsimp only at H
     have A12 := Aside0.mk A120; clear A120
     obtain ⟨y113, hy113⟩ : ∃ y_ : List Int, y_ = (([0, 9] : List Int)) := ⟨_, rfl⟩
     replace H : ((gamehallref1_SameInts.f k t110 y113).bind fun t116 => (gamehalllaw1_BitsSets.j0 k l0 a1 (!t116))) = some r := by first | (rw [hy113]; with_reducible exact H) | (have H2_ := (Option.bind_some _ _).symm.trans H; rw [hy113]; with_reducible exact H2_) | (have H2_ := (Option.bind_some _ _).symm.trans H; with_reducible exact H2_) | with_reducible exact H | (rw [hy113]; exact H) | exact H
     have Ny113 := Aside0.mk hy113; clear hy113; replace H := Option.bind_eq_some_iff.mp H
     obtain ⟨t116, A130, H⟩ := H
     replace H : (gamehalllaw1_BitsSets.j0 k l0 a1 (!t116)) = some r := H
     have A13 := Aside0.mk A130; clear A130
     have H' := Aside0.mk H
     clear H
     go_wp2_with (first | (go_at_call 7; (with_reducible refine (bits_Count.calls k 513 t109 _ A10.out ?sideL).mono ?_); (case sideL => exact xL hlaid); rintro e w14 ⟨rfl, hb⟩; replace HO106 := Aside0.mk (Kd.R_below (by (with_reducible repeat (first | apply Kd.R_alloc | apply Kd.R_drewN | apply Kd.R_drew)); exact HO106.out) hb); replace HB := Aside0.mk (xS HB hb); (try clear hb); (try clear hb2); (try clear hk); (try clear hi)) | (go_at_call 9; (with_reducible refine (bits_List.calls k 513 t110 _ A12.out ?sideL).mono ?_); (case sideL => exact xL hlaid); rintro e w15 ⟨v111, rfl, ho0, hb⟩; have HO112 := Aside0.mk (Kd.R_lower (Kd.R_new' ho0 (Kd.R_lt (by (with_reducible repeat (first | apply Kd.R_alloc | apply Kd.R_drewN | apply Kd.R_drew)); exact HO106.out))) (below_size (xW HB))); replace HO106 := Aside0.mk (Kd.R_elder' (by (with_reducible repeat (first | apply Kd.R_alloc | apply Kd.R_drewN | apply Kd.R_drew)); exact HO106.out) (Kd.R_base ho0) hb); replace HB := Aside0.mk (xS HB hb); (try clear hb); (try clear hb2); (try clear hk); (try clear hi); (try clear ho0)) | ((with_reducible refine gate_dst (N := 37) rfl ?_); (try (refine gate_guard (by rfl) ?_; dsimp only)); refine Kd.R_lit (Kd.int .i64) _ 3 ?hg (N := 37) ?hd (xs := ([0, 9] : List Int)) (inner := [.int .i64 0, .int .i64 9]) (ok := fun _ => True) (okp := fun _ => True) ?hr ?hp (fun _ hk => hk) trivial (Below.refl _ _) (Nat.le_refl _) (by simp) ?_; (case hd => rfl); (case hg => rfl); (case hr => first | (go_simp; done) | (go_simp; rfl)); (case hp => exact (Reps.one (show Kd.M (Kd.int .i64) _ _ _ 0 [.int .i64 0] from rfl) (Reps.one (show Kd.M (Kd.int .i64) _ _ _ 9 [.int .i64 9] from rfl) (Reps.none _ _)))); intro v114 w16 ho17 hb hg_ hnew_; clear hg_ hnew_; (first | rw [← Ny113.out] at ho17 | (simp only [Int.reduceToNat] at ho17; rw [← Ny113.out] at ho17)); have HO115 := Aside0.mk (Kd.R_lower (Kd.R_new' (Kd.R_new' ho17 (Kd.R_lt (by (with_reducible repeat (first | apply Kd.R_alloc | apply Kd.R_drewN | apply Kd.R_drew)); exact HO106.out))) (Kd.R_lt (by (with_reducible repeat (first | apply Kd.R_alloc | apply Kd.R_drewN | apply Kd.R_drew)); exact HO112.out))) (below_size (xW HB))); replace HO106 := Aside0.mk (Kd.R_elder' (by (with_reducible repeat (first | apply Kd.R_alloc | apply Kd.R_drewN | apply Kd.R_drew)); exact HO106.out) (Kd.R_base ho17) hb); replace HO112 := Aside0.mk (Kd.R_elder' (by (with_reducible repeat (first | apply Kd.R_alloc | apply Kd.R_drewN | apply Kd.R_drew)); exact HO112.out) (Kd.R_base ho17) hb); replace HB := Aside0.mk (xS HB hb); clear hb ho17; obtain ⟨Ao18, co18, eo18⟩ := Kd.R_slice HO112.out; subst eo18; obtain ⟨Ao19, co19, eo19⟩ := Kd.R_slice HO115.out; subst eo19) | (go_at_call 8; (with_reducible refine (gamehallref1_SameInts.calls k _ _ t110 _ _ y113 t116 _ ?side1 ?side2 ?side3 ?side4 A13.out).mono ?_); (case side1 => repeat (first | exact (Kd.R_reads' HO112.out).2.2 | (with_reducible refine Kd.C_alloc ?_ _) | (with_reducible refine Kd.C_drewN ?_ _) | (with_reducible refine Kd.C_drew ?_))); (case side2 => exact (Kd.R_reads' HO112.out).2.1); (case side3 => repeat (first | exact (Kd.R_reads' HO115.out).2.2 | (with_reducible refine Kd.C_alloc ?_ _) | (with_reducible refine Kd.C_drewN ?_ _) | (with_reducible refine Kd.C_drew ?_))); (case side4 => exact (Kd.R_reads' HO115.out).2.1); rintro e w' ⟨rfl, ⟨nd, rfl⟩⟩))
     go_meet
     case rel => exact ⟨_, (!t116), (xrf), H', ⟨by first | omega | exact Nat.le_refl _⟩, ⟨xW HB⟩⟩
    ·rw [if_neg c11] at H
     have c11b0 : (t109 == 2) = false := beq_eq_false_iff_ne.mpr c11
     have c11b1 : (t109 != 2) = true := bne_iff_ne.mpr c11
     have H' := Aside0.mk H
     clear H
     go_wp2_with (first | (go_at_call 7; (with_reducible refine (bits_Count.calls k 513 t109 _ A10.out ?sideL).mono ?_); (case sideL => exact xL hlaid); rintro e w20 ⟨rfl, hb⟩; replace HO106 := Aside0.mk (Kd.R_below (by (with_reducible repeat (first | apply Kd.R_alloc | apply Kd.R_drewN | apply Kd.R_drew)); exact HO106.out) hb); replace HB := Aside0.mk (xS HB hb); (try clear hb); (try clear hb2); (try clear hk); (try clear hi)))
     go_meet
     case rel => exact ⟨_, (true), (xrf), H', ⟨by first | omega | exact Nat.le_refl _⟩, ⟨xW HB⟩⟩
   ·rw [if_neg c9] at H
    have c9b0 : (t107 == 513) = false := beq_eq_false_iff_ne.mpr c9
    have c9b1 : (t107 != 513) = true := bne_iff_ne.mpr c9
    have H' := Aside0.mk H
    clear H
    go_wp2
    go_meet
    case rel => exact ⟨_, (true), (xrf), H', ⟨by first | omega | exact Nat.le_refl _⟩, ⟨xW HB⟩⟩
  ·rw [if_neg c8] at H
   have c8b0 : (t108 == 0) = false := beq_eq_false_iff_ne.mpr c8
   have c8b1 : (t108 != 0) = true := bne_iff_ne.mpr c8
   (first | rw [c8b0] | (simp only [i64_w, i32_w]; rw [c8b0]) | skip)
   have H' := Aside0.mk H
   clear H
   go_wp2
   go_meet
   case rel => exact ⟨_, (true), (xrf), H', ⟨by first | omega | exact Nat.le_refl _⟩, ⟨xW HB⟩⟩
 case rest =>
  clear HC4; (try clear p2)
  obtain ⟨kq, x40_3, rfl, HA, HJ3, HB⟩ := hcut
  cases kq with
  | zero => exact absurd HA.out (by simp [gamehalllaw1_BitsSets.j0])
  | succ kj3 =>
   have H := HA.out; clear HA
   simp only [gamehalllaw1_BitsSets.j0] at H
   by_cases c21 : x40_3 = true
   ·subst c21
    rw [if_pos rfl] at H
    obtain rfl := Option.some.inj H
    go_wp2
    go_ret
    exact ⟨xer, xW HB⟩
   ·replace c21 := Bool.eq_false_iff.mpr c21
    subst c21
    rw [if_neg (show ¬ (false = true) by decide)] at H
    replace H := Option.bind_eq_some_iff.mp H
    obtain ⟨⟨t117, t118⟩, A220, H⟩ := H
    try dsimp only at H
    have A22 := Aside0.mk A220; clear A220; have HC23 := Aside0.mk H; clear H
    go_upto_region 5 with (first | ((with_reducible refine gate_callee (f := 10) rfl ?_); refine goesL_ (some 42) rfl rfl Tryd.func10 (by kernel_rfl) rfl #[.int .u64 512] rfl (by (try simp only [List.map_toArray, List.map_cons, List.map_nil]); first | done | rfl | (simp only [List.length_drop, List.length_take]; rfl)) ?_; (with_reducible refine (bits_First.calls kj3 512 t117 t118 _ A22.out ?sideL).mono ?_); (case sideL => exact xL hlaid); rintro e w24 ⟨rfl, hb⟩; refine ⟨_, rfl, ?_⟩; replace HB := Aside0.mk (xS HB hb); (try clear hb); (try clear hb2); (try clear hk); (try clear hi)))
    (try simp only [Act.put, List.setIfInBounds_toArray, List.set_cons_zero, List.set_cons_succ])
    go_cut [50] (fun vs50 wc => ∃ (kq : Nat) (x50_22 : Bool), vs50 = .bool x50_22 ∧ Aside0 (gamehalllaw1_BitsSets.j1 kq l0 a1 x50_22 = some r) ∧ Aside0 (kq ≤ kj3) ∧ Aside0 (Below w.heap.size w wc))
    case first =>
     have H := HC23.out; clear HC23
     by_cases c25 : t118 = 0
     ·rw [if_pos c25] at H
      have c25b0 : (t118 == 0) = true := beq_iff_eq.mpr c25
      have c25b1 : (t118 != 0) = false := bne_eq_false_iff_eq.mpr c25
      clear c25
      (first | rw [c25b0] | (simp only [i64_w, i32_w]; rw [c25b0]) | skip)
      have H' := Aside0.mk H
      clear H
      go_wp2
      go_meet
      case rel => exact ⟨_, ((t117 != 9)), (xrf), H', ⟨by have := HJ3.out; first | omega | exact Nat.le_refl _⟩, ⟨xW HB⟩⟩
     ·rw [if_neg c25] at H
      have c25b0 : (t118 == 0) = false := beq_eq_false_iff_ne.mpr c25
      have c25b1 : (t118 != 0) = true := bne_iff_ne.mpr c25
      (first | rw [c25b0] | (simp only [i64_w, i32_w]; rw [c25b0]) | skip)
      have H' := Aside0.mk H
      clear H
      go_wp2
      go_meet
      case rel => exact ⟨_, (true), (xrf), H', ⟨by have := HJ3.out; first | omega | exact Nat.le_refl _⟩, ⟨xW HB⟩⟩
    case rest =>
     clear HC23; (try clear p2); (try clear p2)
     obtain ⟨kq, x50_22, rfl, HA, HJ22, HB⟩ := hcut
     cases kq with
     | zero => exact absurd HA.out (by simp [gamehalllaw1_BitsSets.j1])
     | succ kj22 =>
      have H := HA.out; clear HA
      simp only [gamehalllaw1_BitsSets.j1] at H
      by_cases c26 : x50_22 = true
      ·subst c26
       rw [if_pos rfl] at H
       obtain rfl := Option.some.inj H
       go_wp2
       go_ret
       exact ⟨xer, xW HB⟩
      ·replace c26 := Bool.eq_false_iff.mpr c26
       subst c26
       rw [if_neg (show ¬ (false = true) by decide)] at H
       by_cases c27 : 64 ≤ 35184372088832
       ·rw [if_pos c27] at H
        have c27b0 := eq_true c27
        have c27b1 : decide (64 ≤ 35184372088832) = true := decide_eq_true c27
        clear c27
        obtain ⟨y119, hy119⟩ : ∃ y_ : List Int, y_ = (List.replicate 64 0) := ⟨_, rfl⟩
        replace H : (gamehalllaw1_BitsSets.l0 kj22 l0 a1 y119 0 0 l0 (l0.length : Int) 0) = some r := by first | (rw [hy119]; with_reducible exact H) | (have H2_ := (Option.bind_some _ _).symm.trans H; rw [hy119]; with_reducible exact H2_) | (have H2_ := (Option.bind_some _ _).symm.trans H; with_reducible exact H2_) | with_reducible exact H | (rw [hy119]; exact H) | exact H
        have Ny119 := Aside0.mk hy119; clear hy119
        have H' := Aside0.mk H
        clear H
        go_wp2_with (first | ((with_reducible refine gate_dst (N := 51) rfl ?_); (try (refine gate_guard (by rfl) ?_; dsimp only)); refine Kd.R_make (Kd.int .i64) _ 3 rfl (N := 51) rfl 22 _ _ rfl 64 rfl rfl Tryd.underlying22 (.int .i64 0) 8 info3 rfl (by decide) (by omega) 0 (ok := fun _ => True) (okp := fun _ => True) rfl (fun _ hk => hk) trivial (by omega) (by omega) (Below.refl _ _) (Nat.le_refl _) ?_; intro v120 w28 ho29 hb hg_ hnew_; clear hg_ hnew_; (first | rw [← Ny119.out] at ho29 | (simp only [Int.reduceToNat] at ho29; rw [← Ny119.out] at ho29)); have HO121 := Aside0.mk (Kd.R_lower ho29 (below_size (xW HB))); replace HB := Aside0.mk (xS HB hb); clear hb ho29))
        go_loopg [10, 11, 54] kj22 (fun kq vs10 vs11 vs54 w' => ∃ (x9_3 : List Int) (x10_3 : Int) (x11_3 : Int) (x54_3 : Int), vs10 = .int .i64 x10_3 ∧ vs11 = .int .u64 x11_3 ∧ vs54 = .int .i64 x54_3 ∧ Aside0 (gamehalllaw1_BitsSets.l0 kq l0 a1 x9_3 x10_3 x11_3 l0 (l0.length : Int) x54_3 = some r) ∧ Aside0 (kq ≤ kj22) ∧ Aside0 (Kd.R (Kd.int .i64) 3 w' w.heap.size (fun _ => True) v120 x9_3) ∧ Aside0 (Below w.heap.size w w'))
        case atStart => exact ⟨(y119), (0), (0), (0), (xrf), (xrf), (xrf), H', ⟨Nat.le_refl _⟩, ⟨by (with_reducible repeat (first | apply Kd.R_alloc | apply Kd.R_drewN | apply Kd.R_drew)); exact HO121.out⟩, ⟨xW HB⟩⟩
        case round =>
         clear H'; (try clear p2); (try clear p2)
         obtain ⟨x9_3, x10_3, x11_3, x54_3, rfl, rfl, rfl, HA, HK3, HO_9, HB⟩ := hrel
         cases gk with
         | zero => exact absurd HA.out (by simp [gamehalllaw1_BitsSets.l0])
         | succ k3 =>
          have H := HA.out; clear HA
          simp only [gamehalllaw1_BitsSets.l0] at H
          by_cases c30 : x54_3 < (l0.length : Int)
          ·rw [if_pos c30] at H
           have c30b0 : decide (x54_3 < (l0.length : Int)) = true := decide_eq_true c30
           clear c30
           by_cases c31 : 0 ≤ x54_3
           ·rw [if_pos c31] at H
            have c31b0 : decide (0 ≤ x54_3) = true := decide_eq_true c31
            clear c31
            by_cases c32 : x54_3 < (l0.length : Int)
            ·rw [if_pos c32] at H
             have c32b0 : decide (x54_3 < (l0.length : Int)) = true := decide_eq_true c32
             clear c32; have HC33 := Aside0.mk H; clear H
             have p122 : 0 ≤ (x54_3 : Int) := of_decide_eq_true (by first | (with_reducible assumption) | assumption)
             have q122 : x54_3 < (l0.length : Int) := of_decide_eq_true (by first | (with_reducible assumption) | assumption)
             obtain ⟨ad122, e122, hx122_0⟩ := Kd.at_int HR0.out x54_3 p122 q122
             cases e122
             (first | replace hx122_0 := (HB.out.cell (World.block_lt_of_cell? w _ hx122_0)).trans hx122_0 | skip); replace p122 := eq_true p122; replace q122 := eq_true q122
             go_upto_region 13 with (fail)
             go_cut [64] (fun vs64 wc => ∃ (kq : Nat) (x64_32 : Bool), vs64 = .bool x64_32 ∧ Aside0 (gamehalllaw1_BitsSets.j3 kq l0 a1 x9_3 x10_3 x11_3 (rd l0 x54_3) l0 (l0.length : Int) x54_3 x64_32 = some r) ∧ Aside0 (kq ≤ k3) ∧ Aside0 (Kd.R (Kd.int .i64) 3 wc w.heap.size (fun _ => True) v120 x9_3) ∧ Aside0 (Below w.heap.size w wc))
             case first =>
              have H := HC33.out; clear HC33
              by_cases c34 : x10_3 = 0
              ·rw [if_pos c34] at H
               have c34b0 : (x10_3 == 0) = true := beq_iff_eq.mpr c34
               have c34b1 : (x10_3 != 0) = false := bne_eq_false_iff_eq.mpr c34
               clear c34
               (first | rw [c34b0] | (simp only [i64_w, i32_w]; rw [c34b0]) | skip)
               replace H := Option.bind_eq_some_iff.mp H
               obtain ⟨t123, A350, H⟩ := H
               try dsimp only at H
               have A35 := Aside0.mk A350; clear A350
               have H' := Aside0.mk H
               clear H
               go_wp2_with (first | (go_at_call 11; (with_reducible refine (gamehallref1_In.calls (rd l0 x54_3) 0 63 t123 _ A35.out).mono ?_); rintro e w' ⟨rfl, ⟨nd, rfl⟩⟩))
               go_meet
               case rel => exact ⟨_, (!t123), (xrf), H', ⟨by have := HJ3.out; have := HJ22.out; have := HK3.out; first | omega | exact Nat.le_refl _⟩, ⟨by (with_reducible repeat (first | apply Kd.R_alloc | apply Kd.R_drewN | apply Kd.R_drew)); exact HO_9.out⟩, ⟨xW HB⟩⟩
              ·rw [if_neg c34] at H
               have c34b0 : (x10_3 == 0) = false := beq_eq_false_iff_ne.mpr c34
               have c34b1 : (x10_3 != 0) = true := bne_iff_ne.mpr c34
               (first | rw [c34b0] | (simp only [i64_w, i32_w]; rw [c34b0]) | skip)
               have H' := Aside0.mk H
               clear H
               go_wp2
               go_meet
               case rel => exact ⟨_, (false), (xrf), H', ⟨by have := HJ3.out; have := HJ22.out; have := HK3.out; first | omega | exact Nat.le_refl _⟩, ⟨by (with_reducible repeat (first | apply Kd.R_alloc | apply Kd.R_drewN | apply Kd.R_drew)); exact HO_9.out⟩, ⟨xW HB⟩⟩
             case rest =>
              clear HC33; (try clear p1); (try clear q1); (try clear hx1); (try clear p2); (try clear p12); (try clear q12); (try clear hx12); (try clear hx122_0); (try clear p122); (try clear p2); (try clear q122)
              obtain ⟨kq, x64_32, rfl, HA, HJ32, HO_9, HB⟩ := hcut
              cases kq with
              | zero => exact absurd HA.out (by simp [gamehalllaw1_BitsSets.j3])
              | succ kj32 =>
               have H := HA.out; clear HA
               simp only [gamehalllaw1_BitsSets.j3] at H
               have HC36 := Aside0.mk H; clear H
               go_upto_if 64 with (fail)
               go_cut [10] (fun vs10 wc => ∃ (kq : Nat) (x10_35 : Int), vs10 = .int .i64 x10_35 ∧ Aside0 (gamehalllaw1_BitsSets.j4 kq l0 a1 x9_3 x10_35 x11_3 (rd l0 x54_3) l0 (l0.length : Int) x54_3 = some r) ∧ Aside0 (kq ≤ kj32) ∧ Aside0 (Kd.R (Kd.int .i64) 3 wc w.heap.size (fun _ => True) v120 x9_3) ∧ Aside0 (Below w.heap.size w wc))
               case first =>
                have H := HC36.out; clear HC36
                by_cases c37 : x64_32 = true
                ·subst c37
                 rw [if_pos rfl] at H
                 have H' := Aside0.mk H
                 clear H
                 go_wp2
                 go_meet
                 case rel => exact ⟨_, (4), (xrf), H', ⟨by have := HJ3.out; have := HJ22.out; have := HK3.out; have := HJ32.out; first | omega | exact Nat.le_refl _⟩, ⟨by (with_reducible repeat (first | apply Kd.R_alloc | apply Kd.R_drewN | apply Kd.R_drew)); exact HO_9.out⟩, ⟨xW HB⟩⟩
                ·replace c37 := Bool.eq_false_iff.mpr c37
                 subst c37
                 rw [if_neg (show ¬ (false = true) by decide)] at H
                 have H' := Aside0.mk H
                 clear H
                 go_wp2
                 go_meet
                 case rel => exact ⟨_, (x10_3), (xrf), H', ⟨by have := HJ3.out; have := HJ22.out; have := HK3.out; have := HJ32.out; first | omega | exact Nat.le_refl _⟩, ⟨by (with_reducible repeat (first | apply Kd.R_alloc | apply Kd.R_drewN | apply Kd.R_drew)); exact HO_9.out⟩, ⟨xW HB⟩⟩
               case rest =>
                clear HC36; (try clear p1); (try clear q1); (try clear hx1); (try clear p2); (try clear p12); (try clear q12); (try clear hx12); (try clear hx122_0); (try clear p1); (try clear p12); (try clear p122); (try clear p2); (try clear q1); (try clear q12); (try clear q122)
                obtain ⟨kq, x10_35, rfl, HA, HJ35, HO_9, HB⟩ := hcut
                cases kq with
                | zero => exact absurd HA.out (by simp [gamehalllaw1_BitsSets.j4])
                | succ kj35 =>
                 have H := HA.out; clear HA
                 simp only [gamehalllaw1_BitsSets.j4] at H
                 have HC38 := Aside0.mk H; clear H
                 go_upto_region 15 with (fail)
                 go_cut [73] (fun vs73 wc => ∃ (kq : Nat) (x73_37 : Bool), vs73 = .bool x73_37 ∧ Aside0 (gamehalllaw1_BitsSets.j5 kq l0 a1 x9_3 x10_35 x11_3 (rd l0 x54_3) l0 (l0.length : Int) x54_3 x73_37 = some r) ∧ Aside0 (kq ≤ kj35) ∧ Aside0 (Kd.R (Kd.int .i64) 3 wc w.heap.size (fun _ => True) v120 x9_3) ∧ Aside0 (Below w.heap.size w wc))
                 case first =>
                  have H := HC38.out; clear HC38
                  by_cases c39 : x10_35 = 0
                  ·rw [if_pos c39] at H
                   have c39b0 : (x10_35 == 0) = true := beq_iff_eq.mpr c39
                   have c39b1 : (x10_35 != 0) = false := bne_eq_false_iff_eq.mpr c39
                   clear c39
                   (first | rw [c39b0] | (simp only [i64_w, i32_w]; rw [c39b0]) | skip)
                   by_cases c40 : 0 ≤ (rd l0 x54_3)
                   ·rw [if_pos c40] at H
                    have c40b0 : decide (0 ≤ (rd l0 x54_3)) = true := decide_eq_true c40
                    clear c40
                    by_cases c41 : (rd l0 x54_3) < (x9_3.length : Int)
                    ·rw [if_pos c41] at H
                     have c41b0 : decide ((rd l0 x54_3) < (x9_3.length : Int)) = true := decide_eq_true c41
                     clear c41
                     have H' := Aside0.mk H
                     clear H
                     obtain ⟨Ao42, co42, eo42⟩ := Kd.R_slice HO_9.out
                     subst eo42
                     have p124 : 0 ≤ ((rd l0 x54_3) : Int) := of_decide_eq_true (by first | (with_reducible assumption) | assumption)
                     have q124 : (rd l0 x54_3) < (x9_3.length : Int) := of_decide_eq_true (by first | (with_reducible assumption) | assumption)
                     obtain ⟨ad124, e124, hx124_0⟩ := Kd.at_int (Kd.R_reads' HO_9.out).2.2 (rd l0 x54_3) p124 q124
                     cases e124
                     replace p124 := eq_true p124; replace q124 := eq_true q124
                     go_wp2
                     go_meet
                     case rel => exact ⟨_, (decide ((rd x9_3 (rd l0 x54_3)) > 0)), (xrf), H', ⟨by have := HJ3.out; have := HJ22.out; have := HK3.out; have := HJ32.out; have := HJ35.out; first | omega | exact Nat.le_refl _⟩, ⟨by (with_reducible repeat (first | apply Kd.R_alloc | apply Kd.R_drewN | apply Kd.R_drew)); exact HO_9.out⟩, ⟨xW HB⟩⟩
                    ·rw [if_neg c41] at H
                     exact absurd H (by simp)
                   ·rw [if_neg c40] at H
                    exact absurd H (by simp)
                  ·rw [if_neg c39] at H
                   have c39b0 : (x10_35 == 0) = false := beq_eq_false_iff_ne.mpr c39
                   have c39b1 : (x10_35 != 0) = true := bne_iff_ne.mpr c39
                   (first | rw [c39b0] | (simp only [i64_w, i32_w]; rw [c39b0]) | skip)
                   have H' := Aside0.mk H
                   clear H
                   go_wp2
                   go_meet
                   case rel => exact ⟨_, (false), (xrf), H', ⟨by have := HJ3.out; have := HJ22.out; have := HK3.out; have := HJ32.out; have := HJ35.out; first | omega | exact Nat.le_refl _⟩, ⟨by (with_reducible repeat (first | apply Kd.R_alloc | apply Kd.R_drewN | apply Kd.R_drew)); exact HO_9.out⟩, ⟨xW HB⟩⟩
                 case rest =>
                  clear HC38; (try clear p1); (try clear q1); (try clear hx1); (try clear p2); (try clear p12); (try clear q12); (try clear hx12); (try clear hx122_0); (try clear hx124_0); (try clear p1); (try clear p12); (try clear p122); (try clear p124); (try clear p2); (try clear q1); (try clear q12); (try clear q122); (try clear q124)
                  obtain ⟨kq, x73_37, rfl, HA, HJ37, HO_9, HB⟩ := hcut
                  cases kq with
                  | zero => exact absurd HA.out (by simp [gamehalllaw1_BitsSets.j5])
                  | succ kj37 =>
                   have H := HA.out; clear HA
                   simp only [gamehalllaw1_BitsSets.j5] at H
                   by_cases c43 : x73_37 = true
                   ·subst c43
                    rw [if_pos rfl] at H
                    by_cases c44 : 7 = 0
                    ·exact absurd c44 (by decide)
                    ·rw [if_neg c44] at H
                     have c44b0 : (7 == 0) = false := beq_eq_false_iff_ne.mpr c44
                     have c44b1 : (7 != 0) = true := bne_iff_ne.mpr c44
                     have H' := Aside0.mk H
                     clear H
                     go_wp2
                     go_roundg kj37
                     case measure => have := HJ3.out; have := HJ22.out; have := HK3.out; have := HJ32.out; have := HJ35.out; have := HJ37.out; omega
                     case rel => exact ⟨(x9_3), (7), (x11_3), (wrap64 (x54_3 + 1)), (xrf), (xrf), (xrf), H', ⟨by have := HJ3.out; have := HJ22.out; have := HK3.out; have := HJ32.out; have := HJ35.out; have := HJ37.out; omega⟩, ⟨by (with_reducible repeat (first | apply Kd.R_alloc | apply Kd.R_drewN | apply Kd.R_drew)); exact HO_9.out⟩, ⟨xW HB⟩⟩
                   ·replace c43 := Bool.eq_false_iff.mpr c43
                    subst c43
                    rw [if_neg (show ¬ (false = true) by decide)] at H
                    by_cases c53 : x10_35 = 0
                    ·rw [if_pos c53] at H
                     have c53b0 : (x10_35 == 0) = true := beq_iff_eq.mpr c53
                     have c53b1 : (x10_35 != 0) = false := bne_eq_false_iff_eq.mpr c53
                     clear c53
                     by_cases c54 : 0 ≤ (rd l0 x54_3)
                     ·rw [if_pos c54] at H
                      have c54b0 : decide (0 ≤ (rd l0 x54_3)) = true := decide_eq_true c54
                      clear c54
                      by_cases c55 : (rd l0 x54_3) < (x9_3.length : Int)
                      ·rw [if_pos c55] at H
                       have c55b0 : decide ((rd l0 x54_3) < (x9_3.length : Int)) = true := decide_eq_true c55
                       clear c55
                       obtain ⟨y128, hy128⟩ : ∃ y_ : List Int, y_ = (x9_3.set ((rd l0 x54_3) : Int).toNat (wrap64 ((rd x9_3 (rd l0 x54_3)) + 1))) := ⟨_, rfl⟩
                       replace H : (gamehalllaw1_BitsSets.l0 kj37 l0 a1 y128 x10_35 (IntKind.u64.wrap (x11_3 + (shl .u64 1 (rd l0 x54_3)))) l0 (l0.length : Int) (wrap64 (x54_3 + 1))) = some r := by first | (rw [hy128]; with_reducible exact H) | (have H2_ := (Option.bind_some _ _).symm.trans H; rw [hy128]; with_reducible exact H2_) | (have H2_ := (Option.bind_some _ _).symm.trans H; with_reducible exact H2_) | with_reducible exact H | (rw [hy128]; exact H) | exact H
                       have Ny128 := Aside0.mk hy128; clear hy128
                       have c57b0 := eq_true (of_decide_eq_true (by first | (with_reducible assumption) | assumption) : 0 ≤ (rd l0 x54_3))
                       obtain ⟨ji58, hji58⟩ : ∃ j_ : Int, (shl .u64 1 (rd l0 x54_3)) = j_ := ⟨_, rfl⟩
                       (first | rw [hji58] at H | simp only [hji58] at H)
                       have hji58_ : (IntKind.u64.wrap (1 * 2 ^ min (rd l0 x54_3).toNat 64)) = ji58 := hji58
                       have hji58z : (rd l0 x54_3) ≤ 64 → (IntKind.u64.wrap (1 * 2 ^ (rd l0 x54_3).toNat)) = ji58 := shl_small hji58
                       have hji58u : (IntKind.u64.wrap (2 ^ min (rd l0 x54_3).toNat 64)) = ji58 := by have h_ := hji58_; rw [Int.one_mul] at h_; exact h_
                       have hji58v : (rd l0 x54_3) ≤ 64 → (IntKind.u64.wrap (2 ^ (rd l0 x54_3).toNat)) = ji58 := fun hle_ => by have h_ := hji58z hle_; rw [Int.one_mul] at h_; exact h_
                       have H' := Aside0.mk H
                       clear H
                       obtain ⟨Ao59, co59, eo59⟩ := Kd.R_slice HO_9.out
                       subst eo59
                       have p127 : 0 ≤ ((rd l0 x54_3) : Int) := of_decide_eq_true (by first | (with_reducible assumption) | assumption)
                       have q127 : (rd l0 x54_3) < (x9_3.length : Int) := of_decide_eq_true (by first | (with_reducible assumption) | assumption)
                       obtain ⟨ad127, e127, hx127_0⟩ := Kd.at_int (Kd.R_reads' HO_9.out).2.2 (rd l0 x54_3) p127 q127
                       cases e127
                       replace p127 := eq_true p127; replace q127 := eq_true q127
                       have p56 : 0 ≤ ((rd l0 x54_3) : Int) := of_decide_eq_true (by first | (with_reducible assumption) | assumption)
                       have q56 : ((rd l0 x54_3) : Int) < ((x9_3.length : Int) : Int) := of_decide_eq_true (by first | (with_reducible assumption) | assumption)
                       obtain ⟨go56, co56, eo56, gb56, gl56, cl56, HG56⟩ := Kd.R_form HO_9.out (by omega)
                       (first | cases eo56 | (injection eo56 with ea_ en_ ec_; (first | subst ea_ | (injection ea_ with ea_; subst ea_)); subst ec_; clear en_))
                       have GB56 := Aside0.mk gb56; have GG56 := Aside0.mk HG56; clear gb56 gl56 HG56
                       (first | simp only [add_plain] at hx127_0 | skip)
                       obtain ⟨hx56_0, hf56_0⟩ := Kd.R_celln 0 HO_9.out ((rd l0 x54_3) : Int) p56 q56
                       replace p56 := eq_true p56; replace q56 := eq_true q56; have HP60 := Kd.R_putg HO_9.out ((rd l0 x54_3) : Int) (wrap64 ((rd x9_3 (rd l0 x54_3)) + 1))
                       go_wp2_with (first | ((with_reducible refine gate_store (t := 3) (p := 81) rfl ?_); refine store_event (t := 3) (p := 81) (v := ?vo_w61) (w1 := (wc.setCell ⟨go56, ((rd l0 x54_3) : Int).toNat, none⟩ (.int .i64 (wrap64 ((rd x9_3 (rd l0 x54_3)) + 1))))) ?hg ?ho ?hn ?hr ?_; (case ho => rfl); (case hg => rfl); (case hn => rfl); (case hr => first | (go_simp; done) | (go_simp; rfl)); intro w61 hw; have hg : wc.grownBy w61 (some go56) := (by rw [hw]; exact HP60.2); have hp_ : Kd.R (Kd.int .i64) 3 w61 w.heap.size (fun _ => True) (.slice (some ⟨go56, 0, none⟩) x9_3.length co59) y128 := (by rw [hw, Ny128.out]; exact HP60.1); clear HP60; replace HO_9 := Aside0.mk (hp_); replace HB := Aside0.mk ((by rw [hw]; exact below_set (HB.out) GB56.out : Below w.heap.size w w61)); clear hg hw hp_))
                       go_roundg kj37
                       case measure => have := HJ3.out; have := HJ22.out; have := HK3.out; have := HJ32.out; have := HJ35.out; have := HJ37.out; omega
                       case rel => exact ⟨(y128), (x10_35), (IntKind.u64.wrap (x11_3 + (ji58))), (wrap64 (x54_3 + 1)), (xrf), (by first | rfl | (simp; done) | (simp only [← hji58] <;> (first | rfl | simp)) | (simp [*]; done)), (xrf), H', ⟨by have := HJ3.out; have := HJ22.out; have := HK3.out; have := HJ32.out; have := HJ35.out; have := HJ37.out; omega⟩, ⟨by (with_reducible repeat (first | apply Kd.R_alloc | apply Kd.R_drewN | apply Kd.R_drew)); exact HO_9.out⟩, ⟨xW HB⟩⟩
                      ·rw [if_neg c55] at H
                       exact absurd H (by simp)
                     ·rw [if_neg c54] at H
                      exact absurd H (by simp)
                    ·rw [if_neg c53] at H
                     have c53b0 : (x10_35 == 0) = false := beq_eq_false_iff_ne.mpr c53
                     have c53b1 : (x10_35 != 0) = true := bne_iff_ne.mpr c53
                     have H' := Aside0.mk H
                     clear H
                     go_wp2
                     go_roundg kj37
                     case measure => have := HJ3.out; have := HJ22.out; have := HK3.out; have := HJ32.out; have := HJ35.out; have := HJ37.out; omega
                     case rel => exact ⟨(x9_3), (x10_35), (x11_3), (wrap64 (x54_3 + 1)), (xrf), (xrf), (xrf), H', ⟨by have := HJ3.out; have := HJ22.out; have := HK3.out; have := HJ32.out; have := HJ35.out; have := HJ37.out; omega⟩, ⟨by (with_reducible repeat (first | apply Kd.R_alloc | apply Kd.R_drewN | apply Kd.R_drew)); exact HO_9.out⟩, ⟨xW HB⟩⟩
            ·rw [if_neg c32] at H
             exact absurd H (by simp)
           ·rw [if_neg c31] at H
            exact absurd H (by simp)
          ·rw [if_neg c30] at H
           have c30b0 : decide (x54_3 < (l0.length : Int)) = false := decide_eq_false c30
           clear c30; have HC62 := Aside0.mk H; clear H
           go_upto_if 88 with (fail)
           go_cut [11] (fun vs11 wc => ∃ (kq : Nat) (x11_61 : Int), vs11 = .int .u64 x11_61 ∧ Aside0 (gamehalllaw1_BitsSets.j6 kq l0 a1 x10_3 x11_61 = some r) ∧ Aside0 (kq ≤ k3) ∧ Aside0 (Below w.heap.size w wc))
           case first =>
            have H := HC62.out; clear HC62
            by_cases c63 : x10_3 = 0
            ·rw [if_pos c63] at H
             have c63b0 : (x10_3 == 0) = true := beq_iff_eq.mpr c63
             have c63b1 : (x10_3 != 0) = false := bne_eq_false_iff_eq.mpr c63
             clear c63
             (first | rw [c63b0] | (simp only [i64_w, i32_w]; rw [c63b0]) | skip)
             have H' := Aside0.mk H
             clear H
             go_wp2
             go_meet
             case rel => exact ⟨_, (x11_3), (xrf), H', ⟨by have := HJ3.out; have := HJ22.out; have := HK3.out; first | omega | exact Nat.le_refl _⟩, ⟨xW HB⟩⟩
            ·rw [if_neg c63] at H
             have c63b0 : (x10_3 == 0) = false := beq_eq_false_iff_ne.mpr c63
             have c63b1 : (x10_3 != 0) = true := bne_iff_ne.mpr c63
             (first | rw [c63b0] | (simp only [i64_w, i32_w]; rw [c63b0]) | skip)
             have H' := Aside0.mk H
             clear H
             go_wp2
             go_meet
             case rel => exact ⟨_, (0), (xrf), H', ⟨by have := HJ3.out; have := HJ22.out; have := HK3.out; first | omega | exact Nat.le_refl _⟩, ⟨xW HB⟩⟩
           case rest =>
            clear HC62; (try clear p1); (try clear q1); (try clear hx1); (try clear p2); (try clear p4); (try clear q4); (try clear hx4); (try clear hf4); (try clear p5); (try clear q5); (try clear hx5); (try clear hf5); (try clear p6); (try clear p12); (try clear q12); (try clear hx12); (try clear p47); (try clear q47); (try clear hx47); (try clear hf47); (try clear p56); (try clear q56); (try clear hx56); (try clear hf56); (try clear hx122_0); (try clear hx124_0); (try clear hx125_0); (try clear hx127_0); (try clear hx47_0); (try clear hx56_0); (try clear p1); (try clear p12); (try clear p122); (try clear p124); (try clear p125); (try clear p127); (try clear p2); (try clear p47); (try clear p56); (try clear q1); (try clear q12); (try clear q122); (try clear q124); (try clear q125); (try clear q127); (try clear q47); (try clear q56)
            obtain ⟨kq, x11_61, rfl, HA, HJ61, HB⟩ := hcut
            cases kq with
            | zero => exact absurd HA.out (by simp [gamehalllaw1_BitsSets.j6])
            | succ kj61 =>
             have H := HA.out; clear HA
             simp only [gamehalllaw1_BitsSets.j6] at H
             replace H := Option.bind_eq_some_iff.mp H
             obtain ⟨⟨t129, t130⟩, A640, H⟩ := H
             replace H : (gamehalllaw1_BitsSets.l1 kj61 a1 x10_3 x11_61 t129 t130 ([] : List Int) 0) = some r := H
             have A64 := Aside0.mk A640; clear A640
             have H' := Aside0.mk H
             clear H
             go_wp2_with (first | ((with_reducible refine gate_callee (f := 6) rfl ?_); refine goesL_ (some 91) rfl rfl Tryd.func6 (by kernel_rfl) rfl #[.slice A0 l0.length c0] rfl (by (try simp only [List.map_toArray, List.map_cons, List.map_nil]); first | done | rfl | (simp only [List.length_drop, List.length_take]; rfl)) ?_; (with_reducible refine (bits_Of.calls kj61 _ _ l0 t129 t130 _ ?side1 ?side2 A64.out).mono ?_); (case side1 => exact xC (Kd.C_below HR0.out HB.out)); (case side2 => exact HC0.out); rintro e w' ⟨rfl, ⟨nd, rfl⟩⟩; refine ⟨_, rfl, ?_⟩))
             go_loopg [16, 94] kj61 (fun kq vs16 vs94 w' => ∃ (x16_5 : List Int) (x94_5 : Int), vs94 = .int .i64 x94_5 ∧ Aside0 (gamehalllaw1_BitsSets.l1 kq a1 x10_3 x11_61 t129 t130 x16_5 x94_5 = some r) ∧ Aside0 (kq ≤ kj61) ∧ Aside0 (Kd.R (Kd.int .i64) 3 w' w.heap.size (fun _ => True) vs16 x16_5) ∧ Aside0 (Below w.heap.size w w'))
             case atStart => exact ⟨(([] : List Int)), (0), (xrf), H', ⟨Nat.le_refl _⟩, ⟨by first | exact Kd.R_nil _ _ _ _ _ | exact Kd.N_nil _ _ _ _ _ | exact Kd.V_nil _ _ _ _ _ | exact Kd.Q_nil _ _ _ _ _ | exact Kd.S_nil _ _ _ _ _⟩, ⟨xW HB⟩⟩
             case round =>
              clear H'; (try clear p1); (try clear q1); (try clear hx1); (try clear p2); (try clear p4); (try clear q4); (try clear hx4); (try clear hf4); (try clear p5); (try clear q5); (try clear hx5); (try clear hf5); (try clear p6); (try clear p12); (try clear q12); (try clear hx12); (try clear p47); (try clear q47); (try clear hx47); (try clear hf47); (try clear p56); (try clear q56); (try clear hx56); (try clear hf56); (try clear p64); (try clear hx122_0); (try clear hx124_0); (try clear hx125_0); (try clear hx127_0); (try clear hx47_0); (try clear hx56_0); (try clear p1); (try clear p12); (try clear p122); (try clear p124); (try clear p125); (try clear p127); (try clear p2); (try clear p4); (try clear p47); (try clear p5); (try clear p56); (try clear p6); (try clear q1); (try clear q12); (try clear q122); (try clear q124); (try clear q125); (try clear q127); (try clear q4); (try clear q47); (try clear q5); (try clear q56)
              obtain ⟨x16_5, x94_5, rfl, HA, HK5, HO_16, HB⟩ := hrel
              cases gk with
              | zero => exact absurd HA.out (by simp [gamehalllaw1_BitsSets.l1])
              | succ k5 =>
               have H := HA.out; clear HA
               simp only [gamehalllaw1_BitsSets.l1] at H
               by_cases c65 : x94_5 < 64
               ·rw [if_pos c65] at H
                have c65b0 : decide (x94_5 < 64) = true := decide_eq_true c65
                clear c65
                by_cases c66 : 0 ≤ x94_5
                ·rw [if_pos c66] at H
                 have c66b0 := eq_true c66
                 have c66b1 : decide (0 ≤ x94_5) = true := decide_eq_true c66
                 clear c66
                 obtain ⟨ji67, hji67⟩ : ∃ j_ : Int, (shl .u64 1 x94_5) = j_ := ⟨_, rfl⟩
                 (first | rw [hji67] at H | simp only [hji67] at H)
                 have hji67_ : (IntKind.u64.wrap (1 * 2 ^ min x94_5.toNat 64)) = ji67 := hji67
                 have hji67z : x94_5 ≤ 64 → (IntKind.u64.wrap (1 * 2 ^ x94_5.toNat)) = ji67 := shl_small hji67
                 have hji67u : (IntKind.u64.wrap (2 ^ min x94_5.toNat 64)) = ji67 := by have h_ := hji67_; rw [Int.one_mul] at h_; exact h_
                 have hji67v : x94_5 ≤ 64 → (IntKind.u64.wrap (2 ^ x94_5.toNat)) = ji67 := fun hle_ => by have h_ := hji67z hle_; rw [Int.one_mul] at h_; exact h_
                 by_cases c68 : (ji67) = 0
                 ·rw [if_pos c68] at H
                  exact absurd H (by simp)
                 ·rw [if_neg c68] at H
                  have c68b0 : ((ji67) == 0) = false := beq_eq_false_iff_ne.mpr c68
                  have c68b1 : ((ji67) != 0) = true := bne_iff_ne.mpr c68
                  by_cases c69 : (Int.tmod (IntKind.u64.wrap (Int.tdiv a1 (ji67))) 2) = 1
                  ·rw [if_pos c69] at H
                   have c69b0 : ((Int.tmod (IntKind.u64.wrap (Int.tdiv a1 (ji67))) 2) == 1) = true := beq_iff_eq.mpr c69
                   have c69b1 : ((Int.tmod (IntKind.u64.wrap (Int.tdiv a1 (ji67))) 2) != 1) = false := bne_eq_false_iff_eq.mpr c69
                   clear c69
                   by_cases c70 : x16_5.length < 17592186044416
                   ·rw [if_pos c70] at H
                    have LMc70 := Aside0.mk c70; clear c70
                    obtain ⟨y131, hy131⟩ : ∃ y_ : List Int, y_ = (x16_5 ++ [x94_5]) := ⟨_, rfl⟩
                    replace H : (gamehalllaw1_BitsSets.l1 k5 a1 x10_3 x11_61 t129 t130 y131 (wrap64 (x94_5 + 1))) = some r := by first | (rw [hy131]; with_reducible exact H) | (have H2_ := (Option.bind_some _ _).symm.trans H; rw [hy131]; with_reducible exact H2_) | (have H2_ := (Option.bind_some _ _).symm.trans H; with_reducible exact H2_) | with_reducible exact H | (rw [hy131]; exact H) | exact H
                    have Ny131 := Aside0.mk hy131; clear hy131
                    have H' := Aside0.mk H
                    clear H
                    go_wp2_with (first | ((with_reducible refine gate_builtin (b := .append) (xs := #[.tmp 103, .tmp 105]) rfl ?_); (try (refine gate_guard (by rfl) ?_; dsimp only)); at_builtin; refine Kd.R_append (Kd.int .i64) (w0 := w) w.heap.size rfl (.tmp 103) (.tmp 105) 22 3 (.int .i64 0) 8 rfl Tryd.underlying22 info3 rfl (by decide) (by omega) u16 x16_5 x94_5 [.int .i64 x94_5] (fun _ => True) (fun _ => False) rfl rfl ?aP (fun _ hk => hk.elim) ?aF ?aO ?aB ?aS ?aL ?_; (case aP => exact rfl); (case aB => exact (xW HB)); (case aF => exact (fun _ _ => trivial)); (case aO => exact (by (with_reducible repeat (first | apply Kd.R_alloc | apply Kd.R_drewN | apply Kd.R_drew)); exact HO_16.out)); (case aS => exact (below_size (xW HB))); (case aL => have := LMc70.out; omega); intro v132 w71 ho hb hg hat; rw [← Ny131.out] at ho; have HO133 := Aside0.mk (ho); replace HB := Aside0.mk (hb); clear HO_16; clear ho hb hg hat))
                    (first | go_roundg k5 | (simp only [← hji67]; go_roundg k5))
                    case measure => have := HJ3.out; have := HJ22.out; have := HK3.out; have := HJ61.out; have := HK5.out; omega
                    case rel => exact ⟨(y131), (wrap64 (x94_5 + 1)), (xrf), H', ⟨by have := HJ3.out; have := HJ22.out; have := HK3.out; have := HJ61.out; have := HK5.out; omega⟩, ⟨by (with_reducible repeat (first | apply Kd.R_alloc | apply Kd.R_drewN | apply Kd.R_drew)); exact HO133.out⟩, ⟨xW HB⟩⟩
                   ·rw [if_neg c70] at H
                    exact absurd H (by simp)
                  ·rw [if_neg c69] at H
                   have c69b0 : ((Int.tmod (IntKind.u64.wrap (Int.tdiv a1 (ji67))) 2) == 1) = false := beq_eq_false_iff_ne.mpr c69
                   have c69b1 : ((Int.tmod (IntKind.u64.wrap (Int.tdiv a1 (ji67))) 2) != 1) = true := bne_iff_ne.mpr c69
                   have H' := Aside0.mk H
                   clear H
                   go_wp2
                   (first | go_roundg k5 | (simp only [← hji67]; go_roundg k5))
                   case measure => have := HJ3.out; have := HJ22.out; have := HK3.out; have := HJ61.out; have := HK5.out; omega
                   case rel => exact ⟨(x16_5), (wrap64 (x94_5 + 1)), (xrf), H', ⟨by have := HJ3.out; have := HJ22.out; have := HK3.out; have := HJ61.out; have := HK5.out; omega⟩, ⟨by (with_reducible repeat (first | apply Kd.R_alloc | apply Kd.R_drewN | apply Kd.R_drew)); exact HO_16.out⟩, ⟨xW HB⟩⟩
                ·rw [if_neg c66] at H
                 exact absurd H (by simp)
               ·rw [if_neg c65] at H
                have c65b0 : decide (x94_5 < 64) = false := decide_eq_false c65
                clear c65; replace H := Option.bind_eq_some_iff.mp H
                obtain ⟨⟨t134, t135⟩, A720, H⟩ := H
                try dsimp only at H
                have A72 := Aside0.mk A720; clear A720
                by_cases c73 : (x16_5.length : Int) = 0
                ·rw [if_pos c73] at H
                 have c73b0 : ((x16_5.length : Int) == 0) = true := beq_iff_eq.mpr c73
                 have c73b1 : ((x16_5.length : Int) != 0) = false := bne_eq_false_iff_eq.mpr c73
                 clear c73
                 by_cases c74 : t130 = x10_3
                 ·rw [if_pos c74] at H
                  have c74b0 : (t130 == x10_3) = true := beq_iff_eq.mpr c74
                  have c74b1 : (t130 != x10_3) = false := bne_eq_false_iff_eq.mpr c74
                  clear c74
                  by_cases c75 : t129 = x11_61
                  ·rw [if_pos c75] at H
                   have c75b0 : (t129 == x11_61) = true := beq_iff_eq.mpr c75
                   have c75b1 : (t129 != x11_61) = false := bne_eq_false_iff_eq.mpr c75
                   clear c75
                   by_cases c76 : t135 = 8
                   ·rw [if_pos c76] at H
                    have c76b0 : (t135 == 8) = true := beq_iff_eq.mpr c76
                    have c76b1 : (t135 != 8) = false := bne_eq_false_iff_eq.mpr c76
                    clear c76
                    by_cases c77 : t134 = 0
                    ·rw [if_pos c77] at H
                     have c77b0 : (t134 == 0) = true := beq_iff_eq.mpr c77
                     have c77b1 : (t134 != 0) = false := bne_eq_false_iff_eq.mpr c77
                     clear c77; replace H := Option.bind_eq_some_iff.mp H
                     obtain ⟨t136, A780, H⟩ := H
                     try dsimp only at H
                     have A78 := Aside0.mk A780; clear A780
                     by_cases c79 : t136 = 0
                     ·rw [if_pos c79] at H
                      have c79b0 : (t136 == 0) = true := beq_iff_eq.mpr c79
                      have c79b1 : (t136 != 0) = false := bne_eq_false_iff_eq.mpr c79
                      clear c79; replace H := Option.bind_eq_some_iff.mp H
                      obtain ⟨t137, A800, H⟩ := H
                      replace H : (some ((t137.length : Int) == 0)) = some r := H
                      have A80 := Aside0.mk A800; clear A800
                      obtain rfl := Option.some.inj H
                      go_wp2_with (first | ((with_reducible refine gate_callee (f := 10) rfl ?_); refine goesL_ (some 110) rfl rfl Tryd.func10 (by kernel_rfl) rfl #[.int .u64 a1] rfl (by (try simp only [List.map_toArray, List.map_cons, List.map_nil]); first | done | rfl | (simp only [List.length_drop, List.length_take]; rfl)) ?_; (with_reducible refine (bits_First.calls k5 a1 t134 t135 _ A72.out ?sideL).mono ?_); (case sideL => exact xL hlaid); rintro e w81 ⟨rfl, hb⟩; refine ⟨_, rfl, ?_⟩; replace HO_16 := Aside0.mk (Kd.R_below (by (with_reducible repeat (first | apply Kd.R_alloc | apply Kd.R_drewN | apply Kd.R_drew)); exact HO_16.out) hb); replace HB := Aside0.mk (xS HB hb); (try clear hb); (try clear hb2); (try clear hk); (try clear hi); obtain ⟨Ao82, co82, eo82⟩ := Kd.R_slice HO_16.out; subst eo82) | (go_at_call 7; (with_reducible refine (bits_Count.calls k5 a1 t136 _ A78.out ?sideL).mono ?_); (case sideL => exact xL hlaid); rintro e w83 ⟨rfl, hb⟩; replace HO_16 := Aside0.mk (Kd.R_below (by (with_reducible repeat (first | apply Kd.R_alloc | apply Kd.R_drewN | apply Kd.R_drew)); exact HO_16.out) hb); replace HB := Aside0.mk (xS HB hb); (try clear hb); (try clear hb2); (try clear hk); (try clear hi)) | (go_at_call 9; (with_reducible refine (bits_List.calls k5 a1 t137 _ A80.out ?sideL).mono ?_); (case sideL => exact xL hlaid); rintro e w84 ⟨v138, rfl, ho0, hb⟩; have HO139 := Aside0.mk (Kd.R_lower (Kd.R_new' ho0 (Kd.R_lt (by (with_reducible repeat (first | apply Kd.R_alloc | apply Kd.R_drewN | apply Kd.R_drew)); exact HO_16.out))) (below_size (xW HB))); replace HO_16 := Aside0.mk (Kd.R_elder' (by (with_reducible repeat (first | apply Kd.R_alloc | apply Kd.R_drewN | apply Kd.R_drew)); exact HO_16.out) (Kd.R_base ho0) hb); replace HB := Aside0.mk (xS HB hb); (try clear hb); (try clear hb2); (try clear hk); (try clear hi); (try clear ho0); obtain ⟨Ao85, co85, eo85⟩ := Kd.R_slice HO139.out; subst eo85))
                      go_ret
                      exact ⟨xer, xW HB⟩
                     ·rw [if_neg c79] at H
                      have c79b0 : (t136 == 0) = false := beq_eq_false_iff_ne.mpr c79
                      have c79b1 : (t136 != 0) = true := bne_iff_ne.mpr c79
                      obtain rfl := Option.some.inj H
                      go_wp2_with (first | ((with_reducible refine gate_callee (f := 10) rfl ?_); refine goesL_ (some 110) rfl rfl Tryd.func10 (by kernel_rfl) rfl #[.int .u64 a1] rfl (by (try simp only [List.map_toArray, List.map_cons, List.map_nil]); first | done | rfl | (simp only [List.length_drop, List.length_take]; rfl)) ?_; (with_reducible refine (bits_First.calls k5 a1 t134 t135 _ A72.out ?sideL).mono ?_); (case sideL => exact xL hlaid); rintro e w86 ⟨rfl, hb⟩; refine ⟨_, rfl, ?_⟩; replace HO_16 := Aside0.mk (Kd.R_below (by (with_reducible repeat (first | apply Kd.R_alloc | apply Kd.R_drewN | apply Kd.R_drew)); exact HO_16.out) hb); replace HB := Aside0.mk (xS HB hb); (try clear hb); (try clear hb2); (try clear hk); (try clear hi); obtain ⟨Ao87, co87, eo87⟩ := Kd.R_slice HO_16.out; subst eo87) | (go_at_call 7; (with_reducible refine (bits_Count.calls k5 a1 t136 _ A78.out ?sideL).mono ?_); (case sideL => exact xL hlaid); rintro e w88 ⟨rfl, hb⟩; replace HO_16 := Aside0.mk (Kd.R_below (by (with_reducible repeat (first | apply Kd.R_alloc | apply Kd.R_drewN | apply Kd.R_drew)); exact HO_16.out) hb); replace HB := Aside0.mk (xS HB hb); (try clear hb); (try clear hb2); (try clear hk); (try clear hi)))
                      go_ret
                      exact ⟨xer, xW HB⟩
                    ·rw [if_neg c77] at H
                     have c77b0 : (t134 == 0) = false := beq_eq_false_iff_ne.mpr c77
                     have c77b1 : (t134 != 0) = true := bne_iff_ne.mpr c77
                     obtain rfl := Option.some.inj H
                     go_wp2_with (first | ((with_reducible refine gate_callee (f := 10) rfl ?_); refine goesL_ (some 110) rfl rfl Tryd.func10 (by kernel_rfl) rfl #[.int .u64 a1] rfl (by (try simp only [List.map_toArray, List.map_cons, List.map_nil]); first | done | rfl | (simp only [List.length_drop, List.length_take]; rfl)) ?_; (with_reducible refine (bits_First.calls k5 a1 t134 t135 _ A72.out ?sideL).mono ?_); (case sideL => exact xL hlaid); rintro e w89 ⟨rfl, hb⟩; refine ⟨_, rfl, ?_⟩; replace HO_16 := Aside0.mk (Kd.R_below (by (with_reducible repeat (first | apply Kd.R_alloc | apply Kd.R_drewN | apply Kd.R_drew)); exact HO_16.out) hb); replace HB := Aside0.mk (xS HB hb); (try clear hb); (try clear hb2); (try clear hk); (try clear hi); obtain ⟨Ao90, co90, eo90⟩ := Kd.R_slice HO_16.out; subst eo90))
                     go_ret
                     exact ⟨xer, xW HB⟩
                   ·rw [if_neg c76] at H
                    have c76b0 : (t135 == 8) = false := beq_eq_false_iff_ne.mpr c76
                    have c76b1 : (t135 != 8) = true := bne_iff_ne.mpr c76
                    obtain rfl := Option.some.inj H
                    go_wp2_with (first | ((with_reducible refine gate_callee (f := 10) rfl ?_); refine goesL_ (some 110) rfl rfl Tryd.func10 (by kernel_rfl) rfl #[.int .u64 a1] rfl (by (try simp only [List.map_toArray, List.map_cons, List.map_nil]); first | done | rfl | (simp only [List.length_drop, List.length_take]; rfl)) ?_; (with_reducible refine (bits_First.calls k5 a1 t134 t135 _ A72.out ?sideL).mono ?_); (case sideL => exact xL hlaid); rintro e w91 ⟨rfl, hb⟩; refine ⟨_, rfl, ?_⟩; replace HO_16 := Aside0.mk (Kd.R_below (by (with_reducible repeat (first | apply Kd.R_alloc | apply Kd.R_drewN | apply Kd.R_drew)); exact HO_16.out) hb); replace HB := Aside0.mk (xS HB hb); (try clear hb); (try clear hb2); (try clear hk); (try clear hi); obtain ⟨Ao92, co92, eo92⟩ := Kd.R_slice HO_16.out; subst eo92))
                    go_ret
                    exact ⟨xer, xW HB⟩
                  ·rw [if_neg c75] at H
                   have c75b0 : (t129 == x11_61) = false := beq_eq_false_iff_ne.mpr c75
                   have c75b1 : (t129 != x11_61) = true := bne_iff_ne.mpr c75
                   obtain rfl := Option.some.inj H
                   go_wp2_with (first | ((with_reducible refine gate_callee (f := 10) rfl ?_); refine goesL_ (some 110) rfl rfl Tryd.func10 (by kernel_rfl) rfl #[.int .u64 a1] rfl (by (try simp only [List.map_toArray, List.map_cons, List.map_nil]); first | done | rfl | (simp only [List.length_drop, List.length_take]; rfl)) ?_; (with_reducible refine (bits_First.calls k5 a1 t134 t135 _ A72.out ?sideL).mono ?_); (case sideL => exact xL hlaid); rintro e w93 ⟨rfl, hb⟩; refine ⟨_, rfl, ?_⟩; replace HO_16 := Aside0.mk (Kd.R_below (by (with_reducible repeat (first | apply Kd.R_alloc | apply Kd.R_drewN | apply Kd.R_drew)); exact HO_16.out) hb); replace HB := Aside0.mk (xS HB hb); (try clear hb); (try clear hb2); (try clear hk); (try clear hi); obtain ⟨Ao94, co94, eo94⟩ := Kd.R_slice HO_16.out; subst eo94))
                   go_ret
                   exact ⟨xer, xW HB⟩
                 ·rw [if_neg c74] at H
                  have c74b0 : (t130 == x10_3) = false := beq_eq_false_iff_ne.mpr c74
                  have c74b1 : (t130 != x10_3) = true := bne_iff_ne.mpr c74
                  obtain rfl := Option.some.inj H
                  go_wp2_with (first | ((with_reducible refine gate_callee (f := 10) rfl ?_); refine goesL_ (some 110) rfl rfl Tryd.func10 (by kernel_rfl) rfl #[.int .u64 a1] rfl (by (try simp only [List.map_toArray, List.map_cons, List.map_nil]); first | done | rfl | (simp only [List.length_drop, List.length_take]; rfl)) ?_; (with_reducible refine (bits_First.calls k5 a1 t134 t135 _ A72.out ?sideL).mono ?_); (case sideL => exact xL hlaid); rintro e w95 ⟨rfl, hb⟩; refine ⟨_, rfl, ?_⟩; replace HO_16 := Aside0.mk (Kd.R_below (by (with_reducible repeat (first | apply Kd.R_alloc | apply Kd.R_drewN | apply Kd.R_drew)); exact HO_16.out) hb); replace HB := Aside0.mk (xS HB hb); (try clear hb); (try clear hb2); (try clear hk); (try clear hi); obtain ⟨Ao96, co96, eo96⟩ := Kd.R_slice HO_16.out; subst eo96))
                  go_ret
                  exact ⟨xer, xW HB⟩
                ·rw [if_neg c73] at H
                 have c73b0 : ((x16_5.length : Int) == 0) = false := beq_eq_false_iff_ne.mpr c73
                 have c73b1 : ((x16_5.length : Int) != 0) = true := bne_iff_ne.mpr c73
                 have c73b2 : ¬ (x16_5 = []) := fun h_ => c73 (by rw [h_]; rfl)
                 by_cases c97 : t130 = x10_3
                 ·rw [if_pos c97] at H
                  have c97b0 : (t130 == x10_3) = true := beq_iff_eq.mpr c97
                  have c97b1 : (t130 != x10_3) = false := bne_eq_false_iff_eq.mpr c97
                  clear c97
                  by_cases c98 : t129 = x11_61
                  ·rw [if_pos c98] at H
                   have c98b0 : (t129 == x11_61) = true := beq_iff_eq.mpr c98
                   have c98b1 : (t129 != x11_61) = false := bne_eq_false_iff_eq.mpr c98
                   clear c98
                   by_cases c99 : t135 = 0
                   ·rw [if_pos c99] at H
                    have c99b0 : (t135 == 0) = true := beq_iff_eq.mpr c99
                    have c99b1 : (t135 != 0) = false := bne_eq_false_iff_eq.mpr c99
                    clear c99
                    by_cases c100 : 0 < (x16_5.length : Int)
                    ·rw [if_pos c100] at H
                     have c100b0 : decide (0 < (x16_5.length : Int)) = true := decide_eq_true c100
                     have c100b1 : decide (0 < x16_5.length) = true := decide_eq_true (by omega)
                     clear c100
                     by_cases c101 : t134 = (rd x16_5 0)
                     ·rw [if_pos c101] at H
                      have c101b0 : (t134 == (rd x16_5 0)) = true := beq_iff_eq.mpr c101
                      have c101b1 : (t134 != (rd x16_5 0)) = false := bne_eq_false_iff_eq.mpr c101
                      clear c101; replace H := Option.bind_eq_some_iff.mp H
                      obtain ⟨t141, A1020, H⟩ := H
                      try dsimp only at H
                      have A102 := Aside0.mk A1020; clear A1020
                      by_cases c103 : t141 = (x16_5.length : Int)
                      ·rw [if_pos c103] at H
                       have c103b0 : (t141 == (x16_5.length : Int)) = true := beq_iff_eq.mpr c103
                       have c103b1 : (t141 != (x16_5.length : Int)) = false := bne_eq_false_iff_eq.mpr c103
                       clear c103; replace H := Option.bind_eq_some_iff.mp H
                       obtain ⟨t142, A1040, H⟩ := H
                       replace H : ((gamehallref1_SameInts.f k5 t142 x16_5).bind fun t145 => (some t145)) = some r := H
                       have A104 := Aside0.mk A1040; clear A1040; replace H := Option.bind_eq_some_iff.mp H
                       obtain ⟨t145, A1050, H⟩ := H
                       replace H : (some t145) = some r := H
                       have A105 := Aside0.mk A1050; clear A1050
                       obtain rfl := Option.some.inj H
                       go_wp2_with (first | ((with_reducible refine gate_callee (f := 10) rfl ?_); refine goesL_ (some 110) rfl rfl Tryd.func10 (by kernel_rfl) rfl #[.int .u64 a1] rfl (by (try simp only [List.map_toArray, List.map_cons, List.map_nil]); first | done | rfl | (simp only [List.length_drop, List.length_take]; rfl)) ?_; (with_reducible refine (bits_First.calls k5 a1 t134 t135 _ A72.out ?sideL).mono ?_); (case sideL => exact xL hlaid); rintro e w106 ⟨rfl, hb⟩; refine ⟨_, rfl, ?_⟩; replace HO_16 := Aside0.mk (Kd.R_below (by (with_reducible repeat (first | apply Kd.R_alloc | apply Kd.R_drewN | apply Kd.R_drew)); exact HO_16.out) hb); replace HB := Aside0.mk (xS HB hb); (try clear hb); (try clear hb2); (try clear hk); (try clear hi); obtain ⟨Ao107, co107, eo107⟩ := Kd.R_slice HO_16.out; subst eo107; have p140 : 0 ≤ (0 : Int) := (by omega); have q140 : 0 < (x16_5.length : Int) := of_decide_eq_true (by first | (with_reducible assumption) | assumption); obtain ⟨ad140, e140, hx140_0⟩ := Kd.at_int (Kd.R_reads' HO_16.out).2.2 0 p140 q140; cases e140; have qi140 : (0 < x16_5.length) = True := eq_true (by omega); (try rw [show ((0 : Int)).toNat = 0 from rfl] at hx140_0); (try rw [Addr.add_zero'] at hx140_0); replace p140 := eq_true p140; replace q140 := eq_true q140) | (go_at_call 7; (with_reducible refine (bits_Count.calls k5 a1 t141 _ A102.out ?sideL).mono ?_); (case sideL => exact xL hlaid); rintro e w108 ⟨rfl, hb⟩; replace HO_16 := Aside0.mk (Kd.R_below (by (with_reducible repeat (first | apply Kd.R_alloc | apply Kd.R_drewN | apply Kd.R_drew)); exact HO_16.out) hb); replace HB := Aside0.mk (xS HB hb); (try clear hb); (try clear hb2); (try clear hk); (try clear hi)) | (go_at_call 9; (with_reducible refine (bits_List.calls k5 a1 t142 _ A104.out ?sideL).mono ?_); (case sideL => exact xL hlaid); rintro e w109 ⟨v143, rfl, ho0, hb⟩; have HO144 := Aside0.mk (Kd.R_lower (Kd.R_new' ho0 (Kd.R_lt (by (with_reducible repeat (first | apply Kd.R_alloc | apply Kd.R_drewN | apply Kd.R_drew)); exact HO_16.out))) (below_size (xW HB))); replace HO_16 := Aside0.mk (Kd.R_elder' (by (with_reducible repeat (first | apply Kd.R_alloc | apply Kd.R_drewN | apply Kd.R_drew)); exact HO_16.out) (Kd.R_base ho0) hb); replace HB := Aside0.mk (xS HB hb); (try clear hb); (try clear hb2); (try clear hk); (try clear hi); (try clear ho0); obtain ⟨Ao110, co110, eo110⟩ := Kd.R_slice HO144.out; subst eo110) | (go_at_call 8; (with_reducible refine (gamehallref1_SameInts.calls k5 _ _ t142 _ _ x16_5 t145 _ ?side1 ?side2 ?side3 ?side4 A105.out).mono ?_); (case side1 => repeat (first | exact (Kd.R_reads' HO144.out).2.2 | (with_reducible refine Kd.C_alloc ?_ _) | (with_reducible refine Kd.C_drewN ?_ _) | (with_reducible refine Kd.C_drew ?_))); (case side2 => exact (Kd.R_reads' HO144.out).2.1); (case side3 => repeat (first | exact (Kd.R_reads' HO_16.out).2.2 | (with_reducible refine Kd.C_alloc ?_ _) | (with_reducible refine Kd.C_drewN ?_ _) | (with_reducible refine Kd.C_drew ?_))); (case side4 => exact (Kd.R_reads' HO_16.out).2.1); rintro e w' ⟨rfl, ⟨nd, rfl⟩⟩))
                       go_ret
                       exact ⟨xer, xW HB⟩
                      ·rw [if_neg c103] at H
                       have c103b0 : (t141 == (x16_5.length : Int)) = false := beq_eq_false_iff_ne.mpr c103
                       have c103b1 : (t141 != (x16_5.length : Int)) = true := bne_iff_ne.mpr c103
                       obtain rfl := Option.some.inj H
                       go_wp2_with (first | ((with_reducible refine gate_callee (f := 10) rfl ?_); refine goesL_ (some 110) rfl rfl Tryd.func10 (by kernel_rfl) rfl #[.int .u64 a1] rfl (by (try simp only [List.map_toArray, List.map_cons, List.map_nil]); first | done | rfl | (simp only [List.length_drop, List.length_take]; rfl)) ?_; (with_reducible refine (bits_First.calls k5 a1 t134 t135 _ A72.out ?sideL).mono ?_); (case sideL => exact xL hlaid); rintro e w111 ⟨rfl, hb⟩; refine ⟨_, rfl, ?_⟩; replace HO_16 := Aside0.mk (Kd.R_below (by (with_reducible repeat (first | apply Kd.R_alloc | apply Kd.R_drewN | apply Kd.R_drew)); exact HO_16.out) hb); replace HB := Aside0.mk (xS HB hb); (try clear hb); (try clear hb2); (try clear hk); (try clear hi); obtain ⟨Ao112, co112, eo112⟩ := Kd.R_slice HO_16.out; subst eo112; have p140 : 0 ≤ (0 : Int) := (by omega); have q140 : 0 < (x16_5.length : Int) := of_decide_eq_true (by first | (with_reducible assumption) | assumption); obtain ⟨ad140, e140, hx140_0⟩ := Kd.at_int (Kd.R_reads' HO_16.out).2.2 0 p140 q140; cases e140; have qi140 : (0 < x16_5.length) = True := eq_true (by omega); (try rw [show ((0 : Int)).toNat = 0 from rfl] at hx140_0); (try rw [Addr.add_zero'] at hx140_0); replace p140 := eq_true p140; replace q140 := eq_true q140) | (go_at_call 7; (with_reducible refine (bits_Count.calls k5 a1 t141 _ A102.out ?sideL).mono ?_); (case sideL => exact xL hlaid); rintro e w113 ⟨rfl, hb⟩; replace HO_16 := Aside0.mk (Kd.R_below (by (with_reducible repeat (first | apply Kd.R_alloc | apply Kd.R_drewN | apply Kd.R_drew)); exact HO_16.out) hb); replace HB := Aside0.mk (xS HB hb); (try clear hb); (try clear hb2); (try clear hk); (try clear hi)))
                       go_ret
                       exact ⟨xer, xW HB⟩
                     ·rw [if_neg c101] at H
                      have c101b0 : (t134 == (rd x16_5 0)) = false := beq_eq_false_iff_ne.mpr c101
                      have c101b1 : (t134 != (rd x16_5 0)) = true := bne_iff_ne.mpr c101
                      obtain rfl := Option.some.inj H
                      go_wp2_with (first | ((with_reducible refine gate_callee (f := 10) rfl ?_); refine goesL_ (some 110) rfl rfl Tryd.func10 (by kernel_rfl) rfl #[.int .u64 a1] rfl (by (try simp only [List.map_toArray, List.map_cons, List.map_nil]); first | done | rfl | (simp only [List.length_drop, List.length_take]; rfl)) ?_; (with_reducible refine (bits_First.calls k5 a1 t134 t135 _ A72.out ?sideL).mono ?_); (case sideL => exact xL hlaid); rintro e w114 ⟨rfl, hb⟩; refine ⟨_, rfl, ?_⟩; replace HO_16 := Aside0.mk (Kd.R_below (by (with_reducible repeat (first | apply Kd.R_alloc | apply Kd.R_drewN | apply Kd.R_drew)); exact HO_16.out) hb); replace HB := Aside0.mk (xS HB hb); (try clear hb); (try clear hb2); (try clear hk); (try clear hi); obtain ⟨Ao115, co115, eo115⟩ := Kd.R_slice HO_16.out; subst eo115; have p140 : 0 ≤ (0 : Int) := (by omega); have q140 : 0 < (x16_5.length : Int) := of_decide_eq_true (by first | (with_reducible assumption) | assumption); obtain ⟨ad140, e140, hx140_0⟩ := Kd.at_int (Kd.R_reads' HO_16.out).2.2 0 p140 q140; cases e140; have qi140 : (0 < x16_5.length) = True := eq_true (by omega); (try rw [show ((0 : Int)).toNat = 0 from rfl] at hx140_0); (try rw [Addr.add_zero'] at hx140_0); replace p140 := eq_true p140; replace q140 := eq_true q140))
                      go_ret
                      exact ⟨xer, xW HB⟩
                    ·rw [if_neg c100] at H
                     exact absurd H (by simp)
                   ·rw [if_neg c99] at H
                    have c99b0 : (t135 == 0) = false := beq_eq_false_iff_ne.mpr c99
                    have c99b1 : (t135 != 0) = true := bne_iff_ne.mpr c99
                    obtain rfl := Option.some.inj H
                    go_wp2_with (first | ((with_reducible refine gate_callee (f := 10) rfl ?_); refine goesL_ (some 110) rfl rfl Tryd.func10 (by kernel_rfl) rfl #[.int .u64 a1] rfl (by (try simp only [List.map_toArray, List.map_cons, List.map_nil]); first | done | rfl | (simp only [List.length_drop, List.length_take]; rfl)) ?_; (with_reducible refine (bits_First.calls k5 a1 t134 t135 _ A72.out ?sideL).mono ?_); (case sideL => exact xL hlaid); rintro e w116 ⟨rfl, hb⟩; refine ⟨_, rfl, ?_⟩; replace HO_16 := Aside0.mk (Kd.R_below (by (with_reducible repeat (first | apply Kd.R_alloc | apply Kd.R_drewN | apply Kd.R_drew)); exact HO_16.out) hb); replace HB := Aside0.mk (xS HB hb); (try clear hb); (try clear hb2); (try clear hk); (try clear hi); obtain ⟨Ao117, co117, eo117⟩ := Kd.R_slice HO_16.out; subst eo117))
                    go_ret
                    exact ⟨xer, xW HB⟩
                  ·rw [if_neg c98] at H
                   have c98b0 : (t129 == x11_61) = false := beq_eq_false_iff_ne.mpr c98
                   have c98b1 : (t129 != x11_61) = true := bne_iff_ne.mpr c98
                   obtain rfl := Option.some.inj H
                   go_wp2_with (first | ((with_reducible refine gate_callee (f := 10) rfl ?_); refine goesL_ (some 110) rfl rfl Tryd.func10 (by kernel_rfl) rfl #[.int .u64 a1] rfl (by (try simp only [List.map_toArray, List.map_cons, List.map_nil]); first | done | rfl | (simp only [List.length_drop, List.length_take]; rfl)) ?_; (with_reducible refine (bits_First.calls k5 a1 t134 t135 _ A72.out ?sideL).mono ?_); (case sideL => exact xL hlaid); rintro e w118 ⟨rfl, hb⟩; refine ⟨_, rfl, ?_⟩; replace HO_16 := Aside0.mk (Kd.R_below (by (with_reducible repeat (first | apply Kd.R_alloc | apply Kd.R_drewN | apply Kd.R_drew)); exact HO_16.out) hb); replace HB := Aside0.mk (xS HB hb); (try clear hb); (try clear hb2); (try clear hk); (try clear hi); obtain ⟨Ao119, co119, eo119⟩ := Kd.R_slice HO_16.out; subst eo119))
                   go_ret
                   exact ⟨xer, xW HB⟩
                 ·rw [if_neg c97] at H
                  have c97b0 : (t130 == x10_3) = false := beq_eq_false_iff_ne.mpr c97
                  have c97b1 : (t130 != x10_3) = true := bne_iff_ne.mpr c97
                  obtain rfl := Option.some.inj H
                  go_wp2_with (first | ((with_reducible refine gate_callee (f := 10) rfl ?_); refine goesL_ (some 110) rfl rfl Tryd.func10 (by kernel_rfl) rfl #[.int .u64 a1] rfl (by (try simp only [List.map_toArray, List.map_cons, List.map_nil]); first | done | rfl | (simp only [List.length_drop, List.length_take]; rfl)) ?_; (with_reducible refine (bits_First.calls k5 a1 t134 t135 _ A72.out ?sideL).mono ?_); (case sideL => exact xL hlaid); rintro e w120 ⟨rfl, hb⟩; refine ⟨_, rfl, ?_⟩; replace HO_16 := Aside0.mk (Kd.R_below (by (with_reducible repeat (first | apply Kd.R_alloc | apply Kd.R_drewN | apply Kd.R_drew)); exact HO_16.out) hb); replace HB := Aside0.mk (xS HB hb); (try clear hb); (try clear hb2); (try clear hk); (try clear hi); obtain ⟨Ao121, co121, eo121⟩ := Kd.R_slice HO_16.out; subst eo121))
                  go_ret
                  exact ⟨xer, xW HB⟩
       ·exact absurd (by decide) c27
/-- THE ONE PURE STATEMENT of gamehalllaw1_BitsSets: yours. -/
def gamehalllaw1_BitsSets.Pure : Prop := ∀ (l0 : List Int) (a1 : Int), (l0.length * 8 ≤ 140737488351232 ∧ ∀ y_ ∈ l0, (Lit.int .i64 y_).wf = true) → ((Lit.int .u64 a1).wf = true) → ∃ k, gamehalllaw1_BitsSets.f k l0 a1 = some true
theorem gamehalllaw1_BitsSets.walk (P : gamehalllaw1_BitsSets.Pure) (l0 : List Int) (A0 : Option Addr) (c0 : Nat) (a1 : Int) (w : World) (hr0 : Kd.C (Kd.int .i64) w A0 l0.length l0) (hc0 : l0.length ≤ c0) (w0 : l0.length * 8 ≤ 140737488351232 ∧ ∀ y_ ∈ l0, (Lit.int .i64 y_).wf = true) (w1 : (Lit.int .u64 a1).wf = true) (hlaid : LaidS w) :
  Calls Tryd.prog 3 #[.slice A0 l0.length c0, .int .u64 a1] w fun e w' => e = .returned (.bool true) ∧ Below w.heap.size w w' := by
 obtain ⟨k, h⟩ := P l0 a1 w0 w1
 refine (gamehalllaw1_BitsSets.calls k A0 c0 l0 a1 true w hr0 hc0 h hlaid).mono ?_
 rintro e w' ⟨rfl, hd⟩
 exact ⟨rfl, hd⟩

end Go.Proofs.YtcncilipmekfhaaDoor.PBitsSets
