-- Printed by a program of this claim's writer (wip/ext): an extension of the kit's print.
import Derived.Test.YtloadbbndnmdlaaDoorPPlaceChecksx0
namespace Go.Proofs.YtloadbbndnmdlaaDoor.PPlaceChecks
open Go.RowKit Go.Proofs.YtloadbbndnmdlaaDoorW.PrintWords Go.Proofs.YtloadbbndnmdlaaDoorW.PrintLast Go.Proofs.YtloadbbndnmdlaaDoorW.PrintMore
set_option maxHeartbeats 8000000
set_option maxRecDepth 100000
attribute [local go_sem] max2_int min2_int max_two min_two max_three min_three max_four min_four   -- for this text's walks alone
set_option linter.unusedVariables false
set_option linter.unusedSimpArgs false

/-! ### rules_Name: function 25 -/
mutual
def rules_Name.j0 : Nat → ByteArray → Bool → Option (Bool)
  | 0, _, _ => none
  | k + 1, x0, x20 => if x20 = true then (some false) else (rules_Name.l0 k x0 (x0.size : Int) 0)
def rules_Name.l0 : Nat → ByteArray → Int → Int → Option (Bool)
  | 0, _, _, _ => none
  | k + 1, x0, x22, x23 => if x23 < x22 then (if 0 ≤ x23 then (if x23 < (x0.size : Int) then (if (bt x0 x23) < 65 then (if (bt x0 x23) < 48 then (some false) else (if (bt x0 x23) > 57 then (some false) else (rules_Name.l0 k x0 x22 (wrap64 (x23 + 1))))) else (if (bt x0 x23) > 90 then (if (bt x0 x23) < 48 then (some false) else (if (bt x0 x23) > 57 then (some false) else (rules_Name.l0 k x0 x22 (wrap64 (x23 + 1))))) else (rules_Name.l0 k x0 x22 (wrap64 (x23 + 1))))) else (none)) else (none)) else (some true)
end
def rules_Name.f (k : Nat) (a0 : ByteArray) : Option (Bool) := if a0.toList = ([] : List UInt8) then (rules_Name.j0 k a0 true) else (if (a0.size : Int) > 8 then (rules_Name.j0 k a0 true) else (if 0 < (a0.size : Int) then (if (bt a0 0) ≥ 48 then (rules_Name.j0 k a0 (decide ((bt a0 0) ≤ 57))) else (rules_Name.j0 k a0 false)) else (none)))
theorem rules_Name.mono_l : ∀ k, LM (LM (LeO)) (rules_Name.j0 k) (rules_Name.j0 (k + 1)) ∧ LM (LM (LM (LeO))) (rules_Name.l0 k) (rules_Name.l0 (k + 1))
  | 0 => by refine ⟨?_, ?_⟩ <;> (repeat (first | exact LeO.none _ | intro _))
  | k + 1 => by
    obtain ⟨ih0, ih1⟩ := rules_Name.mono_l k; refine ⟨?_, ?_⟩ <;> ((repeat (first | (with_reducible refine LeO.st ?_) | intro _)); constructor; (first | unfold rules_Name.j0 | unfold rules_Name.l0); repeat' first | (with_reducible first | apply ih0 | apply ih1 | exact LeO.refl _ | exact LeO.none _ | refine LeO.ite ?_ ?_ | refine LeO.bind ?_ (fun _ => ?_)) | apply ih0 | apply ih1 | exact LeO.none _ | refine LeO.ite ?_ ?_ | refine LeO.bind ?_ (fun _ => ?_))
theorem rules_Name.mono : ∀ a0 k, LeO (rules_Name.f k a0) (rules_Name.f (k + 1) a0) := by
  intros; rename_i k; obtain ⟨ih0, ih1⟩ := rules_Name.mono_l k
  unfold rules_Name.f
  repeat' first | (with_reducible first | apply ih0 | apply ih1 | exact LeO.refl _ | exact LeO.none _ | refine LeO.ite ?_ ?_ | refine LeO.bind ?_ (fun _ => ?_)) | apply ih0 | apply ih1 | exact LeO.none _ | refine LeO.ite ?_ ?_ | refine LeO.bind ?_ (fun _ => ?_)
theorem rules_Name.calls (k : Nat) (a0 : ByteArray) (r : Bool) (w : World) (h : rules_Name.f k a0 = some r) :
    Calls Tryd.prog 25 #[.string a0] w fun e w' => e = .returned (.bool r) ∧ Drawn0 w w' := by
 have H : (if a0.toList = ([] : List UInt8) then (rules_Name.j0 k a0 true) else (if (a0.size : Int) > 8 then (rules_Name.j0 k a0 true) else (if 0 < (a0.size : Int) then (if (bt a0 0) ≥ 48 then (rules_Name.j0 k a0 (decide ((bt a0 0) ≤ 57))) else (rules_Name.j0 k a0 false)) else (none)))) = some r := h; clear h; have HC2 := xm H; clear H; go_enter Tryd.func25, Tryd.ntmps25
 go_upto_region 1 with (fail)
 go_cut [20] (fun vs20 wc => ∃ (kq : Nat) (x20_1 : Bool), vs20 = .bool x20_1 ∧ Aside0 (rules_Name.j0 kq a0 x20_1 = some r) ∧ Aside0 (kq ≤ k) ∧ Drawn0 w wc)
 case first =>
  have H := HC2.out; clear HC2
  by_cases c3 : a0.toList = ([] : List UInt8)
  ·rw [if_pos c3] at H; have c3b0 := beq_iff_eq.mpr c3; have c3b1 := bne_eq_false_iff_eq.mpr c3; clear c3
   (first | rw [c3b0] | (simp only [i64_w, i32_w]; rw [c3b0]) | skip)
   have H' := xm H; clear H
   go_wp2
   go_meet
   case rel => exact ⟨_, (true), (xrf), H', ⟨by first | omega | exact Nat.le_refl _⟩, by repeat (first | exact Drawn0.refl _ | apply Drawn0.step)⟩
  ·rw [if_neg c3] at H; have c3b0 := beq_eq_false_iff_ne.mpr c3; have c3b1 := bne_iff_ne.mpr c3
   (first | rw [c3b0] | (simp only [i64_w, i32_w]; rw [c3b0]) | skip)
   by_cases c4 : (a0.size : Int) > 8
   ·rw [if_pos c4] at H; have c4b0 := decide_eq_true c4; have c4b1 : decide (8 < a0.size) = true := decide_eq_true (by omega); clear c4; have H' := xm H; clear H
    go_wp2
    go_meet
    case rel => exact ⟨_, (true), (xrf), H', ⟨by first | omega | exact Nat.le_refl _⟩, by repeat (first | exact Drawn0.refl _ | apply Drawn0.step)⟩
   ·rw [if_neg c4] at H; have c4b0 := decide_eq_false c4; have c4b1 : decide (8 < a0.size) = false := decide_eq_false (by omega); clear c4; obtain ⟨c5, H⟩ := xI H; have c5b0 := decide_eq_true c5; have c5b1 : decide (0 < a0.size) = true := decide_eq_true (by omega); clear c5
    by_cases c7 : (bt a0 0) ≥ 48
    ·rw [if_pos c7] at H; have c7b0 := decide_eq_true c7; clear c7; have H' := xm H; clear H; have p6 : 0 ≤ (0 : Int) := (by omega)
     have q6 : 0 < a0.size := (by have : (0 : Int) < (a0.size : Int) := xO; omega)
     have hx6 : ∀ h : 0 < a0.size, ((a0[0]'h).toNat : Int) = bt a0 0 := bt_at a0 0; clear p6; have qi6 : (0 < (a0.size : Int)) = True := eq_true (xO); replace q6 := eq_true q6; have p8 : 0 ≤ (0 : Int) := (by omega)
     have q8 : 0 < a0.size := (by have : (0 : Int) < (a0.size : Int) := xO; omega)
     have hx8 : ∀ h : 0 < a0.size, ((a0[0]'h).toNat : Int) = bt a0 0 := bt_at a0 0; clear p8; have qi8 : (0 < (a0.size : Int)) = True := eq_true (xO); replace q8 := eq_true q8
     go_wp2
     go_meet
     case rel => exact ⟨_, (decide ((bt a0 0) ≤ 57)), (xrf), H', ⟨by first | omega | exact Nat.le_refl _⟩, by repeat (first | exact Drawn0.refl _ | apply Drawn0.step)⟩
    ·rw [if_neg c7] at H; have c7b0 := decide_eq_false c7; clear c7; have H' := xm H; clear H; have p6 : 0 ≤ (0 : Int) := (by omega)
     have q6 : 0 < a0.size := (by have : (0 : Int) < (a0.size : Int) := xO; omega)
     have hx6 : ∀ h : 0 < a0.size, ((a0[0]'h).toNat : Int) = bt a0 0 := bt_at a0 0; clear p6; have qi6 : (0 < (a0.size : Int)) = True := eq_true (xO); replace q6 := eq_true q6
     go_wp2
     go_meet
     case rel => exact ⟨_, (false), (xrf), H', ⟨by first | omega | exact Nat.le_refl _⟩, by repeat (first | exact Drawn0.refl _ | apply Drawn0.step)⟩
 case rest =>
  clear HC2; (try clear p2); (try clear p6); (try clear q6); (try clear hx6); (try clear qi6); (try clear p8); (try clear q8); (try clear hx8); (try clear qi8); obtain ⟨kq, x20_1, rfl, HA, HJ1, ⟨mc1, rfl⟩⟩ := hcut
  cases kq with
  | zero => exact absurd HA.out (by simp [rules_Name.j0])
  | succ kj1 =>
   have H := HA.out; clear HA; simp only [rules_Name.j0] at H
   by_cases c9 : x20_1 = true
   ·subst c9; rw [if_pos rfl] at H; obtain rfl := Option.some.inj H
    go_wp2
    go_ret; exact ⟨xrf, by repeat (first | exact Drawn0.refl _ | apply Drawn0.step)⟩
   ·obtain rfl := Bool.eq_false_iff.mpr c9; rw [if_neg xF] at H; have H' := xm H; clear H
    go_wp2
    go_loopg [23] kj1 (fun kq vs23 w' => ∃ (x23_2 : Int), vs23 = .int .i64 x23_2 ∧ Aside0 (rules_Name.l0 kq a0 (a0.size : Int) x23_2 = some r) ∧ Aside0 (kq ≤ kj1) ∧ Drawn0 w w')
    case atStart => exact ⟨(0), (xrf), H', ⟨Nat.le_refl _⟩, by repeat (first | exact Drawn0.refl _ | apply Drawn0.step)⟩
    case round =>
     clear H'; (try clear p2); (try clear p6); (try clear q6); (try clear hx6); (try clear qi6); (try clear p8); (try clear q8); (try clear hx8); (try clear qi8); obtain ⟨x23_2, rfl, HA, HK2, ⟨m2, rfl⟩⟩ := hrel
     cases gk with
     | zero => exact absurd HA.out (by simp [rules_Name.l0])
     | succ k2 =>
      have H := HA.out; clear HA; simp only [rules_Name.l0] at H
      by_cases c10 : x23_2 < (a0.size : Int)
      ·rw [if_pos c10] at H; have c10b0 := decide_eq_true c10; clear c10; obtain ⟨c11b0, H⟩ := xJ H; obtain ⟨c12b0, H⟩ := xJ H
       by_cases c14 : (bt a0 x23_2) < 65
       ·rw [if_pos c14] at H; have c14b0 := decide_eq_true c14; clear c14
        by_cases c16 : (bt a0 x23_2) < 48
        ·rw [if_pos c16] at H; have c16b0 := decide_eq_true c16; clear c16; obtain rfl := Option.some.inj H; have p13 : 0 ≤ (x23_2 : Int) := xO; have q13 : x23_2 < (a0.size : Int) := xO; have hx13 := bt_at a0 x23_2; replace p13 := eq_true p13; replace q13 := eq_true q13; have p15 : 0 ≤ (x23_2 : Int) := xO; have q15 : x23_2 < (a0.size : Int) := xO; have hx15 := bt_at a0 x23_2; replace p15 := eq_true p15; replace q15 := eq_true q15
         go_wp2
         go_ret; exact ⟨xrf, by repeat (first | exact Drawn0.refl _ | apply Drawn0.step)⟩
        ·rw [if_neg c16] at H; have c16b0 := decide_eq_false c16; clear c16
         by_cases c18 : (bt a0 x23_2) > 57
         ·rw [if_pos c18] at H; have c18b0 := decide_eq_true c18; clear c18; obtain rfl := Option.some.inj H; have p13 : 0 ≤ (x23_2 : Int) := xO; have q13 : x23_2 < (a0.size : Int) := xO; have hx13 := bt_at a0 x23_2; replace p13 := eq_true p13; replace q13 := eq_true q13; have p15 : 0 ≤ (x23_2 : Int) := xO; have q15 : x23_2 < (a0.size : Int) := xO; have hx15 := bt_at a0 x23_2; replace p15 := eq_true p15; replace q15 := eq_true q15; have p17 : 0 ≤ (x23_2 : Int) := xO; have q17 : x23_2 < (a0.size : Int) := xO; have hx17 := bt_at a0 x23_2; replace p17 := eq_true p17; replace q17 := eq_true q17
          go_wp2
          go_ret; exact ⟨xrf, by repeat (first | exact Drawn0.refl _ | apply Drawn0.step)⟩
         ·rw [if_neg c18] at H; have c18b0 := decide_eq_false c18; clear c18; have H' := xm H; clear H; have p13 : 0 ≤ (x23_2 : Int) := xO; have q13 : x23_2 < (a0.size : Int) := xO; have hx13 := bt_at a0 x23_2; replace p13 := eq_true p13; replace q13 := eq_true q13; have p15 : 0 ≤ (x23_2 : Int) := xO; have q15 : x23_2 < (a0.size : Int) := xO; have hx15 := bt_at a0 x23_2; replace p15 := eq_true p15; replace q15 := eq_true q15; have p17 : 0 ≤ (x23_2 : Int) := xO; have q17 : x23_2 < (a0.size : Int) := xO; have hx17 := bt_at a0 x23_2; replace p17 := eq_true p17; replace q17 := eq_true q17
          go_wp2
          go_roundg k2
          case measure => have := HJ1.out; have := HK2.out; omega
          case rel => exact ⟨(wrap64 (x23_2 + 1)), (xrf), H', ⟨by have := HJ1.out; have := HK2.out; omega⟩, by repeat (first | exact Drawn0.refl _ | apply Drawn0.step)⟩
       ·rw [if_neg c14] at H; have c14b0 := decide_eq_false c14; clear c14
        by_cases c20 : (bt a0 x23_2) > 90
        ·rw [if_pos c20] at H; have c20b0 := decide_eq_true c20; clear c20
         by_cases c22 : (bt a0 x23_2) < 48
         ·rw [if_pos c22] at H; have c22b0 := decide_eq_true c22; clear c22; obtain rfl := Option.some.inj H; have p13 : 0 ≤ (x23_2 : Int) := xO; have q13 : x23_2 < (a0.size : Int) := xO; have hx13 := bt_at a0 x23_2; replace p13 := eq_true p13; replace q13 := eq_true q13; have p19 : 0 ≤ (x23_2 : Int) := xO; have q19 : x23_2 < (a0.size : Int) := xO; have hx19 := bt_at a0 x23_2; replace p19 := eq_true p19; replace q19 := eq_true q19; have p21 : 0 ≤ (x23_2 : Int) := xO; have q21 : x23_2 < (a0.size : Int) := xO; have hx21 := bt_at a0 x23_2; replace p21 := eq_true p21; replace q21 := eq_true q21
          go_wp2
          go_ret; exact ⟨xrf, by repeat (first | exact Drawn0.refl _ | apply Drawn0.step)⟩
         ·rw [if_neg c22] at H; have c22b0 := decide_eq_false c22; clear c22
          by_cases c24 : (bt a0 x23_2) > 57
          ·rw [if_pos c24] at H; have c24b0 := decide_eq_true c24; clear c24; obtain rfl := Option.some.inj H; have p13 : 0 ≤ (x23_2 : Int) := xO; have q13 : x23_2 < (a0.size : Int) := xO; have hx13 := bt_at a0 x23_2; replace p13 := eq_true p13; replace q13 := eq_true q13; have p19 : 0 ≤ (x23_2 : Int) := xO; have q19 : x23_2 < (a0.size : Int) := xO; have hx19 := bt_at a0 x23_2; replace p19 := eq_true p19; replace q19 := eq_true q19; have p21 : 0 ≤ (x23_2 : Int) := xO; have q21 : x23_2 < (a0.size : Int) := xO; have hx21 := bt_at a0 x23_2; replace p21 := eq_true p21; replace q21 := eq_true q21; have p23 : 0 ≤ (x23_2 : Int) := xO; have q23 : x23_2 < (a0.size : Int) := xO; have hx23 := bt_at a0 x23_2; replace p23 := eq_true p23; replace q23 := eq_true q23
           go_wp2
           go_ret; exact ⟨xrf, by repeat (first | exact Drawn0.refl _ | apply Drawn0.step)⟩
          ·rw [if_neg c24] at H; have c24b0 := decide_eq_false c24; clear c24; have H' := xm H; clear H; have p13 : 0 ≤ (x23_2 : Int) := xO; have q13 : x23_2 < (a0.size : Int) := xO; have hx13 := bt_at a0 x23_2; replace p13 := eq_true p13; replace q13 := eq_true q13; have p19 : 0 ≤ (x23_2 : Int) := xO; have q19 : x23_2 < (a0.size : Int) := xO; have hx19 := bt_at a0 x23_2; replace p19 := eq_true p19; replace q19 := eq_true q19; have p21 : 0 ≤ (x23_2 : Int) := xO; have q21 : x23_2 < (a0.size : Int) := xO; have hx21 := bt_at a0 x23_2; replace p21 := eq_true p21; replace q21 := eq_true q21; have p23 : 0 ≤ (x23_2 : Int) := xO; have q23 : x23_2 < (a0.size : Int) := xO; have hx23 := bt_at a0 x23_2; replace p23 := eq_true p23; replace q23 := eq_true q23
           go_wp2
           go_roundg k2
           case measure => have := HJ1.out; have := HK2.out; omega
           case rel => exact ⟨(wrap64 (x23_2 + 1)), (xrf), H', ⟨by have := HJ1.out; have := HK2.out; omega⟩, by repeat (first | exact Drawn0.refl _ | apply Drawn0.step)⟩
        ·rw [if_neg c20] at H; have c20b0 := decide_eq_false c20; clear c20; have H' := xm H; clear H; have p13 : 0 ≤ (x23_2 : Int) := xO; have q13 : x23_2 < (a0.size : Int) := xO; have hx13 := bt_at a0 x23_2; replace p13 := eq_true p13; replace q13 := eq_true q13; have p19 : 0 ≤ (x23_2 : Int) := xO; have q19 : x23_2 < (a0.size : Int) := xO; have hx19 := bt_at a0 x23_2; replace p19 := eq_true p19; replace q19 := eq_true q19
         go_wp2
         go_roundg k2
         case measure => have := HJ1.out; have := HK2.out; omega
         case rel => exact ⟨(wrap64 (x23_2 + 1)), (xrf), H', ⟨by have := HJ1.out; have := HK2.out; omega⟩, by repeat (first | exact Drawn0.refl _ | apply Drawn0.step)⟩
      ·rw [if_neg c10] at H; have c10b0 := decide_eq_false c10; clear c10; obtain rfl := Option.some.inj H
       go_wp2
       go_ret; exact ⟨xrf, by repeat (first | exact Drawn0.refl _ | apply Drawn0.step)⟩

/-! ### rules_way: function 35 -/
def rules_way.f (a0_0 : Int) (a0_1 : Int) (a0_2 : Int) (a0_3 : Int) : Option (Int) := if a0_0 < (-7) then (some 4) else (if a0_0 > 7 then (some 4) else (if a0_1 < (-7) then (some 4) else (if a0_1 > 7 then (some 4) else (if a0_0 = 0 then (if a0_1 = 0 then (some 4) else (if a0_2 < 1 then (some 4) else (if a0_2 > 7 then (some 4) else (if a0_3 < 0 then (some 4) else (if a0_3 > 2 then (some 4) else (some 0)))))) else (if a0_2 < 1 then (some 4) else (if a0_2 > 7 then (some 4) else (if a0_3 < 0 then (some 4) else (if a0_3 > 2 then (some 4) else (some 0)))))))))
theorem rules_way.calls (a0_0 : Int) (a0_1 : Int) (a0_2 : Int) (a0_3 : Int) (r : Int) (w : World) (h : rules_way.f a0_0 a0_1 a0_2 a0_3 = some r) :
    Calls Tryd.prog 35 #[.agg #[.int .i64 a0_0, .int .i64 a0_1, .int .i64 a0_2, .int .i64 a0_3]] w fun e w' => e = .returned (.int .i64 r) ∧ Below w.heap.size w w' := by
 have hu72 := Tryd.underlying72; have HB := xm (Below.refl w.heap.size w); have hss_ := @isSome_setCell; have H : (if a0_0 < (-7) then (some 4) else (if a0_0 > 7 then (some 4) else (if a0_1 < (-7) then (some 4) else (if a0_1 > 7 then (some 4) else (if a0_0 = 0 then (if a0_1 = 0 then (some 4) else (if a0_2 < 1 then (some 4) else (if a0_2 > 7 then (some 4) else (if a0_3 < 0 then (some 4) else (if a0_3 > 2 then (some 4) else (some 0)))))) else (if a0_2 < 1 then (some 4) else (if a0_2 > 7 then (some 4) else (if a0_3 < 0 then (some 4) else (if a0_3 > 2 then (some 4) else (some 0)))))))))) = some r := h; clear h
 by_cases c2 : a0_0 < (-7)
 ·rw [if_pos c2] at H; have c2b0 := decide_eq_true c2; clear c2; obtain rfl := Option.some.inj H; go_enter Tryd.func35, Tryd.ntmps35; go_wp2_with (first | ((with_reducible refine gate_dst (N := 1) rfl ?_); refine xG (cs := #[.int .i64 a0_0, .int .i64 a0_1, .int .i64 a0_2, .int .i64 a0_3]) (t := 72) ?_; intro gb101 hg w3 hbox hb; have BK101 := xm (hbox); have GW101 := xZ HB hg; have GE101 := xZ HB hg; replace HB := xS HB hb; clear hb hbox hg; have hcz4_0 := blkc4 BK101.out)); go_ret; exact ⟨xer, xW HB⟩
 ·rw [if_neg c2] at H; have c2b0 := decide_eq_false c2; clear c2
  by_cases c5 : a0_0 > 7
  ·rw [if_pos c5] at H; have c5b0 := decide_eq_true c5; clear c5; obtain rfl := Option.some.inj H; go_enter Tryd.func35, Tryd.ntmps35; go_wp2_with (first | ((with_reducible refine gate_dst (N := 1) rfl ?_); refine xG (cs := #[.int .i64 a0_0, .int .i64 a0_1, .int .i64 a0_2, .int .i64 a0_3]) (t := 72) ?_; intro gb101 hg w6 hbox hb; have BK101 := xm (hbox); have GW101 := xZ HB hg; have GE101 := xZ HB hg; replace HB := xS HB hb; clear hb hbox hg; have hcz7_0 := blkc4 BK101.out)); go_ret; exact ⟨xer, xW HB⟩
  ·rw [if_neg c5] at H; have c5b0 := decide_eq_false c5; clear c5
   by_cases c8 : a0_1 < (-7)
   ·rw [if_pos c8] at H; have c8b0 := decide_eq_true c8; clear c8; obtain rfl := Option.some.inj H; go_enter Tryd.func35, Tryd.ntmps35; go_wp2_with (first | ((with_reducible refine gate_dst (N := 1) rfl ?_); refine xG (cs := #[.int .i64 a0_0, .int .i64 a0_1, .int .i64 a0_2, .int .i64 a0_3]) (t := 72) ?_; intro gb101 hg w9 hbox hb; have BK101 := xm (hbox); have GW101 := xZ HB hg; have GE101 := xZ HB hg; replace HB := xS HB hb; clear hb hbox hg; have hcz10_0 := blkc4 BK101.out)); go_ret; exact ⟨xer, xW HB⟩
   ·rw [if_neg c8] at H; have c8b0 := decide_eq_false c8; clear c8
    by_cases c11 : a0_1 > 7
    ·rw [if_pos c11] at H; have c11b0 := decide_eq_true c11; clear c11; obtain rfl := Option.some.inj H; go_enter Tryd.func35, Tryd.ntmps35; go_wp2_with (first | ((with_reducible refine gate_dst (N := 1) rfl ?_); refine xG (cs := #[.int .i64 a0_0, .int .i64 a0_1, .int .i64 a0_2, .int .i64 a0_3]) (t := 72) ?_; intro gb101 hg w12 hbox hb; have BK101 := xm (hbox); have GW101 := xZ HB hg; have GE101 := xZ HB hg; replace HB := xS HB hb; clear hb hbox hg; have hcz13_0 := blkc4 BK101.out)); go_ret; exact ⟨xer, xW HB⟩
    ·rw [if_neg c11] at H; have c11b0 := decide_eq_false c11; clear c11
     by_cases c14 : a0_0 = 0
     ·rw [if_pos c14] at H; have c14b0 := beq_iff_eq.mpr c14; have c14b1 := bne_eq_false_iff_eq.mpr c14; clear c14
      by_cases c15 : a0_1 = 0
      ·rw [if_pos c15] at H; have c15b0 := beq_iff_eq.mpr c15; have c15b1 := bne_eq_false_iff_eq.mpr c15; clear c15; obtain rfl := Option.some.inj H; go_enter Tryd.func35, Tryd.ntmps35; go_wp2_with (first | ((with_reducible refine gate_dst (N := 1) rfl ?_); refine xG (cs := #[.int .i64 a0_0, .int .i64 a0_1, .int .i64 a0_2, .int .i64 a0_3]) (t := 72) ?_; intro gb101 hg w16 hbox hb; have BK101 := xm (hbox); have GW101 := xZ HB hg; have GE101 := xZ HB hg; replace HB := xS HB hb; clear hb hbox hg; have hcz17_0 := blkc4 BK101.out)); go_ret; exact ⟨xer, xW HB⟩
      ·rw [if_neg c15] at H; have c15b0 := beq_eq_false_iff_ne.mpr c15; have c15b1 := bne_iff_ne.mpr c15
       by_cases c18 : a0_2 < 1
       ·rw [if_pos c18] at H; have c18b0 := decide_eq_true c18; clear c18; obtain rfl := Option.some.inj H; go_enter Tryd.func35, Tryd.ntmps35; go_wp2_with (first | ((with_reducible refine gate_dst (N := 1) rfl ?_); refine xG (cs := #[.int .i64 a0_0, .int .i64 a0_1, .int .i64 a0_2, .int .i64 a0_3]) (t := 72) ?_; intro gb101 hg w19 hbox hb; have BK101 := xm (hbox); have GW101 := xZ HB hg; have GE101 := xZ HB hg; replace HB := xS HB hb; clear hb hbox hg; have hcz20_0 := blkc4 BK101.out)); go_ret; exact ⟨xer, xW HB⟩
       ·rw [if_neg c18] at H; have c18b0 := decide_eq_false c18; clear c18
        by_cases c21 : a0_2 > 7
        ·rw [if_pos c21] at H; have c21b0 := decide_eq_true c21; clear c21; obtain rfl := Option.some.inj H; go_enter Tryd.func35, Tryd.ntmps35; go_wp2_with (first | ((with_reducible refine gate_dst (N := 1) rfl ?_); refine xG (cs := #[.int .i64 a0_0, .int .i64 a0_1, .int .i64 a0_2, .int .i64 a0_3]) (t := 72) ?_; intro gb101 hg w22 hbox hb; have BK101 := xm (hbox); have GW101 := xZ HB hg; have GE101 := xZ HB hg; replace HB := xS HB hb; clear hb hbox hg; have hcz23_0 := blkc4 BK101.out)); go_ret; exact ⟨xer, xW HB⟩
        ·rw [if_neg c21] at H; have c21b0 := decide_eq_false c21; clear c21
         by_cases c24 : a0_3 < 0
         ·rw [if_pos c24] at H; have c24b0 := decide_eq_true c24; clear c24; obtain rfl := Option.some.inj H; go_enter Tryd.func35, Tryd.ntmps35; go_wp2_with (first | ((with_reducible refine gate_dst (N := 1) rfl ?_); refine xG (cs := #[.int .i64 a0_0, .int .i64 a0_1, .int .i64 a0_2, .int .i64 a0_3]) (t := 72) ?_; intro gb101 hg w25 hbox hb; have BK101 := xm (hbox); have GW101 := xZ HB hg; have GE101 := xZ HB hg; replace HB := xS HB hb; clear hb hbox hg; have hcz26_0 := blkc4 BK101.out)); go_ret; exact ⟨xer, xW HB⟩
         ·rw [if_neg c24] at H; have c24b0 := decide_eq_false c24; clear c24
          by_cases c27 : a0_3 > 2
          ·rw [if_pos c27] at H; have c27b0 := decide_eq_true c27; clear c27; obtain rfl := Option.some.inj H; go_enter Tryd.func35, Tryd.ntmps35; go_wp2_with (first | ((with_reducible refine gate_dst (N := 1) rfl ?_); refine xG (cs := #[.int .i64 a0_0, .int .i64 a0_1, .int .i64 a0_2, .int .i64 a0_3]) (t := 72) ?_; intro gb101 hg w28 hbox hb; have BK101 := xm (hbox); have GW101 := xZ HB hg; have GE101 := xZ HB hg; replace HB := xS HB hb; clear hb hbox hg; have hcz29_0 := blkc4 BK101.out)); go_ret; exact ⟨xer, xW HB⟩
          ·rw [if_neg c27] at H; have c27b0 := decide_eq_false c27; clear c27; obtain rfl := Option.some.inj H; go_enter Tryd.func35, Tryd.ntmps35; go_wp2_with (first | ((with_reducible refine gate_dst (N := 1) rfl ?_); refine xG (cs := #[.int .i64 a0_0, .int .i64 a0_1, .int .i64 a0_2, .int .i64 a0_3]) (t := 72) ?_; intro gb101 hg w30 hbox hb; have BK101 := xm (hbox); have GW101 := xZ HB hg; have GE101 := xZ HB hg; replace HB := xS HB hb; clear hb hbox hg; have hcz31_0 := blkc4 BK101.out)); go_ret; exact ⟨xer, xW HB⟩
     ·rw [if_neg c14] at H; have c14b0 := beq_eq_false_iff_ne.mpr c14; have c14b1 := bne_iff_ne.mpr c14
      by_cases c32 : a0_2 < 1
      ·rw [if_pos c32] at H; have c32b0 := decide_eq_true c32; clear c32; obtain rfl := Option.some.inj H; go_enter Tryd.func35, Tryd.ntmps35; go_wp2_with (first | ((with_reducible refine gate_dst (N := 1) rfl ?_); refine xG (cs := #[.int .i64 a0_0, .int .i64 a0_1, .int .i64 a0_2, .int .i64 a0_3]) (t := 72) ?_; intro gb101 hg w33 hbox hb; have BK101 := xm (hbox); have GW101 := xZ HB hg; have GE101 := xZ HB hg; replace HB := xS HB hb; clear hb hbox hg; have hcz34_0 := blkc4 BK101.out)); go_ret; exact ⟨xer, xW HB⟩
      ·rw [if_neg c32] at H; have c32b0 := decide_eq_false c32; clear c32
       by_cases c35 : a0_2 > 7
       ·rw [if_pos c35] at H; have c35b0 := decide_eq_true c35; clear c35; obtain rfl := Option.some.inj H; go_enter Tryd.func35, Tryd.ntmps35; go_wp2_with (first | ((with_reducible refine gate_dst (N := 1) rfl ?_); refine xG (cs := #[.int .i64 a0_0, .int .i64 a0_1, .int .i64 a0_2, .int .i64 a0_3]) (t := 72) ?_; intro gb101 hg w36 hbox hb; have BK101 := xm (hbox); have GW101 := xZ HB hg; have GE101 := xZ HB hg; replace HB := xS HB hb; clear hb hbox hg; have hcz37_0 := blkc4 BK101.out)); go_ret; exact ⟨xer, xW HB⟩
       ·rw [if_neg c35] at H; have c35b0 := decide_eq_false c35; clear c35
        by_cases c38 : a0_3 < 0
        ·rw [if_pos c38] at H; have c38b0 := decide_eq_true c38; clear c38; obtain rfl := Option.some.inj H; go_enter Tryd.func35, Tryd.ntmps35; go_wp2_with (first | ((with_reducible refine gate_dst (N := 1) rfl ?_); refine xG (cs := #[.int .i64 a0_0, .int .i64 a0_1, .int .i64 a0_2, .int .i64 a0_3]) (t := 72) ?_; intro gb101 hg w39 hbox hb; have BK101 := xm (hbox); have GW101 := xZ HB hg; have GE101 := xZ HB hg; replace HB := xS HB hb; clear hb hbox hg; have hcz40_0 := blkc4 BK101.out)); go_ret; exact ⟨xer, xW HB⟩
        ·rw [if_neg c38] at H; have c38b0 := decide_eq_false c38; clear c38
         by_cases c41 : a0_3 > 2
         ·rw [if_pos c41] at H; have c41b0 := decide_eq_true c41; clear c41; obtain rfl := Option.some.inj H; go_enter Tryd.func35, Tryd.ntmps35; go_wp2_with (first | ((with_reducible refine gate_dst (N := 1) rfl ?_); refine xG (cs := #[.int .i64 a0_0, .int .i64 a0_1, .int .i64 a0_2, .int .i64 a0_3]) (t := 72) ?_; intro gb101 hg w42 hbox hb; have BK101 := xm (hbox); have GW101 := xZ HB hg; have GE101 := xZ HB hg; replace HB := xS HB hb; clear hb hbox hg; have hcz43_0 := blkc4 BK101.out)); go_ret; exact ⟨xer, xW HB⟩
         ·rw [if_neg c41] at H; have c41b0 := decide_eq_false c41; clear c41; obtain rfl := Option.some.inj H; go_enter Tryd.func35, Tryd.ntmps35; go_wp2_with (first | ((with_reducible refine gate_dst (N := 1) rfl ?_); refine xG (cs := #[.int .i64 a0_0, .int .i64 a0_1, .int .i64 a0_2, .int .i64 a0_3]) (t := 72) ?_; intro gb101 hg w44 hbox hb; have BK101 := xm (hbox); have GW101 := xZ HB hg; have GE101 := xZ HB hg; replace HB := xS HB hb; clear hb hbox hg; have hcz45_0 := blkc4 BK101.out)); go_ret; exact ⟨xer, xW HB⟩

end Go.Proofs.YtloadbbndnmdlaaDoor.PPlaceChecks
