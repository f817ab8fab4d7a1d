-- Printed by a program of this claim's writer (wip/ext): an extension of the kit's print.
import Derived.Test.YtemfkhafkhkffaaPSwissPairsx0
namespace Go.Proofs.Ytemfkhafkhkffaa.PSwissPairs
open Go.RowKit Go.Proofs.YtemfkhafkhkffaaW.PrintWords Go.Proofs.YtemfkhafkhkffaaW.PrintLast Go.Proofs.YtemfkhafkhkffaaW.PrintMore
set_option maxHeartbeats 8000000
set_option maxRecDepth 100000
attribute [local go_sem] max2_int min2_int max_two min_two max_three min_three max_four min_four   -- for this text's walks alone
set_option linter.unusedVariables false
set_option linter.unusedSimpArgs false

/-! ### swiss_times: function 30 -/
def swiss_times.l0 : Nat → Int → Int → List Int → Int → Int → Option (Int)
  | 0, _, _, _, _, _ => none
  | k + 1, x2, x7, x14, x15, x16 => if x16 < x15 then (if 0 ≤ x16 then (if x16 < (x14.length : Int) then (if (rd x14 x16) = x2 then (swiss_times.l0 k x2 (wrap64 (x7 + 1)) x14 x15 (wrap64 (x16 + 1))) else (swiss_times.l0 k x2 x7 x14 x15 (wrap64 (x16 + 1)))) else (none)) else (none)) else (some x7)
def swiss_times.f (k : Nat) (l0 : List (S33)) (a1 : Int) (a2 : Int) : Option (Int) := if 0 ≤ a1 then (if a1 < (l0.length : Int) then (swiss_times.l0 k a2 0 ((rd_T33 l0 a1).f1) (((rd_T33 l0 a1).f1).length : Int) 0) else (none)) else (none)
theorem swiss_times.mono_l : ∀ k, L5 (LeO) (swiss_times.l0 k) (swiss_times.l0 (k + 1))
  | 0 => by (repeat (first | exact LeO.none _ | intro _))
  | k + 1 => by
    have ih0 := swiss_times.mono_l k
    ((repeat (first | (with_reducible refine LeO.st ?_) | intro _)); constructor; (first | unfold swiss_times.l0); repeat' first | (with_reducible first | apply ih0 | exact LeO.refl _ | exact LeO.none _ | refine LeO.ite ?_ ?_ | refine LeO.bind ?_ (fun _ => ?_)) | apply ih0 | exact LeO.none _ | refine LeO.ite ?_ ?_ | refine LeO.bind ?_ (fun _ => ?_))
theorem swiss_times.mono : ∀ a0 a1 a2 k, LeO (swiss_times.f k a0 a1 a2) (swiss_times.f (k + 1) a0 a1 a2) := by
  intros; rename_i k; have ih0 := swiss_times.mono_l k
  unfold swiss_times.f
  repeat' first | (with_reducible first | apply ih0 | exact LeO.refl _ | exact LeO.none _ | refine LeO.ite ?_ ?_ | refine LeO.bind ?_ (fun _ => ?_)) | apply ih0 | exact LeO.none _ | refine LeO.ite ?_ ?_ | refine LeO.bind ?_ (fun _ => ?_)
theorem swiss_times.calls (k : Nat) (A0 : Option Addr) (c0 : Nat) (l0 : List (S33)) (a1 : Int) (a2 : Int) (r : Int) (w : World) (hr0 : Kd.C k33 w A0 l0.length l0) (hc0 : l0.length ≤ c0) (h : swiss_times.f k l0 a1 a2 = some r) :
    Calls Try.prog 30 #[.slice A0 l0.length c0, .int .i64 a1, .int .i64 a2] w fun e w' => e = .returned (.int .i64 r) ∧ Drawn0 w w' := by
 have HR0 := xm hr0; have HC0 := xm hc0; clear hr0 hc0; have H : (if 0 ≤ a1 then (if a1 < (l0.length : Int) then (swiss_times.l0 k a2 0 ((rd_T33 l0 a1).f1) (((rd_T33 l0 a1).f1).length : Int) 0) else (none)) else (none)) = some r := h; clear h; obtain ⟨c4b0, H⟩ := xJ H; obtain ⟨c5b0, H⟩ := xJ H; have H' := xm H; clear H; have p101 : 0 ≤ (a1 : Int) := xO; have q101 : a1 < (l0.length : Int) := xO; obtain ⟨ad101, A101_1, c101_1, e101, hx101_0, hx101_1, hx101_2, hx101_3, hl101_1, hi101_1⟩ := at_T33 HR0.out a1 p101 q101
 cases e101
 have HR101_1 := xm hi101_1; have HC101_1 := xm hl101_1; clear hi101_1 hl101_1; replace p101 := eq_true p101; replace q101 := eq_true q101; go_enter Try.func30, Try.ntmps30
 go_wp2
 go_loopg [7, 16] k (fun kq vs7 vs16 w' => ∃ (x7_1 : Int) (x16_1 : Int), vs7 = .int .i64 x7_1 ∧ vs16 = .int .i64 x16_1 ∧ Aside0 (swiss_times.l0 kq a2 x7_1 ((rd_T33 l0 a1).f1) (((rd_T33 l0 a1).f1).length : Int) x16_1 = some r) ∧ Aside0 (kq ≤ k) ∧ Drawn0 w w')
 case atStart => exact ⟨(0), (0), (xrf), (xrf), H', ⟨Nat.le_refl _⟩, by repeat (first | exact Drawn0.refl _ | apply Drawn0.step)⟩
 case round =>
  clear H'; (try clear p1); (try clear q1); (try clear hx1); (try clear p2); (try clear hx101_0); (try clear hx101_1); (try clear hx101_2); (try clear hx101_3); (try clear p101); (try clear q101); obtain ⟨x7_1, x16_1, rfl, rfl, HA, HK1, ⟨m1, rfl⟩⟩ := hrel
  cases gk with
  | zero => exact absurd HA.out (by simp [swiss_times.l0])
  | succ k1 =>
   have H := HA.out; clear HA; simp only [swiss_times.l0] at H
   by_cases c6 : x16_1 < (((rd_T33 l0 a1).f1).length : Int)
   ·rw [if_pos c6] at H; have c6b0 := decide_eq_true c6; clear c6; obtain ⟨c7b0, H⟩ := xJ H; obtain ⟨c8b0, H⟩ := xJ H
    by_cases c9 : (rd ((rd_T33 l0 a1).f1) x16_1) = a2
    ·rw [if_pos c9] at H; have c9b0 := beq_iff_eq.mpr c9; have c9b1 := bne_eq_false_iff_eq.mpr c9; clear c9; have H' := xm H; clear H; have p102 : 0 ≤ (x16_1 : Int) := xO; have q102 : x16_1 < (((rd_T33 l0 a1).f1).length : Int) := xO; obtain ⟨ad102, e102, hx102_0⟩ := Kd.at_int HR101_1.out x16_1 p102 q102
     cases e102
     replace p102 := eq_true p102; replace q102 := eq_true q102
     go_wp2
     go_roundg k1
     case measure => have := HK1.out; omega
     case rel => exact ⟨(wrap64 (x7_1 + 1)), (wrap64 (x16_1 + 1)), (xrf), (xrf), H', ⟨by have := HK1.out; omega⟩, by repeat (first | exact Drawn0.refl _ | apply Drawn0.step)⟩
    ·rw [if_neg c9] at H; have c9b0 := beq_eq_false_iff_ne.mpr c9; have c9b1 := bne_iff_ne.mpr c9; have H' := xm H; clear H; have p102 : 0 ≤ (x16_1 : Int) := xO; have q102 : x16_1 < (((rd_T33 l0 a1).f1).length : Int) := xO; obtain ⟨ad102, e102, hx102_0⟩ := Kd.at_int HR101_1.out x16_1 p102 q102
     cases e102
     replace p102 := eq_true p102; replace q102 := eq_true q102
     go_wp2
     go_roundg k1
     case measure => have := HK1.out; omega
     case rel => exact ⟨(x7_1), (wrap64 (x16_1 + 1)), (xrf), (xrf), H', ⟨by have := HK1.out; omega⟩, by repeat (first | exact Drawn0.refl _ | apply Drawn0.step)⟩
   ·rw [if_neg c6] at H; have c6b0 := decide_eq_false c6; clear c6; obtain rfl := Option.some.inj H
    go_wp2
    go_ret; exact ⟨xrf, by repeat (first | exact Drawn0.refl _ | apply Drawn0.step)⟩

/-! ### swiss_Check: function 10 -/
mutual
def swiss_Check.j0 : Nat → List (S33) → Bool → Option (Int)
  | 0, _, _ => none
  | k + 1, x0, x16 => if x16 = true then (some 2) else (swiss_Check.l0 k x0 x0 (x0.length : Int) 0)
def swiss_Check.l0 : Nat → List (S33) → List (S33) → Int → Int → Option (Int)
  | 0, _, _, _, _ => none
  | k + 1, x0, x17, x18, x19 => if x19 < x18 then (if 0 ≤ x19 then (if x19 < (x17.length : Int) then (if ((rd_T33 x17 x19).f0) < 0 then (swiss_Check.j2 k x0 x19 x17 x18 x19 true ((rd_T33 x17 x19).f0) ((rd_T33 x17 x19).f1) ((rd_T33 x17 x19).f2) ((rd_T33 x17 x19).f3)) else (if ((rd_T33 x17 x19).f0) > 40 then (swiss_Check.j2 k x0 x19 x17 x18 x19 true ((rd_T33 x17 x19).f0) ((rd_T33 x17 x19).f1) ((rd_T33 x17 x19).f2) ((rd_T33 x17 x19).f3)) else (if ((rd_T33 x17 x19).f2) < (-20) then (swiss_Check.j2 k x0 x19 x17 x18 x19 true ((rd_T33 x17 x19).f0) ((rd_T33 x17 x19).f1) ((rd_T33 x17 x19).f2) ((rd_T33 x17 x19).f3)) else (swiss_Check.j2 k x0 x19 x17 x18 x19 (decide (((rd_T33 x17 x19).f2) > 20)) ((rd_T33 x17 x19).f0) ((rd_T33 x17 x19).f1) ((rd_T33 x17 x19).f2) ((rd_T33 x17 x19).f3))))) else (none)) else (none)) else (swiss_Check.l2 k x0 (x0.length : Int) 0)
def swiss_Check.j2 : Nat → List (S33) → Int → List (S33) → Int → Int → Bool → Int → List Int → Int → Bool → Option (Int)
  | 0, _, _, _, _, _, _, _, _, _, _ => none
  | k + 1, x0, x3, x17, x18, x19, x41, z105a, z105b, z105c, z105d => if x41 = true then (some 4) else (if (z105b.length : Int) > 20 then (some 2) else (swiss_Check.l1 k x0 x3 x17 x18 x19 z105b (z105b.length : Int) 0))
def swiss_Check.l1 : Nat → List (S33) → Int → List (S33) → Int → Int → List Int → Int → Int → Option (Int)
  | 0, _, _, _, _, _, _, _, _ => none
  | k + 1, x0, x3, x17, x18, x19, x47, x48, x49 => if x49 < x48 then (if 0 ≤ x49 then (if x49 < (x47.length : Int) then (if (rd x47 x49) < 0 then (some 3) else (if (rd x47 x49) ≥ (x0.length : Int) then (some 3) else (if (rd x47 x49) = x3 then (some 3) else (swiss_Check.l1 k x0 x3 x17 x18 x19 x47 x48 (wrap64 (x49 + 1)))))) else (none)) else (none)) else (swiss_Check.l0 k x0 x17 x18 (wrap64 (x19 + 1)))
def swiss_Check.l2 : Nat → List (S33) → Int → Int → Option (Int)
  | 0, _, _, _ => none
  | k + 1, x0, x69, x70 => if x70 < x69 then (swiss_Check.l3 k x0 x70 x69 x70 x70 0) else (some 0)
def swiss_Check.l3 : Nat → List (S33) → Int → Int → Int → Int → Int → Option (Int)
  | 0, _, _, _, _, _, _ => none
  | k + 1, x0, x7, x69, x70, x73, x74 => if x74 < x73 then ((swiss_times.f k x0 x7 x74).bind fun t106 => ((swiss_times.f k x0 x74 x7).bind fun t107 => (if t106 = t107 then ((swiss_times.f k x0 x7 x74).bind fun t108 => (if t108 > 1 then (some 7) else (swiss_Check.l3 k x0 x7 x69 x70 x73 (wrap64 (x74 + 1))))) else (some 3)))) else (swiss_Check.l2 k x0 x69 (wrap64 (x70 + 1)))
end
def swiss_Check.f (k : Nat) (l0 : List (S33)) : Option (Int) := if (l0.length : Int) < 2 then (swiss_Check.j0 k l0 true) else (swiss_Check.j0 k l0 (decide ((l0.length : Int) > 8)))
theorem swiss_Check.mono_l : ∀ k, LM (LM (LeO)) (swiss_Check.j0 k) (swiss_Check.j0 (k + 1)) ∧ LM (LM (LM (LM (LeO)))) (swiss_Check.l0 k) (swiss_Check.l0 (k + 1)) ∧ L10 (LeO) (swiss_Check.j2 k) (swiss_Check.j2 (k + 1)) ∧ L5 (LM (LM (LM (LeO)))) (swiss_Check.l1 k) (swiss_Check.l1 (k + 1)) ∧ LM (LM (LM (LeO))) (swiss_Check.l2 k) (swiss_Check.l2 (k + 1)) ∧ L5 (LM (LeO)) (swiss_Check.l3 k) (swiss_Check.l3 (k + 1))
  | 0 => by refine ⟨?_, ?_, ?_, ?_, ?_, ?_⟩ <;> (repeat (first | exact LeO.none _ | intro _))
  | k + 1 => by
    obtain ⟨ih0, ih1, ih2, ih3, ih4, ih5⟩ := swiss_Check.mono_l k; refine ⟨?_, ?_, ?_, ?_, ?_, ?_⟩ <;> ((repeat (first | (with_reducible refine LeO.st ?_) | intro _)); constructor; (first | unfold swiss_Check.j0 | unfold swiss_Check.l0 | unfold swiss_Check.j2 | unfold swiss_Check.l1 | unfold swiss_Check.l2 | unfold swiss_Check.l3); repeat' first | (with_reducible first | apply ih0 | apply ih1 | apply ih2 | apply ih3 | apply ih4 | apply ih5 | apply swiss_times.mono | exact LeO.refl _ | exact LeO.none _ | refine LeO.ite ?_ ?_ | refine LeO.bind ?_ (fun _ => ?_)) | apply ih0 | apply ih1 | apply ih2 | apply ih3 | apply ih4 | apply ih5 | apply swiss_times.mono | exact LeO.none _ | refine LeO.ite ?_ ?_ | refine LeO.bind ?_ (fun _ => ?_))
theorem swiss_Check.mono : ∀ a0 k, LeO (swiss_Check.f k a0) (swiss_Check.f (k + 1) a0) := by
  intros; rename_i k; obtain ⟨ih0, ih1, ih2, ih3, ih4, ih5⟩ := swiss_Check.mono_l k
  unfold swiss_Check.f
  repeat' first | (with_reducible first | apply ih0 | apply ih1 | apply ih2 | apply ih3 | apply ih4 | apply ih5 | apply swiss_times.mono | exact LeO.refl _ | exact LeO.none _ | refine LeO.ite ?_ ?_ | refine LeO.bind ?_ (fun _ => ?_)) | apply ih0 | apply ih1 | apply ih2 | apply ih3 | apply ih4 | apply ih5 | apply swiss_times.mono | exact LeO.none _ | refine LeO.ite ?_ ?_ | refine LeO.bind ?_ (fun _ => ?_)
theorem swiss_Check.calls (k : Nat) (A0 : Option Addr) (c0 : Nat) (l0 : List (S33)) (r : Int) (w : World) (hr0 : Kd.C k33 w A0 l0.length l0) (hc0 : l0.length ≤ c0) (h : swiss_Check.f k l0 = some r) :
    Calls Try.prog 10 #[.slice A0 l0.length c0] w fun e w' => e = .returned (.int .i64 r) ∧ Below w.heap.size w w' := by
 have hu33 := Try.underlying33; have HR0 := xm hr0; have HC0 := xm hc0; clear hr0 hc0; have HB := xm (Below.refl w.heap.size w); have hss_ := @isSome_setCell; have H : (if (l0.length : Int) < 2 then (swiss_Check.j0 k l0 true) else (swiss_Check.j0 k l0 (decide ((l0.length : Int) > 8)))) = some r := h; clear h; have HC2 := xm H; clear H; go_enter Try.func10, Try.ntmps10
 go_upto_region 1 with (fail)
 go_cut [16] (fun vs16 wc => ∃ (kq : Nat) (x16_1 : Bool), vs16 = .bool x16_1 ∧ Aside0 (swiss_Check.j0 kq l0 x16_1 = some r) ∧ Aside0 (kq ≤ k) ∧ Aside0 (Below w.heap.size w wc))
 case first =>
  have H := HC2.out; clear HC2
  by_cases c3 : (l0.length : Int) < 2
  ·rw [if_pos c3] at H; have c3b0 := decide_eq_true c3; have c3b1 : decide (l0.length < 2) = true := decide_eq_true (by omega); clear c3
   (first | rw [c3b0] | (simp only [i64_w, i32_w]; rw [c3b0]) | skip)
   have H' := xm H; clear H
   go_wp2
   go_meet
   case rel => exact ⟨_, (true), (xrf), H', ⟨by first | omega | exact Nat.le_refl _⟩, ⟨xW HB⟩⟩
  ·rw [if_neg c3] at H; have c3b0 := decide_eq_false c3; have c3b1 : decide (l0.length < 2) = false := decide_eq_false (by omega); clear c3
   (first | rw [c3b0] | (simp only [i64_w, i32_w]; rw [c3b0]) | skip)
   have H' := xm H; clear H
   go_wp2
   go_meet
   case rel => exact ⟨_, (decide ((l0.length : Int) > 8)), (xrf), H', ⟨by first | omega | exact Nat.le_refl _⟩, ⟨xW HB⟩⟩
 case rest =>
  clear HC2; (try clear p2); obtain ⟨kq, x16_1, rfl, HA, HJ1, HB⟩ := hcut
  cases kq with
  | zero => exact absurd HA.out (by simp [swiss_Check.j0])
  | succ kj1 =>
   have H := HA.out; clear HA; simp only [swiss_Check.j0] at H
   by_cases c4 : x16_1 = true
   ·subst c4; rw [if_pos rfl] at H; obtain rfl := Option.some.inj H
    go_wp2
    go_ret; exact ⟨xer, xW HB⟩
   ·obtain rfl := Bool.eq_false_iff.mpr c4; rw [if_neg xF] at H; have H' := xm H; clear H
    go_wp2
    go_loopg [19] kj1 (fun kq vs19 w' => ∃ (x19_2 : Int), vs19 = .int .i64 x19_2 ∧ Aside0 (swiss_Check.l0 kq l0 l0 (l0.length : Int) x19_2 = some r) ∧ Aside0 (kq ≤ kj1) ∧ Aside0 (Below w.heap.size w w'))
    case atStart => exact ⟨(0), (xrf), H', ⟨Nat.le_refl _⟩, ⟨xW HB⟩⟩
    case round =>
     clear H'; (try clear p2); obtain ⟨x19_2, rfl, HA, HK2, HB⟩ := hrel
     cases gk with
     | zero => exact absurd HA.out (by simp [swiss_Check.l0])
     | succ k2 =>
      have H := HA.out; clear HA; simp only [swiss_Check.l0] at H
      by_cases c5 : x19_2 < (l0.length : Int)
      ·rw [if_pos c5] at H; have c5b0 := decide_eq_true c5; clear c5; obtain ⟨c6b0, H⟩ := xJ H; obtain ⟨c7b0, H⟩ := xJ H; have HC8 := xm H; clear H; have p103 : 0 ≤ (x19_2 : Int) := xO; have q103 : x19_2 < (l0.length : Int) := xO; obtain ⟨ad103, A103_1, c103_1, e103, hx103_0, hx103_1, hx103_2, hx103_3, hl103_1, hi103_1⟩ := at_T33 HR0.out x19_2 p103 q103
       cases e103
       replace hx103_0 := xR HB hx103_0; replace hx103_1 := xR HB hx103_1; replace hx103_2 := xR HB hx103_2; replace hx103_3 := xR HB hx103_3; have HR103_1 := xm hi103_1; have HC103_1 := xm hl103_1; clear hi103_1 hl103_1; replace p103 := eq_true p103; replace q103 := eq_true q103
       go_upto_region 6 with (first | ((with_reducible refine gate_dst (N := 4) rfl ?_); (try (refine gate_guard (by rfl) ?_; dsimp only)); refine xG (cs := #[.int .i64 0, .slice none 0 0, .int .i64 0, .bool false]) (t := 33) ?_; intro gb104 hg w9 hbox hb; have BK104 := xm (hbox); have GW104 := xZ HB hg; have GE104 := xZ HB hg; replace HB := xS HB hb; clear hb hbox hg; have hcz10_0 := blkc4 BK104.out))
       (try simp only [Act.put, List.setIfInBounds_toArray, List.set_cons_zero, List.set_cons_succ])
       go_cut [41] (fun vs41 wc => ∃ (kq : Nat) (x41_7 : Bool), vs41 = .bool x41_7 ∧ Aside0 (swiss_Check.j2 kq l0 x19_2 l0 (l0.length : Int) x19_2 x41_7 ((rd_T33 l0 x19_2).f0) ((rd_T33 l0 x19_2).f1) ((rd_T33 l0 x19_2).f2) ((rd_T33 l0 x19_2).f3) = some r) ∧ Aside0 (kq ≤ k2) ∧ Aside0 (wc.heap[gb104]? = some (.cells #[.int .i64 ((rd_T33 l0 x19_2).f0), (.slice A103_1 ((rd_T33 l0 x19_2).f1).length c103_1), .int .i64 ((rd_T33 l0 x19_2).f2), .bool ((rd_T33 l0 x19_2).f3)] 33 (0, 0))) ∧ Aside0 (Below w.heap.size w wc))
       case first =>
        have H := HC8.out; clear HC8
        by_cases c11 : ((rd_T33 l0 x19_2).f0) < 0
        ·rw [if_pos c11] at H; have c11b0 := decide_eq_true c11; clear c11
         (first | rw [c11b0] | (simp only [i64_w, i32_w]; rw [c11b0]) | skip)
         have H' := xm H; clear H; have hcz12_0 := blkc4 BK104.out
         go_wp2
         go_meet
         case rel => exact ⟨_, (true), (xrf), H', ⟨by have := HJ1.out; have := HK2.out; first | omega | exact Nat.le_refl _⟩, ⟨xQ BK104⟩, ⟨xW HB⟩⟩
        ·rw [if_neg c11] at H; have c11b0 := decide_eq_false c11; clear c11
         (first | rw [c11b0] | (simp only [i64_w, i32_w]; rw [c11b0]) | skip)
         by_cases c13 : ((rd_T33 l0 x19_2).f0) > 40
         ·rw [if_pos c13] at H; have c13b0 := decide_eq_true c13; clear c13; have H' := xm H; clear H; have hcz14_0 := blkc4 BK104.out
          go_wp2
          go_meet
          case rel => exact ⟨_, (true), (xrf), H', ⟨by have := HJ1.out; have := HK2.out; first | omega | exact Nat.le_refl _⟩, ⟨xQ BK104⟩, ⟨xW HB⟩⟩
         ·rw [if_neg c13] at H; have c13b0 := decide_eq_false c13; clear c13
          by_cases c15 : ((rd_T33 l0 x19_2).f2) < (-20)
          ·rw [if_pos c15] at H; have c15b0 := decide_eq_true c15; clear c15; have H' := xm H; clear H; have hcz16_0 := blkc4 BK104.out
           go_wp2
           go_meet
           case rel => exact ⟨_, (true), (xrf), H', ⟨by have := HJ1.out; have := HK2.out; first | omega | exact Nat.le_refl _⟩, ⟨xQ BK104⟩, ⟨xW HB⟩⟩
          ·rw [if_neg c15] at H; have c15b0 := decide_eq_false c15; clear c15; have H' := xm H; clear H; have hcz17_0 := blkc4 BK104.out
           go_wp2
           go_meet
           case rel => exact ⟨_, (decide (((rd_T33 l0 x19_2).f2) > 20)), (xrf), H', ⟨by have := HJ1.out; have := HK2.out; first | omega | exact Nat.le_refl _⟩, ⟨xQ BK104⟩, ⟨xW HB⟩⟩
       case rest =>
        clear HC8; (try clear p1); (try clear q1); (try clear hx1); (try clear p2); (try clear p10); (try clear q10); (try clear hx10); (try clear hx103_0); (try clear hx103_1); (try clear hx103_2); (try clear hx103_3); (try clear p103); (try clear q103); obtain ⟨kq, x41_7, rfl, HA, HJ7, BK104, HB⟩ := hcut
        cases kq with
        | zero => exact absurd HA.out (by simp [swiss_Check.j2])
        | succ kj7 =>
         have H := HA.out; clear HA; simp only [swiss_Check.j2] at H
         by_cases c18 : x41_7 = true
         ·subst c18; rw [if_pos rfl] at H; obtain rfl := Option.some.inj H
          go_wp2
          go_ret; exact ⟨xer, xW HB⟩
         ·obtain rfl := Bool.eq_false_iff.mpr c18; rw [if_neg xF] at H
          by_cases c19 : (((rd_T33 l0 x19_2).f1).length : Int) > 20
          ·rw [if_pos c19] at H; have c19b0 := decide_eq_true c19; have c19b1 : decide (20 < ((rd_T33 l0 x19_2).f1).length) = true := decide_eq_true (by omega); clear c19; obtain rfl := Option.some.inj H; have hcz20_0 := blkc4 BK104.out
           go_wp2
           go_ret; exact ⟨xer, xW HB⟩
          ·rw [if_neg c19] at H; have c19b0 := decide_eq_false c19; have c19b1 : decide (20 < ((rd_T33 l0 x19_2).f1).length) = false := decide_eq_false (by omega); clear c19; have H' := xm H; clear H; have hcz21_0 := blkc4 BK104.out
           go_wp2
           go_loopg [49] kj7 (fun kq vs49 w' => ∃ (x49_4 : Int), vs49 = .int .i64 x49_4 ∧ Aside0 (swiss_Check.l1 kq l0 x19_2 l0 (l0.length : Int) x19_2 ((rd_T33 l0 x19_2).f1) (((rd_T33 l0 x19_2).f1).length : Int) x49_4 = some r) ∧ Aside0 (kq ≤ kj7) ∧ Aside0 (w'.heap[gb104]? = some (.cells #[.int .i64 ((rd_T33 l0 x19_2).f0), (.slice A103_1 ((rd_T33 l0 x19_2).f1).length c103_1), .int .i64 ((rd_T33 l0 x19_2).f2), .bool ((rd_T33 l0 x19_2).f3)] 33 (0, 0))) ∧ Aside0 (Below w.heap.size w w'))
           case atStart => exact ⟨(0), (xrf), H', ⟨Nat.le_refl _⟩, ⟨xK BK104⟩, ⟨xW HB⟩⟩
           case round =>
            clear H'; (try clear p1); (try clear q1); (try clear hx1); (try clear p2); (try clear p10); (try clear q10); (try clear hx10); (try clear hx103_0); (try clear hx103_1); (try clear hx103_2); (try clear hx103_3); (try clear p103); (try clear q103); obtain ⟨x49_4, rfl, HA, HK4, BK104, HB⟩ := hrel
            cases gk with
            | zero => exact absurd HA.out (by simp [swiss_Check.l1])
            | succ k4 =>
             have H := HA.out; clear HA; simp only [swiss_Check.l1] at H
             by_cases c22 : x49_4 < (((rd_T33 l0 x19_2).f1).length : Int)
             ·rw [if_pos c22] at H; have c22b0 := decide_eq_true c22; clear c22; obtain ⟨c23b0, H⟩ := xJ H; obtain ⟨c24b0, H⟩ := xJ H
              by_cases c25 : (rd ((rd_T33 l0 x19_2).f1) x49_4) < 0
              ·rw [if_pos c25] at H; have c25b0 := decide_eq_true c25; clear c25; obtain rfl := Option.some.inj H; have p105 : 0 ≤ (x49_4 : Int) := xO; have q105 : x49_4 < (((rd_T33 l0 x19_2).f1).length : Int) := xO; obtain ⟨ad105, e105, hx105_0⟩ := Kd.at_int HR103_1.out x49_4 p105 q105
               cases e105
               replace hx105_0 := xR HB hx105_0; replace p105 := eq_true p105; replace q105 := eq_true q105
               go_wp2
               go_ret; exact ⟨xer, xW HB⟩
              ·rw [if_neg c25] at H; have c25b0 := decide_eq_false c25; clear c25
               by_cases c26 : (rd ((rd_T33 l0 x19_2).f1) x49_4) ≥ (l0.length : Int)
               ·rw [if_pos c26] at H; have c26b0 := decide_eq_true c26; clear c26; obtain rfl := Option.some.inj H; have p105 : 0 ≤ (x49_4 : Int) := xO; have q105 : x49_4 < (((rd_T33 l0 x19_2).f1).length : Int) := xO; obtain ⟨ad105, e105, hx105_0⟩ := Kd.at_int HR103_1.out x49_4 p105 q105
                cases e105
                replace hx105_0 := xR HB hx105_0; replace p105 := eq_true p105; replace q105 := eq_true q105
                go_wp2
                go_ret; exact ⟨xer, xW HB⟩
               ·rw [if_neg c26] at H; have c26b0 := decide_eq_false c26; clear c26
                by_cases c27 : (rd ((rd_T33 l0 x19_2).f1) x49_4) = x19_2
                ·rw [if_pos c27] at H; have c27b0 := beq_iff_eq.mpr c27; have c27b1 := bne_eq_false_iff_eq.mpr c27; clear c27; obtain rfl := Option.some.inj H; have p105 : 0 ≤ (x49_4 : Int) := xO; have q105 : x49_4 < (((rd_T33 l0 x19_2).f1).length : Int) := xO; obtain ⟨ad105, e105, hx105_0⟩ := Kd.at_int HR103_1.out x49_4 p105 q105
                 cases e105
                 replace hx105_0 := xR HB hx105_0; replace p105 := eq_true p105; replace q105 := eq_true q105
                 go_wp2
                 go_ret; exact ⟨xer, xW HB⟩
                ·rw [if_neg c27] at H; have c27b0 := beq_eq_false_iff_ne.mpr c27; have c27b1 := bne_iff_ne.mpr c27; have H' := xm H; clear H; have p105 : 0 ≤ (x49_4 : Int) := xO; have q105 : x49_4 < (((rd_T33 l0 x19_2).f1).length : Int) := xO; obtain ⟨ad105, e105, hx105_0⟩ := Kd.at_int HR103_1.out x49_4 p105 q105
                 cases e105
                 replace hx105_0 := xR HB hx105_0; replace p105 := eq_true p105; replace q105 := eq_true q105
                 go_wp2
                 go_roundg k4
                 case measure => have := HJ1.out; have := HK2.out; have := HJ7.out; have := HK4.out; omega
                 case rel => exact ⟨(wrap64 (x49_4 + 1)), (xrf), H', ⟨by have := HJ1.out; have := HK2.out; have := HJ7.out; have := HK4.out; omega⟩, ⟨xK BK104⟩, ⟨xW HB⟩⟩
             ·rw [if_neg c22] at H; have c22b0 := decide_eq_false c22; clear c22; have H' := xm H; clear H
              go_wp2
              go_roundg k4
              case measure => have := HJ1.out; have := HK2.out; have := HJ7.out; have := HK4.out; omega
              case rel => exact ⟨(wrap64 (x19_2 + 1)), (xrf), H', ⟨by have := HJ1.out; have := HK2.out; have := HJ7.out; have := HK4.out; omega⟩, ⟨xW HB⟩⟩
      ·rw [if_neg c5] at H; have c5b0 := decide_eq_false c5; clear c5; have H' := xm H; clear H
       go_wp2
       go_loopg [70] k2 (fun kq vs70 w' => ∃ (x70_3 : Int), vs70 = .int .i64 x70_3 ∧ Aside0 (swiss_Check.l2 kq l0 (l0.length : Int) x70_3 = some r) ∧ Aside0 (kq ≤ k2) ∧ Aside0 (Below w.heap.size w w'))
       case atStart => exact ⟨(0), (xrf), H', ⟨Nat.le_refl _⟩, ⟨xW HB⟩⟩
       case round =>
        clear H'; (try clear p1); (try clear q1); (try clear hx1); (try clear p2); (try clear p6); (try clear p10); (try clear q10); (try clear hx10); (try clear hx103_0); (try clear hx103_1); (try clear hx103_2); (try clear hx103_3); (try clear hx105_0); (try clear p103); (try clear p105); (try clear q103); (try clear q105); obtain ⟨x70_3, rfl, HA, HK3, HB⟩ := hrel
        cases gk with
        | zero => exact absurd HA.out (by simp [swiss_Check.l2])
        | succ k3 =>
         have H := HA.out; clear HA; simp only [swiss_Check.l2] at H
         by_cases c28 : x70_3 < (l0.length : Int)
         ·rw [if_pos c28] at H; have c28b0 := decide_eq_true c28; clear c28; have H' := xm H; clear H
          go_wp2
          go_loopg [74] k3 (fun kq vs74 w' => ∃ (x74_4 : Int), vs74 = .int .i64 x74_4 ∧ Aside0 (swiss_Check.l3 kq l0 x70_3 (l0.length : Int) x70_3 x70_3 x74_4 = some r) ∧ Aside0 (kq ≤ k3) ∧ Aside0 (Below w.heap.size w w'))
          case atStart => exact ⟨(0), (xrf), H', ⟨Nat.le_refl _⟩, ⟨xW HB⟩⟩
          case round =>
           clear H'; (try clear p1); (try clear q1); (try clear hx1); (try clear p2); (try clear p6); (try clear p10); (try clear q10); (try clear hx10); (try clear hx103_0); (try clear hx103_1); (try clear hx103_2); (try clear hx103_3); (try clear hx105_0); (try clear p103); (try clear p105); (try clear q103); (try clear q105); obtain ⟨x74_4, rfl, HA, HK4, HB⟩ := hrel
           cases gk with
           | zero => exact absurd HA.out (by simp [swiss_Check.l3])
           | succ k4 =>
            have H := HA.out; clear HA; simp only [swiss_Check.l3] at H
            by_cases c29 : x74_4 < x70_3
            ·rw [if_pos c29] at H; have c29b0 := decide_eq_true c29; clear c29; obtain ⟨t106, A30, H⟩ := xH H; (try dsimp only at H); have DA30 := xm fun (W_ : World) (hb_ : Below w.heap.size w W_) => swiss_times.calls k4 _ _ l0 x70_3 x74_4 t106 W_ (Kd.C_below HR0.out hb_) HC0.out A30.out; obtain ⟨t107, A31, H⟩ := xH H; (try dsimp only at H)
             by_cases c32 : t106 = t107
             ·rw [if_pos c32] at H; have c32b0 := beq_iff_eq.mpr c32; have c32b1 := bne_eq_false_iff_eq.mpr c32; clear c32; obtain ⟨t108, A33, H⟩ := xH H; (try dsimp only at H)
              by_cases c34 : t108 > 1
              ·rw [if_pos c34] at H; have c34b0 := decide_eq_true c34; clear c34; obtain rfl := Option.some.inj H; go_wp2_with (first | ((with_reducible refine gate_callee (f := 30) rfl ?_); refine xL (some 80) Try.func30 #[.slice A0 l0.length c0, .int .i64 x70_3, .int .i64 x74_4] rfl ?_; (with_reducible refine (DA30.out _ ?sB).mono ?_); (case sB => exact xW HB); rintro e w' ⟨rfl, ⟨nd, rfl⟩⟩; refine ⟨_, rfl, ?_⟩) | ((with_reducible refine gate_callee (f := 30) rfl ?_); refine xL (some 84) Try.func30 #[.slice A0 l0.length c0, .int .i64 x74_4, .int .i64 x70_3] rfl ?_; (with_reducible refine (swiss_times.calls k4 _ _ l0 x74_4 x70_3 t107 _ ?side1 ?side2 A31.out).mono ?_); (case side1 => repeat (first | exact (Kd.C_below HR0.out (xW HB)) | (with_reducible refine Kd.C_alloc ?_ _) | (with_reducible refine Kd.C_drewN ?_ _) | (with_reducible refine Kd.C_drew ?_))); (case side2 => exact HC0.out); rintro e w' ⟨rfl, ⟨nd, rfl⟩⟩; refine ⟨_, rfl, ?_⟩) | ((with_reducible refine gate_callee (f := 30) rfl ?_); refine xL (some 89) Try.func30 #[.slice A0 l0.length c0, .int .i64 x70_3, .int .i64 x74_4] rfl ?_; (with_reducible refine (swiss_times.calls k4 _ _ l0 x70_3 x74_4 t108 _ ?side1 ?side2 A33.out).mono ?_); (case side1 => repeat (first | exact (Kd.C_below HR0.out (xW HB)) | (with_reducible refine Kd.C_alloc ?_ _) | (with_reducible refine Kd.C_drewN ?_ _) | (with_reducible refine Kd.C_drew ?_))); (case side2 => exact HC0.out); rintro e w' ⟨rfl, ⟨nd, rfl⟩⟩; refine ⟨_, rfl, ?_⟩)); go_ret; exact ⟨xer, xW HB⟩
              ·rw [if_neg c34] at H; have c34b0 := decide_eq_false c34; clear c34; have H' := xm H; clear H; go_wp2_with (first | ((with_reducible refine gate_callee (f := 30) rfl ?_); refine xL (some 80) Try.func30 #[.slice A0 l0.length c0, .int .i64 x70_3, .int .i64 x74_4] rfl ?_; (with_reducible refine (DA30.out _ ?sB).mono ?_); (case sB => exact xW HB); rintro e w' ⟨rfl, ⟨nd, rfl⟩⟩; refine ⟨_, rfl, ?_⟩) | ((with_reducible refine gate_callee (f := 30) rfl ?_); refine xL (some 84) Try.func30 #[.slice A0 l0.length c0, .int .i64 x74_4, .int .i64 x70_3] rfl ?_; (with_reducible refine (swiss_times.calls k4 _ _ l0 x74_4 x70_3 t107 _ ?side1 ?side2 A31.out).mono ?_); (case side1 => repeat (first | exact (Kd.C_below HR0.out (xW HB)) | (with_reducible refine Kd.C_alloc ?_ _) | (with_reducible refine Kd.C_drewN ?_ _) | (with_reducible refine Kd.C_drew ?_))); (case side2 => exact HC0.out); rintro e w' ⟨rfl, ⟨nd, rfl⟩⟩; refine ⟨_, rfl, ?_⟩) | ((with_reducible refine gate_callee (f := 30) rfl ?_); refine xL (some 89) Try.func30 #[.slice A0 l0.length c0, .int .i64 x70_3, .int .i64 x74_4] rfl ?_; (with_reducible refine (swiss_times.calls k4 _ _ l0 x70_3 x74_4 t108 _ ?side1 ?side2 A33.out).mono ?_); (case side1 => repeat (first | exact (Kd.C_below HR0.out (xW HB)) | (with_reducible refine Kd.C_alloc ?_ _) | (with_reducible refine Kd.C_drewN ?_ _) | (with_reducible refine Kd.C_drew ?_))); (case side2 => exact HC0.out); rintro e w' ⟨rfl, ⟨nd, rfl⟩⟩; refine ⟨_, rfl, ?_⟩)); go_roundg k4
               case measure => have := HJ1.out; have := HK2.out; have := HK3.out; have := HK4.out; omega
               case rel => exact ⟨(wrap64 (x74_4 + 1)), (xrf), H', ⟨by have := HJ1.out; have := HK2.out; have := HK3.out; have := HK4.out; omega⟩, ⟨xW HB⟩⟩
             ·rw [if_neg c32] at H; have c32b0 := beq_eq_false_iff_ne.mpr c32; have c32b1 := bne_iff_ne.mpr c32; obtain rfl := Option.some.inj H; go_wp2_with (first | ((with_reducible refine gate_callee (f := 30) rfl ?_); refine xL (some 80) Try.func30 #[.slice A0 l0.length c0, .int .i64 x70_3, .int .i64 x74_4] rfl ?_; (with_reducible refine (DA30.out _ ?sB).mono ?_); (case sB => exact xW HB); rintro e w' ⟨rfl, ⟨nd, rfl⟩⟩; refine ⟨_, rfl, ?_⟩) | ((with_reducible refine gate_callee (f := 30) rfl ?_); refine xL (some 84) Try.func30 #[.slice A0 l0.length c0, .int .i64 x74_4, .int .i64 x70_3] rfl ?_; (with_reducible refine (swiss_times.calls k4 _ _ l0 x74_4 x70_3 t107 _ ?side1 ?side2 A31.out).mono ?_); (case side1 => repeat (first | exact (Kd.C_below HR0.out (xW HB)) | (with_reducible refine Kd.C_alloc ?_ _) | (with_reducible refine Kd.C_drewN ?_ _) | (with_reducible refine Kd.C_drew ?_))); (case side2 => exact HC0.out); rintro e w' ⟨rfl, ⟨nd, rfl⟩⟩; refine ⟨_, rfl, ?_⟩)); go_ret; exact ⟨xer, xW HB⟩
            ·rw [if_neg c29] at H; have c29b0 := decide_eq_false c29; clear c29; have H' := xm H; clear H
             go_wp2
             go_roundg k4
             case measure => have := HJ1.out; have := HK2.out; have := HK3.out; have := HK4.out; omega
             case rel => exact ⟨(wrap64 (x70_3 + 1)), (xrf), H', ⟨by have := HJ1.out; have := HK2.out; have := HK3.out; have := HK4.out; omega⟩, ⟨xW HB⟩⟩
         ·rw [if_neg c28] at H; have c28b0 := decide_eq_false c28; clear c28; obtain rfl := Option.some.inj H
          go_wp2
          go_ret; exact ⟨xer, xW HB⟩

/-! ### swiss_cost: function 29 -/
def swiss_cost.f (l0 : List (S33)) (a1 : Int) (a2 : Int) : Option (Int) := if 0 ≤ a1 then (if a1 < (l0.length : Int) then (if 0 ≤ a2 then (if a2 < (l0.length : Int) then (some (wrap64 ((wrap64 ((wrap64 (100 * (wrap64 (((rd_T33 l0 a1).f0) - ((rd_T33 l0 a2).f0))))) * (wrap64 (((rd_T33 l0 a1).f0) - ((rd_T33 l0 a2).f0))))) + (wrap64 ((wrap64 (((rd_T33 l0 a1).f2) + ((rd_T33 l0 a2).f2))) * (wrap64 (((rd_T33 l0 a1).f2) + ((rd_T33 l0 a2).f2)))))))) else (none)) else (none)) else (none)) else (none)
theorem swiss_cost.calls (A0 : Option Addr) (c0 : Nat) (l0 : List (S33)) (a1 : Int) (a2 : Int) (r : Int) (w : World) (hr0 : Kd.C k33 w A0 l0.length l0) (hc0 : l0.length ≤ c0) (h : swiss_cost.f l0 a1 a2 = some r) :
    Calls Try.prog 29 #[.slice A0 l0.length c0, .int .i64 a1, .int .i64 a2] w fun e w' => e = .returned (.int .i64 r) ∧ Drawn0 w w' := by
 have HR0 := xm hr0; have HC0 := xm hc0; clear hr0 hc0; have H : (if 0 ≤ a1 then (if a1 < (l0.length : Int) then (if 0 ≤ a2 then (if a2 < (l0.length : Int) then (some (wrap64 ((wrap64 ((wrap64 (100 * (wrap64 (((rd_T33 l0 a1).f0) - ((rd_T33 l0 a2).f0))))) * (wrap64 (((rd_T33 l0 a1).f0) - ((rd_T33 l0 a2).f0))))) + (wrap64 ((wrap64 (((rd_T33 l0 a1).f2) + ((rd_T33 l0 a2).f2))) * (wrap64 (((rd_T33 l0 a1).f2) + ((rd_T33 l0 a2).f2)))))))) else (none)) else (none)) else (none)) else (none)) = some r := h; clear h; obtain ⟨c4b0, H⟩ := xJ H; obtain ⟨c5b0, H⟩ := xJ H; obtain ⟨c6b0, H⟩ := xJ H; obtain ⟨c7b0, H⟩ := xJ H; obtain rfl := Option.some.inj H; have p109 : 0 ≤ (a1 : Int) := xO; have q109 : a1 < (l0.length : Int) := xO; obtain ⟨ad109, A109_1, c109_1, e109, hx109_0, hx109_1, hx109_2, hx109_3, hl109_1, hi109_1⟩ := at_T33 HR0.out a1 p109 q109
 cases e109
 have HR109_1 := xm hi109_1; have HC109_1 := xm hl109_1; clear hi109_1 hl109_1; replace p109 := eq_true p109; replace q109 := eq_true q109; have p110 : 0 ≤ (a2 : Int) := xO; have q110 : a2 < (l0.length : Int) := xO; obtain ⟨ad110, A110_1, c110_1, e110, hx110_0, hx110_1, hx110_2, hx110_3, hl110_1, hi110_1⟩ := at_T33 HR0.out a2 p110 q110; obtain rfl : ad109 = ad110 := (by injection e110)
 have HR110_1 := xm hi110_1; have HC110_1 := xm hl110_1; clear hi110_1 hl110_1; replace p110 := eq_true p110; replace q110 := eq_true q110; have p111 : 0 ≤ (a1 : Int) := xO; have q111 : a1 < (l0.length : Int) := xO; obtain ⟨ad111, A111_1, c111_1, e111, hx111_0, hx111_1, hx111_2, hx111_3, hl111_1, hi111_1⟩ := at_T33 HR0.out a1 p111 q111; obtain rfl : ad109 = ad111 := (by injection e111)
 have HR111_1 := xm hi111_1; have HC111_1 := xm hl111_1; clear hi111_1 hl111_1; replace p111 := eq_true p111; replace q111 := eq_true q111; have ea_ := Option.some.inj (hx109_1.symm.trans hx111_1)
 injection ea_ with ea_ en_ ec_
 subst ea_; subst ec_; clear en_; have p112 : 0 ≤ (a2 : Int) := xO; have q112 : a2 < (l0.length : Int) := xO; obtain ⟨ad112, A112_1, c112_1, e112, hx112_0, hx112_1, hx112_2, hx112_3, hl112_1, hi112_1⟩ := at_T33 HR0.out a2 p112 q112; obtain rfl : ad109 = ad112 := (by injection e112)
 have HR112_1 := xm hi112_1; have HC112_1 := xm hl112_1; clear hi112_1 hl112_1; replace p112 := eq_true p112; replace q112 := eq_true q112; have ea_ := Option.some.inj (hx110_1.symm.trans hx112_1)
 injection ea_ with ea_ en_ ec_
 subst ea_; subst ec_; clear en_; go_enter Try.func29, Try.ntmps29
 go_wp2
 repeat (go_quiet (fail); try go_wp2)
 go_ret; exact ⟨xrf, by repeat (first | exact Drawn0.refl _ | apply Drawn0.step)⟩

end Go.Proofs.Ytemfkhafkhkffaa.PSwissPairs
