-- Printed by a program of this claim's writer (wip/ext): an extension of the kit's print.
import Derived.Test.YtemfkhafkhkffaaPSwissPairsx0
import Derived.Test.YtemfkhafkhkffaaPSwissPairsx2
namespace Go.Proofs.Ytemfkhafkhkffaa.PSwissPairs
open Go.RowKit Go.Proofs.YtemfkhafkhkffaaW.PrintWords Go.Proofs.YtemfkhafkhkffaaW.PrintLast Go.Proofs.YtemfkhafkhkffaaW.PrintMore
set_option maxHeartbeats 8000000
set_option maxRecDepth 100000
attribute [local go_sem] max2_int min2_int max_two min_two max_three min_three max_four min_four   -- for this text's walks alone
set_option linter.unusedVariables false
set_option linter.unusedSimpArgs false

/-! ### gamehallref3_SwissFault: function 7 -/
mutual
def gamehallref3_SwissFault.j0 : Nat → List (S33) → Bool → Option (Int)
  | 0, _, _ => none
  | k + 1, x0, x17 => if x17 = true then (some 2) else (if 64 ≤ 35184372088832 then (gamehallref3_SwissFault.l0 k x0 (List.replicate 64 0) x0 (x0.length : Int) 0) else (none))
def gamehallref3_SwissFault.l0 : Nat → List (S33) → List Int → List (S33) → Int → Int → Option (Int)
  | 0, _, _, _, _, _ => none
  | k + 1, x0, x3, x19, x20, x21 => if x21 < x20 then (if 0 ≤ x21 then (if x21 < (x19.length : Int) then (if ((rd_T33 x19 x21).f0) < 0 then (gamehallref3_SwissFault.j2 k x0 x3 x21 x19 x20 x21 true ((rd_T33 x19 x21).f0) ((rd_T33 x19 x21).f1) ((rd_T33 x19 x21).f2) ((rd_T33 x19 x21).f3)) else (if ((rd_T33 x19 x21).f0) > 40 then (gamehallref3_SwissFault.j2 k x0 x3 x21 x19 x20 x21 true ((rd_T33 x19 x21).f0) ((rd_T33 x19 x21).f1) ((rd_T33 x19 x21).f2) ((rd_T33 x19 x21).f3)) else (if ((rd_T33 x19 x21).f2) < (-20) then (gamehallref3_SwissFault.j2 k x0 x3 x21 x19 x20 x21 true ((rd_T33 x19 x21).f0) ((rd_T33 x19 x21).f1) ((rd_T33 x19 x21).f2) ((rd_T33 x19 x21).f3)) else (gamehallref3_SwissFault.j2 k x0 x3 x21 x19 x20 x21 (decide (((rd_T33 x19 x21).f2) > 20)) ((rd_T33 x19 x21).f0) ((rd_T33 x19 x21).f1) ((rd_T33 x19 x21).f2) ((rd_T33 x19 x21).f3))))) else (none)) else (none)) else (gamehallref3_SwissFault.l2 k x3 (x0.length : Int) 0)
def gamehallref3_SwissFault.j2 : Nat → List (S33) → List Int → Int → List (S33) → Int → Int → Bool → Int → List Int → Int → Bool → Option (Int)
  | 0, _, _, _, _, _, _, _, _, _, _, _ => none
  | k + 1, x0, x3, x4, x19, x20, x21, x43, z133a, z133b, z133c, z133d => if x43 = true then (some 4) else (if (z133b.length : Int) > 20 then (some 2) else (gamehallref3_SwissFault.l1 k x0 x3 x4 x19 x20 x21 z133b (z133b.length : Int) 0))
def gamehallref3_SwissFault.l1 : Nat → List (S33) → List Int → Int → List (S33) → Int → Int → List Int → Int → Int → Option (Int)
  | 0, _, _, _, _, _, _, _, _, _ => none
  | k + 1, x0, x3, x4, x19, x20, x21, x49, x50, x51 => if x51 < x50 then (if 0 ≤ x51 then (if x51 < (x49.length : Int) then (if (rd x49 x51) < 0 then (some 3) else (if (rd x49 x51) ≥ (x0.length : Int) then (some 3) else (if (rd x49 x51) = x4 then (some 3) else (if 0 ≤ (wrap64 ((wrap64 (8 * x4)) + (rd x49 x51))) then (if (wrap64 ((wrap64 (8 * x4)) + (rd x49 x51))) < (x3.length : Int) then (gamehallref3_SwissFault.l1 k x0 (x3.set ((wrap64 ((wrap64 (8 * x4)) + (rd x49 x51))) : Int).toNat (wrap64 ((rd x3 (wrap64 ((wrap64 (8 * x4)) + (rd x49 x51)))) + 1))) x4 x19 x20 x21 x49 x50 (wrap64 (x51 + 1))) else (none)) else (none))))) else (none)) else (none)) else (gamehallref3_SwissFault.l0 k x0 x3 x19 x20 (wrap64 (x21 + 1)))
def gamehallref3_SwissFault.l2 : Nat → List Int → Int → Int → Option (Int)
  | 0, _, _, _ => none
  | k + 1, x3, x80, x81 => if x81 < x80 then (gamehallref3_SwissFault.l3 k x3 x81 x80 x81 x81 0) else (some 0)
def gamehallref3_SwissFault.l3 : Nat → List Int → Int → Int → Int → Int → Int → Option (Int)
  | 0, _, _, _, _, _, _ => none
  | k + 1, x3, x8, x80, x81, x84, x85 => if x85 < x84 then (if 0 ≤ (wrap64 ((wrap64 (8 * x8)) + x85)) then (if (wrap64 ((wrap64 (8 * x8)) + x85)) < (x3.length : Int) then (if 0 ≤ (wrap64 ((wrap64 (8 * x85)) + x8)) then (if (wrap64 ((wrap64 (8 * x85)) + x8)) < (x3.length : Int) then (if (rd x3 (wrap64 ((wrap64 (8 * x8)) + x85))) = (rd x3 (wrap64 ((wrap64 (8 * x85)) + x8))) then (if (rd x3 (wrap64 ((wrap64 (8 * x8)) + x85))) > 1 then (some 7) else (gamehallref3_SwissFault.l3 k x3 x8 x80 x81 x84 (wrap64 (x85 + 1)))) else (some 3)) else (none)) else (none)) else (none)) else (none)) else (gamehallref3_SwissFault.l2 k x3 x80 (wrap64 (x81 + 1)))
end
def gamehallref3_SwissFault.f (k : Nat) (l0 : List (S33)) : Option (Int) := if (l0.length : Int) < 2 then (gamehallref3_SwissFault.j0 k l0 true) else (gamehallref3_SwissFault.j0 k l0 (decide ((l0.length : Int) > 8)))
theorem gamehallref3_SwissFault.mono_l : ∀ k, LM (LM (LeO)) (gamehallref3_SwissFault.j0 k) (gamehallref3_SwissFault.j0 (k + 1)) ∧ L5 (LeO) (gamehallref3_SwissFault.l0 k) (gamehallref3_SwissFault.l0 (k + 1)) ∧ L10 (LM (LeO)) (gamehallref3_SwissFault.j2 k) (gamehallref3_SwissFault.j2 (k + 1)) ∧ L5 (LM (LM (LM (LM (LeO))))) (gamehallref3_SwissFault.l1 k) (gamehallref3_SwissFault.l1 (k + 1)) ∧ LM (LM (LM (LeO))) (gamehallref3_SwissFault.l2 k) (gamehallref3_SwissFault.l2 (k + 1)) ∧ L5 (LM (LeO)) (gamehallref3_SwissFault.l3 k) (gamehallref3_SwissFault.l3 (k + 1))
  | 0 => by refine ⟨?_, ?_, ?_, ?_, ?_, ?_⟩ <;> (repeat (first | exact LeO.none _ | intro _))
  | k + 1 => by
    obtain ⟨ih0, ih1, ih2, ih3, ih4, ih5⟩ := gamehallref3_SwissFault.mono_l k; refine ⟨?_, ?_, ?_, ?_, ?_, ?_⟩ <;> ((repeat (first | (with_reducible refine LeO.st ?_) | intro _)); constructor; (first | unfold gamehallref3_SwissFault.j0 | unfold gamehallref3_SwissFault.l0 | unfold gamehallref3_SwissFault.j2 | unfold gamehallref3_SwissFault.l1 | unfold gamehallref3_SwissFault.l2 | unfold gamehallref3_SwissFault.l3); repeat' first | (with_reducible first | apply ih0 | apply ih1 | apply ih2 | apply ih3 | apply ih4 | apply ih5 | exact LeO.refl _ | exact LeO.none _ | refine LeO.ite ?_ ?_ | refine LeO.bind ?_ (fun _ => ?_)) | apply ih0 | apply ih1 | apply ih2 | apply ih3 | apply ih4 | apply ih5 | exact LeO.none _ | refine LeO.ite ?_ ?_ | refine LeO.bind ?_ (fun _ => ?_))
theorem gamehallref3_SwissFault.mono : ∀ a0 k, LeO (gamehallref3_SwissFault.f k a0) (gamehallref3_SwissFault.f (k + 1) a0) := by
  intros; rename_i k; obtain ⟨ih0, ih1, ih2, ih3, ih4, ih5⟩ := gamehallref3_SwissFault.mono_l k
  unfold gamehallref3_SwissFault.f
  repeat' first | (with_reducible first | apply ih0 | apply ih1 | apply ih2 | apply ih3 | apply ih4 | apply ih5 | exact LeO.refl _ | exact LeO.none _ | refine LeO.ite ?_ ?_ | refine LeO.bind ?_ (fun _ => ?_)) | apply ih0 | apply ih1 | apply ih2 | apply ih3 | apply ih4 | apply ih5 | exact LeO.none _ | refine LeO.ite ?_ ?_ | refine LeO.bind ?_ (fun _ => ?_)
theorem gamehallref3_SwissFault.calls (k : Nat) (A0 : Option Addr) (c0 : Nat) (l0 : List (S33)) (r : Int) (w : World) (hr0 : Kd.C k33 w A0 l0.length l0) (hc0 : l0.length ≤ c0) (h : gamehallref3_SwissFault.f k l0 = some r) :
    Calls Try.prog 7 #[.slice A0 l0.length c0] w fun e w' => e = .returned (.int .i64 r) ∧ Below w.heap.size w w' := by
 have hu33 := Try.underlying33; have HR0 := xm hr0; have HC0 := xm hc0; clear hr0 hc0; have HB := xm (Below.refl w.heap.size w); have hss_ := @isSome_setCell; have H : (if (l0.length : Int) < 2 then (gamehallref3_SwissFault.j0 k l0 true) else (gamehallref3_SwissFault.j0 k l0 (decide ((l0.length : Int) > 8)))) = some r := h; clear h; have HC2 := xm H; clear H; go_enter Try.func7, Try.ntmps7
 go_upto_region 1 with (fail)
 go_cut [17] (fun vs17 wc => ∃ (kq : Nat) (x17_1 : Bool), vs17 = .bool x17_1 ∧ Aside0 (gamehallref3_SwissFault.j0 kq l0 x17_1 = some r) ∧ Aside0 (kq ≤ k) ∧ Aside0 (Below w.heap.size w wc))
 case first =>
  have H := HC2.out; clear HC2
  by_cases c3 : (l0.length : Int) < 2
  ·rw [if_pos c3] at H; have c3b0 := decide_eq_true c3; have c3b1 : decide (l0.length < 2) = true := decide_eq_true (by omega); clear c3
   (first | rw [c3b0] | (simp only [i64_w, i32_w]; rw [c3b0]) | skip)
   have H' := xm H; clear H
   go_wp2
   go_meet
   case rel => exact ⟨_, (true), (xrf), H', ⟨by first | omega | exact Nat.le_refl _⟩, ⟨xW HB⟩⟩
  ·rw [if_neg c3] at H; have c3b0 := decide_eq_false c3; have c3b1 : decide (l0.length < 2) = false := decide_eq_false (by omega); clear c3
   (first | rw [c3b0] | (simp only [i64_w, i32_w]; rw [c3b0]) | skip)
   have H' := xm H; clear H
   go_wp2
   go_meet
   case rel => exact ⟨_, (decide ((l0.length : Int) > 8)), (xrf), H', ⟨by first | omega | exact Nat.le_refl _⟩, ⟨xW HB⟩⟩
 case rest =>
  clear HC2; (try clear p2); obtain ⟨kq, x17_1, rfl, HA, HJ1, HB⟩ := hcut
  cases kq with
  | zero => exact absurd HA.out (by simp [gamehallref3_SwissFault.j0])
  | succ kj1 =>
   have H := HA.out; clear HA; simp only [gamehallref3_SwissFault.j0] at H
   by_cases c4 : x17_1 = true
   ·subst c4; rw [if_pos rfl] at H; obtain rfl := Option.some.inj H
    go_wp2
    go_ret; exact ⟨xer, xW HB⟩
   ·obtain rfl := Bool.eq_false_iff.mpr c4; rw [if_neg xF] at H
    by_cases c5 : 64 ≤ 35184372088832
    ·rw [if_pos c5] at H; have c5b0 := eq_true c5; have c5b1 := decide_eq_true c5; clear c5; obtain ⟨y128, hy128⟩ : ∃ y_ : List Int, y_ = (List.replicate 64 0) := ⟨_, rfl⟩
     replace H : (gamehallref3_SwissFault.l0 kj1 l0 y128 l0 (l0.length : Int) 0) = some r := by first | (rw [hy128]; with_reducible exact H) | (have H2_ := (Option.bind_some _ _).symm.trans H; rw [hy128]; with_reducible exact H2_) | (have H2_ := (Option.bind_some _ _).symm.trans H; with_reducible exact H2_) | with_reducible exact H | (rw [hy128]; exact H) | exact H
     have Ny128 := xm hy128; clear hy128; have H' := xm H; clear H; go_wp2_with (first | ((with_reducible refine gate_dst (N := 18) rfl ?_); (try (refine gate_guard (by rfl) ?_; dsimp only)); refine Kd.R_make (Kd.int .i64) _ 3 rfl (N := 18) rfl 31 _ _ rfl 64 rfl rfl Try.underlying31 (.int .i64 0) 8 info3 rfl (by decide) (by omega) 0 (ok := fun _ => True) (okp := fun _ => True) rfl (fun _ hk => hk) trivial (by omega) (by omega) (Below.refl _ _) (Nat.le_refl _) ?_; intro v129 w6 ho7 hb hg_ hnew_; clear hg_ hnew_; (first | rw [← Ny128.out] at ho7 | (simp only [Int.reduceToNat] at ho7; rw [← Ny128.out] at ho7)); have HO130 := xm (Kd.R_lower ho7 (below_size (xW HB))); replace HB := xS HB hb; clear hb ho7))
     go_loopg [21] kj1 (fun kq vs21 w' => ∃ (x3_2 : List Int) (x21_2 : Int), vs21 = .int .i64 x21_2 ∧ Aside0 (gamehallref3_SwissFault.l0 kq l0 x3_2 l0 (l0.length : Int) x21_2 = some r) ∧ Aside0 (kq ≤ kj1) ∧ Aside0 (Kd.R (Kd.int .i64) 3 w' w.heap.size (fun _ => True) v129 x3_2) ∧ Aside0 (Below w.heap.size w w'))
     case atStart => exact ⟨(y128), (0), (xrf), H', ⟨Nat.le_refl _⟩, ⟨yR HO130⟩, ⟨xW HB⟩⟩
     case round =>
      clear H'; (try clear p2); obtain ⟨x3_2, x21_2, rfl, HA, HK2, HO_3, HB⟩ := hrel
      cases gk with
      | zero => exact absurd HA.out (by simp [gamehallref3_SwissFault.l0])
      | succ k2 =>
       have H := HA.out; clear HA; simp only [gamehallref3_SwissFault.l0] at H
       by_cases c8 : x21_2 < (l0.length : Int)
       ·rw [if_pos c8] at H; have c8b0 := decide_eq_true c8; clear c8; obtain ⟨c9b0, H⟩ := xJ H; obtain ⟨c10b0, H⟩ := xJ H; have HC11 := xm H; clear H; have p131 : 0 ≤ (x21_2 : Int) := xO; have q131 : x21_2 < (l0.length : Int) := xO; obtain ⟨ad131, A131_1, c131_1, e131, hx131_0, hx131_1, hx131_2, hx131_3, hl131_1, hi131_1⟩ := at_T33 HR0.out x21_2 p131 q131
        cases e131
        replace hx131_0 := xR HB hx131_0; replace hx131_1 := xR HB hx131_1; replace hx131_2 := xR HB hx131_2; replace hx131_3 := xR HB hx131_3; have HR131_1 := xm hi131_1; have HC131_1 := xm hl131_1; clear hi131_1 hl131_1; replace p131 := eq_true p131; replace q131 := eq_true q131
        go_upto_region 7 with (first | ((with_reducible refine gate_dst (N := 5) rfl ?_); (try (refine gate_guard (by rfl) ?_; dsimp only)); refine xG (cs := #[.int .i64 0, .slice none 0 0, .int .i64 0, .bool false]) (t := 33) ?_; intro gb132 hg w12 hbox hb; have BK132 := xm (hbox); have GW132 := xZ HB hg; have GE132 := xZ HB hg; replace HO_3 := xm (Kd.R_below (yR HO_3) hb); replace HB := xS HB hb; clear hb hbox hg; have hcz13_0 := blkc4 BK132.out))
        (try simp only [Act.put, List.setIfInBounds_toArray, List.set_cons_zero, List.set_cons_succ])
        go_cut [43] (fun vs43 wc => ∃ (kq : Nat) (x43_10 : Bool), vs43 = .bool x43_10 ∧ Aside0 (gamehallref3_SwissFault.j2 kq l0 x3_2 x21_2 l0 (l0.length : Int) x21_2 x43_10 ((rd_T33 l0 x21_2).f0) ((rd_T33 l0 x21_2).f1) ((rd_T33 l0 x21_2).f2) ((rd_T33 l0 x21_2).f3) = some r) ∧ Aside0 (kq ≤ k2) ∧ Aside0 (Kd.R (Kd.int .i64) 3 wc w.heap.size (fun _ => True) v129 x3_2) ∧ Aside0 (wc.heap[gb132]? = some (.cells #[.int .i64 ((rd_T33 l0 x21_2).f0), (.slice A131_1 ((rd_T33 l0 x21_2).f1).length c131_1), .int .i64 ((rd_T33 l0 x21_2).f2), .bool ((rd_T33 l0 x21_2).f3)] 33 (0, 0))) ∧ Aside0 (Below w.heap.size w wc))
        case first =>
         have H := HC11.out; clear HC11
         by_cases c14 : ((rd_T33 l0 x21_2).f0) < 0
         ·rw [if_pos c14] at H; have c14b0 := decide_eq_true c14; clear c14
          (first | rw [c14b0] | (simp only [i64_w, i32_w]; rw [c14b0]) | skip)
          have H' := xm H; clear H; have hcz15_0 := blkc4 BK132.out
          go_wp2
          go_meet
          case rel => exact ⟨_, (true), (xrf), H', ⟨by have := HJ1.out; have := HK2.out; first | omega | exact Nat.le_refl _⟩, ⟨yQ HO_3 BK132⟩, ⟨xQ BK132⟩, ⟨xW HB⟩⟩
         ·rw [if_neg c14] at H; have c14b0 := decide_eq_false c14; clear c14
          (first | rw [c14b0] | (simp only [i64_w, i32_w]; rw [c14b0]) | skip)
          by_cases c16 : ((rd_T33 l0 x21_2).f0) > 40
          ·rw [if_pos c16] at H; have c16b0 := decide_eq_true c16; clear c16; have H' := xm H; clear H; have hcz17_0 := blkc4 BK132.out
           go_wp2
           go_meet
           case rel => exact ⟨_, (true), (xrf), H', ⟨by have := HJ1.out; have := HK2.out; first | omega | exact Nat.le_refl _⟩, ⟨yQ HO_3 BK132⟩, ⟨xQ BK132⟩, ⟨xW HB⟩⟩
          ·rw [if_neg c16] at H; have c16b0 := decide_eq_false c16; clear c16
           by_cases c18 : ((rd_T33 l0 x21_2).f2) < (-20)
           ·rw [if_pos c18] at H; have c18b0 := decide_eq_true c18; clear c18; have H' := xm H; clear H; have hcz19_0 := blkc4 BK132.out
            go_wp2
            go_meet
            case rel => exact ⟨_, (true), (xrf), H', ⟨by have := HJ1.out; have := HK2.out; first | omega | exact Nat.le_refl _⟩, ⟨yQ HO_3 BK132⟩, ⟨xQ BK132⟩, ⟨xW HB⟩⟩
           ·rw [if_neg c18] at H; have c18b0 := decide_eq_false c18; clear c18; have H' := xm H; clear H; have hcz20_0 := blkc4 BK132.out
            go_wp2
            go_meet
            case rel => exact ⟨_, (decide (((rd_T33 l0 x21_2).f2) > 20)), (xrf), H', ⟨by have := HJ1.out; have := HK2.out; first | omega | exact Nat.le_refl _⟩, ⟨yQ HO_3 BK132⟩, ⟨xQ BK132⟩, ⟨xW HB⟩⟩
        case rest =>
         clear HC11; (try clear p1); (try clear q1); (try clear hx1); (try clear p2); (try clear p13); (try clear q13); (try clear hx13); (try clear hx131_0); (try clear hx131_1); (try clear hx131_2); (try clear hx131_3); (try clear p131); (try clear q131); obtain ⟨kq, x43_10, rfl, HA, HJ10, HO_3, BK132, HB⟩ := hcut
         cases kq with
         | zero => exact absurd HA.out (by simp [gamehallref3_SwissFault.j2])
         | succ kj10 =>
          have H := HA.out; clear HA; simp only [gamehallref3_SwissFault.j2] at H
          by_cases c21 : x43_10 = true
          ·subst c21; rw [if_pos rfl] at H; obtain rfl := Option.some.inj H
           go_wp2
           go_ret; exact ⟨xer, xW HB⟩
          ·obtain rfl := Bool.eq_false_iff.mpr c21; rw [if_neg xF] at H
           by_cases c22 : (((rd_T33 l0 x21_2).f1).length : Int) > 20
           ·rw [if_pos c22] at H; have c22b0 := decide_eq_true c22; have c22b1 : decide (20 < ((rd_T33 l0 x21_2).f1).length) = true := decide_eq_true (by omega); clear c22; obtain rfl := Option.some.inj H; have hcz23_0 := blkc4 BK132.out
            go_wp2
            go_ret; exact ⟨xer, xW HB⟩
           ·rw [if_neg c22] at H; have c22b0 := decide_eq_false c22; have c22b1 : decide (20 < ((rd_T33 l0 x21_2).f1).length) = false := decide_eq_false (by omega); clear c22; have H' := xm H; clear H; have hcz24_0 := blkc4 BK132.out
            go_wp2
            go_loopg [51] kj10 (fun kq vs51 w' => ∃ (x3_4 : List Int) (x51_4 : Int), vs51 = .int .i64 x51_4 ∧ Aside0 (gamehallref3_SwissFault.l1 kq l0 x3_4 x21_2 l0 (l0.length : Int) x21_2 ((rd_T33 l0 x21_2).f1) (((rd_T33 l0 x21_2).f1).length : Int) x51_4 = some r) ∧ Aside0 (kq ≤ kj10) ∧ Aside0 (Kd.R (Kd.int .i64) 3 w' w.heap.size (fun _ => True) v129 x3_4) ∧ Aside0 (w'.heap[gb132]? = some (.cells #[.int .i64 ((rd_T33 l0 x21_2).f0), (.slice A131_1 ((rd_T33 l0 x21_2).f1).length c131_1), .int .i64 ((rd_T33 l0 x21_2).f2), .bool ((rd_T33 l0 x21_2).f3)] 33 (0, 0))) ∧ Aside0 (Below w.heap.size w w'))
            case atStart => exact ⟨(x3_2), (0), (xrf), H', ⟨Nat.le_refl _⟩, ⟨yR HO_3⟩, ⟨xK BK132⟩, ⟨xW HB⟩⟩
            case round =>
             clear H'; (try clear p1); (try clear q1); (try clear hx1); (try clear p2); (try clear p13); (try clear q13); (try clear hx13); (try clear hx131_0); (try clear hx131_1); (try clear hx131_2); (try clear hx131_3); (try clear p131); (try clear q131); obtain ⟨x3_4, x51_4, rfl, HA, HK4, HO_3, BK132, HB⟩ := hrel
             cases gk with
             | zero => exact absurd HA.out (by simp [gamehallref3_SwissFault.l1])
             | succ k4 =>
              have H := HA.out; clear HA; simp only [gamehallref3_SwissFault.l1] at H
              by_cases c25 : x51_4 < (((rd_T33 l0 x21_2).f1).length : Int)
              ·rw [if_pos c25] at H; have c25b0 := decide_eq_true c25; clear c25; obtain ⟨c26b0, H⟩ := xJ H; obtain ⟨c27b0, H⟩ := xJ H
               by_cases c28 : (rd ((rd_T33 l0 x21_2).f1) x51_4) < 0
               ·rw [if_pos c28] at H; have c28b0 := decide_eq_true c28; clear c28; obtain rfl := Option.some.inj H; have p133 : 0 ≤ (x51_4 : Int) := xO; have q133 : x51_4 < (((rd_T33 l0 x21_2).f1).length : Int) := xO; obtain ⟨ad133, e133, hx133_0⟩ := Kd.at_int HR131_1.out x51_4 p133 q133
                cases e133
                replace hx133_0 := xR HB hx133_0; replace p133 := eq_true p133; replace q133 := eq_true q133
                go_wp2
                go_ret; exact ⟨xer, xW HB⟩
               ·rw [if_neg c28] at H; have c28b0 := decide_eq_false c28; clear c28
                by_cases c29 : (rd ((rd_T33 l0 x21_2).f1) x51_4) ≥ (l0.length : Int)
                ·rw [if_pos c29] at H; have c29b0 := decide_eq_true c29; clear c29; obtain rfl := Option.some.inj H; have p133 : 0 ≤ (x51_4 : Int) := xO; have q133 : x51_4 < (((rd_T33 l0 x21_2).f1).length : Int) := xO; obtain ⟨ad133, e133, hx133_0⟩ := Kd.at_int HR131_1.out x51_4 p133 q133
                 cases e133
                 replace hx133_0 := xR HB hx133_0; replace p133 := eq_true p133; replace q133 := eq_true q133
                 go_wp2
                 go_ret; exact ⟨xer, xW HB⟩
                ·rw [if_neg c29] at H; have c29b0 := decide_eq_false c29; clear c29
                 by_cases c30 : (rd ((rd_T33 l0 x21_2).f1) x51_4) = x21_2
                 ·rw [if_pos c30] at H; have c30b0 := beq_iff_eq.mpr c30; have c30b1 := bne_eq_false_iff_eq.mpr c30; clear c30; obtain rfl := Option.some.inj H; have p133 : 0 ≤ (x51_4 : Int) := xO; have q133 : x51_4 < (((rd_T33 l0 x21_2).f1).length : Int) := xO; obtain ⟨ad133, e133, hx133_0⟩ := Kd.at_int HR131_1.out x51_4 p133 q133
                  cases e133
                  replace hx133_0 := xR HB hx133_0; replace p133 := eq_true p133; replace q133 := eq_true q133
                  go_wp2
                  go_ret; exact ⟨xer, xW HB⟩
                 ·rw [if_neg c30] at H; have c30b0 := beq_eq_false_iff_ne.mpr c30; have c30b1 := bne_iff_ne.mpr c30; obtain ⟨ji31, hji31⟩ : ∃ j_ : Int, (wrap64 ((wrap64 (8 * x21_2)) + (rd ((rd_T33 l0 x21_2).f1) x51_4))) = j_ := ⟨_, rfl⟩
                  (first | rw [hji31] at H | simp only [hji31] at H)
                  have hji31w : (IntKind.i64.wrap ((wrap64 (8 * x21_2)) + (rd ((rd_T33 l0 x21_2).f1) x51_4))) = ji31 := (i64_w _).trans hji31; obtain ⟨c32b0, H⟩ := xJ H; obtain ⟨c33b0, H⟩ := xJ H; obtain ⟨y135, hy135⟩ : ∃ y_ : List Int, y_ = (x3_4.set ((ji31) : Int).toNat (wrap64 ((rd x3_4 (ji31)) + 1))) := ⟨_, rfl⟩
                  replace H : (gamehallref3_SwissFault.l1 k4 l0 y135 x21_2 l0 (l0.length : Int) x21_2 ((rd_T33 l0 x21_2).f1) (((rd_T33 l0 x21_2).f1).length : Int) (wrap64 (x51_4 + 1))) = some r := by first | (rw [hy135]; with_reducible exact H) | (have H2_ := (Option.bind_some _ _).symm.trans H; rw [hy135]; with_reducible exact H2_) | (have H2_ := (Option.bind_some _ _).symm.trans H; with_reducible exact H2_) | with_reducible exact H | (rw [hy135]; exact H) | exact H
                  have Ny135 := xm hy135; clear hy135; have H' := xm H; clear H; have p133 : 0 ≤ (x51_4 : Int) := xO; have q133 : x51_4 < (((rd_T33 l0 x21_2).f1).length : Int) := xO; obtain ⟨ad133, e133, hx133_0⟩ := Kd.at_int HR131_1.out x51_4 p133 q133
                  cases e133
                  replace hx133_0 := xR HB hx133_0; replace p133 := eq_true p133; replace q133 := eq_true q133; obtain ⟨Ao35, co35, eo35⟩ := Kd.R_slice HO_3.out; subst eo35; have p134 : 0 ≤ ((ji31) : Int) := xO; have q134 : (ji31) < (x3_4.length : Int) := xO; obtain ⟨ad134, e134, hx134_0⟩ := Kd.at_int (Kd.R_reads' HO_3.out).2.2 (ji31) p134 q134
                  cases e134
                  replace p134 := eq_true p134; replace q134 := eq_true q134; have p34 : 0 ≤ ((ji31) : Int) := xO; have q34 : ((ji31) : Int) < ((x3_4.length : Int) : Int) := xO; obtain ⟨go34, co34, eo34, gb34, gl34, cl34, HG34⟩ := Kd.R_form HO_3.out (by omega)
                  (first | cases eo34 | (injection eo34 with ea_ en_ ec_; (first | subst ea_ | (injection ea_ with ea_; subst ea_)); subst ec_; clear en_))
                  have GB34 := xm gb34; have GG34 := xm HG34; clear gb34 gl34 HG34
                  (first | simp only [add_plain] at hx134_0 | skip)
                  obtain ⟨hx34_0, hf34_0⟩ := Kd.R_celln 0 HO_3.out ((ji31) : Int) p34 q34; replace p34 := eq_true p34; replace q34 := eq_true q34; have HP36 := Kd.R_putg HO_3.out ((ji31) : Int) (wrap64 ((rd x3_4 (ji31)) + 1)); go_wp2_with (first | ((with_reducible refine gate_store (t := 3) (p := 76) rfl ?_); (try (rw [drewN_self wr]; generalize hq_ : World.drewN wr _ = wr; have n0_ := xm (Kd.R_at hq_ HO_3.out); have n1_ := xm (blk_at hq_ BK132.out); have n2_ := xm (below_at hq_ HB.out); clear hq_ HO_3 BK132 HB; have HO_3 := n0_; have BK132 := n1_; have HB := n2_; clear n0_ n1_ n2_; (try (have HP36 := Kd.R_putg HO_3.out ((ji31) : Int) (wrap64 ((rd x3_4 (ji31)) + 1)))))); refine store_event (t := 3) (p := 76) (v := ?vo_w37) (w1 := (wr.setCell ⟨go34, ((ji31) : Int).toNat, none⟩ (.int .i64 (wrap64 ((rd x3_4 (ji31)) + 1))))) ?hg ?ho ?hn ?hr ?_; (case ho => rfl); (case hg => rfl); (case hn => rfl); (case hr => first | (go_simp; done) | (go_simp; rfl)); intro w37 hw; have hg : wr.grownBy w37 (some go34) := (by rw [hw]; exact HP36.2); have hp_ : Kd.R (Kd.int .i64) 3 w37 w.heap.size (fun _ => True) (.slice (some ⟨go34, 0, none⟩) x3_4.length co35) y135 := (by rw [hw, Ny135.out]; exact HP36.1); clear HP36; replace BK132 := xm (blk_grown (g := gb132) (o := .cells #[.int .i64 ((rd_T33 l0 x21_2).f0), .slice (some ad133) ((rd_T33 l0 x21_2).f1).length c131_1, .int .i64 ((rd_T33 l0 x21_2).f2), .bool ((rd_T33 l0 x21_2).f3)] 33 (0, 0)) (xK BK132) hg (Kd.R_ne HO_3.out BK132.out (by decide))); replace HO_3 := xm (hp_); replace HB := xm ((by rw [hw]; exact below_set (HB.out) GB34.out : Below w.heap.size w w37)); clear hg hw hp_))
                  (first | go_roundg k4 | (simp only [← hji31]; go_roundg k4))
                  case measure => have := HJ1.out; have := HK2.out; have := HJ10.out; have := HK4.out; omega
                  case rel => exact ⟨(y135), (wrap64 (x51_4 + 1)), (xrf), H', ⟨by have := HJ1.out; have := HK2.out; have := HJ10.out; have := HK4.out; omega⟩, ⟨yR HO_3⟩, ⟨xK BK132⟩, ⟨xW HB⟩⟩
              ·rw [if_neg c25] at H; have c25b0 := decide_eq_false c25; clear c25; have H' := xm H; clear H
               go_wp2
               go_roundg k4
               case measure => have := HJ1.out; have := HK2.out; have := HJ10.out; have := HK4.out; omega
               case rel => exact ⟨(x3_4), (wrap64 (x21_2 + 1)), (xrf), H', ⟨by have := HJ1.out; have := HK2.out; have := HJ10.out; have := HK4.out; omega⟩, ⟨yR HO_3⟩, ⟨xW HB⟩⟩
       ·rw [if_neg c8] at H; have c8b0 := decide_eq_false c8; clear c8; have H' := xm H; clear H
        go_wp2
        go_loopg [81] k2 (fun kq vs81 w' => ∃ (x81_3 : Int), vs81 = .int .i64 x81_3 ∧ Aside0 (gamehallref3_SwissFault.l2 kq x3_2 (l0.length : Int) x81_3 = some r) ∧ Aside0 (kq ≤ k2) ∧ Aside0 (Kd.R (Kd.int .i64) 3 w' w.heap.size (fun _ => True) v129 x3_2) ∧ Aside0 (Below w.heap.size w w'))
        case atStart => exact ⟨(0), (xrf), H', ⟨Nat.le_refl _⟩, ⟨yR HO_3⟩, ⟨xW HB⟩⟩
        case round =>
         clear H'; (try clear p1); (try clear q1); (try clear hx1); (try clear p2); (try clear p3); (try clear q3); (try clear hx3); (try clear hf3); (try clear p6); (try clear p13); (try clear q13); (try clear hx13); (try clear p34); (try clear q34); (try clear hx34); (try clear hf34); (try clear hx131_0); (try clear hx131_1); (try clear hx131_2); (try clear hx131_3); (try clear hx133_0); (try clear hx134_0); (try clear hx34_0); (try clear p131); (try clear p133); (try clear p134); (try clear q131); (try clear q133); (try clear q134); obtain ⟨x81_3, rfl, HA, HK3, HO_3, HB⟩ := hrel
         cases gk with
         | zero => exact absurd HA.out (by simp [gamehallref3_SwissFault.l2])
         | succ k3 =>
          have H := HA.out; clear HA; simp only [gamehallref3_SwissFault.l2] at H
          by_cases c38 : x81_3 < (l0.length : Int)
          ·rw [if_pos c38] at H; have c38b0 := decide_eq_true c38; clear c38; have H' := xm H; clear H
           go_wp2
           go_loopg [85] k3 (fun kq vs85 w' => ∃ (x85_4 : Int), vs85 = .int .i64 x85_4 ∧ Aside0 (gamehallref3_SwissFault.l3 kq x3_2 x81_3 (l0.length : Int) x81_3 x81_3 x85_4 = some r) ∧ Aside0 (kq ≤ k3) ∧ Aside0 (Kd.R (Kd.int .i64) 3 w' w.heap.size (fun _ => True) v129 x3_2) ∧ Aside0 (Below w.heap.size w w'))
           case atStart => exact ⟨(0), (xrf), H', ⟨Nat.le_refl _⟩, ⟨yR HO_3⟩, ⟨xW HB⟩⟩
           case round =>
            clear H'; (try clear p1); (try clear q1); (try clear hx1); (try clear p2); (try clear p3); (try clear q3); (try clear hx3); (try clear hf3); (try clear p6); (try clear p13); (try clear q13); (try clear hx13); (try clear p34); (try clear q34); (try clear hx34); (try clear hf34); (try clear hx131_0); (try clear hx131_1); (try clear hx131_2); (try clear hx131_3); (try clear hx133_0); (try clear hx134_0); (try clear hx34_0); (try clear p131); (try clear p133); (try clear p134); (try clear q131); (try clear q133); (try clear q134); obtain ⟨x85_4, rfl, HA, HK4, HO_3, HB⟩ := hrel
            cases gk with
            | zero => exact absurd HA.out (by simp [gamehallref3_SwissFault.l3])
            | succ k4 =>
             have H := HA.out; clear HA; simp only [gamehallref3_SwissFault.l3] at H
             by_cases c39 : x85_4 < x81_3
             ·rw [if_pos c39] at H; have c39b0 := decide_eq_true c39; clear c39; obtain ⟨ji40, hji40⟩ : ∃ j_ : Int, (wrap64 ((wrap64 (8 * x81_3)) + x85_4)) = j_ := ⟨_, rfl⟩
              (first | rw [hji40] at H | simp only [hji40] at H)
              have hji40w : (IntKind.i64.wrap ((wrap64 (8 * x81_3)) + x85_4)) = ji40 := (i64_w _).trans hji40; obtain ⟨c41b0, H⟩ := xJ H; obtain ⟨c42b0, H⟩ := xJ H; obtain ⟨ji43, hji43⟩ : ∃ j_ : Int, (wrap64 ((wrap64 (8 * x85_4)) + x81_3)) = j_ := ⟨_, rfl⟩
              (first | rw [hji43] at H | simp only [hji43] at H)
              have hji43w : (IntKind.i64.wrap ((wrap64 (8 * x85_4)) + x81_3)) = ji43 := (i64_w _).trans hji43; obtain ⟨c44b0, H⟩ := xJ H; obtain ⟨c45b0, H⟩ := xJ H
              by_cases c46 : (rd x3_2 (ji40)) = (rd x3_2 (ji43))
              ·rw [if_pos c46] at H; have c46b0 := beq_iff_eq.mpr c46; have c46b1 := bne_eq_false_iff_eq.mpr c46; clear c46
               by_cases c47 : (rd x3_2 (ji40)) > 1
               ·rw [if_pos c47] at H; have c47b0 := decide_eq_true c47; clear c47; obtain rfl := Option.some.inj H; obtain ⟨Ao48, co48, eo48⟩ := Kd.R_slice HO_3.out; subst eo48; have p136 : 0 ≤ ((ji40) : Int) := xO; have q136 : (ji40) < (x3_2.length : Int) := xO; obtain ⟨ad136, e136, hx136_0⟩ := Kd.at_int (Kd.R_reads' HO_3.out).2.2 (ji40) p136 q136
                cases e136
                replace p136 := eq_true p136; replace q136 := eq_true q136; have p137 : 0 ≤ ((ji43) : Int) := xO; have q137 : (ji43) < (x3_2.length : Int) := xO; obtain ⟨ad137, e137, hx137_0⟩ := Kd.at_int (Kd.R_reads' HO_3.out).2.2 (ji43) p137 q137; obtain rfl : ad136 = ad137 := (by injection e137)
                replace p137 := eq_true p137; replace q137 := eq_true q137; have p138 : 0 ≤ ((ji40) : Int) := xO; have q138 : (ji40) < (x3_2.length : Int) := xO; obtain ⟨ad138, e138, hx138_0⟩ := Kd.at_int (Kd.R_reads' HO_3.out).2.2 (ji40) p138 q138; obtain rfl : ad136 = ad138 := (by injection e138)
                replace p138 := eq_true p138; replace q138 := eq_true q138
                go_wp2
                repeat (go_quiet (fail); try go_wp2)
                go_ret; exact ⟨by first | rfl | (simp [errW_none, errW_some] <;> rfl) | (simp only [← hji40, ← hji43]; first | rfl | (simp [errW_none, errW_some] <;> rfl)) | (simp [*, errW_none, errW_some] <;> rfl), xW HB⟩
               ·rw [if_neg c47] at H; have c47b0 := decide_eq_false c47; clear c47; have H' := xm H; clear H; obtain ⟨Ao49, co49, eo49⟩ := Kd.R_slice HO_3.out; subst eo49; have p136 : 0 ≤ ((ji40) : Int) := xO; have q136 : (ji40) < (x3_2.length : Int) := xO; obtain ⟨ad136, e136, hx136_0⟩ := Kd.at_int (Kd.R_reads' HO_3.out).2.2 (ji40) p136 q136
                cases e136
                replace p136 := eq_true p136; replace q136 := eq_true q136; have p137 : 0 ≤ ((ji43) : Int) := xO; have q137 : (ji43) < (x3_2.length : Int) := xO; obtain ⟨ad137, e137, hx137_0⟩ := Kd.at_int (Kd.R_reads' HO_3.out).2.2 (ji43) p137 q137; obtain rfl : ad136 = ad137 := (by injection e137)
                replace p137 := eq_true p137; replace q137 := eq_true q137; have p138 : 0 ≤ ((ji40) : Int) := xO; have q138 : (ji40) < (x3_2.length : Int) := xO; obtain ⟨ad138, e138, hx138_0⟩ := Kd.at_int (Kd.R_reads' HO_3.out).2.2 (ji40) p138 q138; obtain rfl : ad136 = ad138 := (by injection e138)
                replace p138 := eq_true p138; replace q138 := eq_true q138
                go_wp2
                repeat (go_quiet (fail); try go_wp2)
                (first | go_roundg k4 | (simp only [← hji40, ← hji43]; go_roundg k4))
                case measure => have := HJ1.out; have := HK2.out; have := HK3.out; have := HK4.out; omega
                case rel => exact ⟨(wrap64 (x85_4 + 1)), (xrf), H', ⟨by have := HJ1.out; have := HK2.out; have := HK3.out; have := HK4.out; omega⟩, ⟨yR HO_3⟩, ⟨xW HB⟩⟩
              ·rw [if_neg c46] at H; have c46b0 := beq_eq_false_iff_ne.mpr c46; have c46b1 := bne_iff_ne.mpr c46; obtain rfl := Option.some.inj H; obtain ⟨Ao50, co50, eo50⟩ := Kd.R_slice HO_3.out; subst eo50; have p136 : 0 ≤ ((ji40) : Int) := xO; have q136 : (ji40) < (x3_2.length : Int) := xO; obtain ⟨ad136, e136, hx136_0⟩ := Kd.at_int (Kd.R_reads' HO_3.out).2.2 (ji40) p136 q136
               cases e136
               replace p136 := eq_true p136; replace q136 := eq_true q136; have p137 : 0 ≤ ((ji43) : Int) := xO; have q137 : (ji43) < (x3_2.length : Int) := xO; obtain ⟨ad137, e137, hx137_0⟩ := Kd.at_int (Kd.R_reads' HO_3.out).2.2 (ji43) p137 q137; obtain rfl : ad136 = ad137 := (by injection e137)
               replace p137 := eq_true p137; replace q137 := eq_true q137
               go_wp2
               repeat (go_quiet (fail); try go_wp2)
               go_ret; exact ⟨by first | rfl | (simp [errW_none, errW_some] <;> rfl) | (simp only [← hji40, ← hji43]; first | rfl | (simp [errW_none, errW_some] <;> rfl)) | (simp [*, errW_none, errW_some] <;> rfl), xW HB⟩
             ·rw [if_neg c39] at H; have c39b0 := decide_eq_false c39; clear c39; have H' := xm H; clear H
              go_wp2
              go_roundg k4
              case measure => have := HJ1.out; have := HK2.out; have := HK3.out; have := HK4.out; omega
              case rel => exact ⟨(wrap64 (x81_3 + 1)), (xrf), H', ⟨by have := HJ1.out; have := HK2.out; have := HK3.out; have := HK4.out; omega⟩, ⟨yR HO_3⟩, ⟨xW HB⟩⟩
          ·rw [if_neg c38] at H; have c38b0 := decide_eq_false c38; clear c38; obtain rfl := Option.some.inj H
           go_wp2
           go_ret; exact ⟨xer, xW HB⟩
    ·exact absurd (by decide) c5

/-! ### swiss_Cost: function 9 -/
def swiss_Cost.f (k : Nat) (l0 : List (S33)) (a1 : Int) (a2 : Int) : Option (Int × Int) := (swiss_Check.f k l0).bind fun t139 => (if t139 = 0 then (if (mn a1 a2) < 0 then (some (0, 1)) else (if (mx a1 a2) ≥ (l0.length : Int) then (some (0, 1)) else (if a1 = a2 then (some (0, 1)) else ((swiss_cost.f l0 a1 a2).bind fun t140 => (some (t140, 0)))))) else (some (0, t139)))
theorem swiss_Cost.mono : ∀ a0 a1 a2 k, LeO (swiss_Cost.f k a0 a1 a2) (swiss_Cost.f (k + 1) a0 a1 a2) := by
  intros; rename_i k
  unfold swiss_Cost.f
  repeat' first | (with_reducible first | apply swiss_Check.mono | exact LeO.refl _ | exact LeO.none _ | refine LeO.ite ?_ ?_ | refine LeO.bind ?_ (fun _ => ?_)) | apply swiss_Check.mono | exact LeO.none _ | refine LeO.ite ?_ ?_ | refine LeO.bind ?_ (fun _ => ?_)
theorem swiss_Cost.calls (k : Nat) (A0 : Option Addr) (c0 : Nat) (l0 : List (S33)) (a1 : Int) (a2 : Int) (r1 : Int) (r2 : Int) (w : World) (hr0 : Kd.C k33 w A0 l0.length l0) (hc0 : l0.length ≤ c0) (h : swiss_Cost.f k l0 a1 a2 = some (r1, r2)) :
    Calls Try.prog 9 #[.slice A0 l0.length c0, .int .i64 a1, .int .i64 a2] w fun e w' => e = .returned (.tuple #[.int .i64 r1, .int .i64 r2]) ∧ Below w.heap.size w w' := by
 have HR0 := xm hr0; have HC0 := xm hc0; clear hr0 hc0; have HB := xm (Below.refl w.heap.size w); have hss_ := @isSome_setCell; have H : ((swiss_Check.f k l0).bind fun t139 => (if t139 = 0 then (if (mn a1 a2) < 0 then (some (0, 1)) else (if (mx a1 a2) ≥ (l0.length : Int) then (some (0, 1)) else (if a1 = a2 then (some (0, 1)) else ((swiss_cost.f l0 a1 a2).bind fun t140 => (some (t140, 0)))))) else (some (0, t139)))) = some (r1, r2) := h; clear h; obtain ⟨t139, A4, H⟩ := xH H; (try dsimp only at H)
 by_cases c5 : t139 = 0
 ·rw [if_pos c5] at H; have c5b0 := beq_iff_eq.mpr c5; have c5b1 := bne_eq_false_iff_eq.mpr c5; clear c5; obtain ⟨ji6, hji6⟩ : ∃ j_ : Int, (mn a1 a2) = j_ := ⟨_, rfl⟩
  (first | rw [hji6] at H | simp only [hji6] at H)
  (try rw [hji6] at A4); have hji6_ : (if a2 < a1 then a2 else a1) = ji6 := hji6
  by_cases c7 : (ji6) < 0
  ·rw [if_pos c7] at H; have c7b0 := decide_eq_true c7; clear c7; simp only [Option.some.injEq, Prod.mk.injEq] at H; obtain ⟨rfl, rfl⟩ := H; go_enter Try.func9, Try.ntmps9; go_wp2_with (first | ((with_reducible refine gate_callee (f := 10) rfl ?_); refine xL (some 10) Try.func10 #[.slice A0 l0.length c0] rfl ?_; (with_reducible refine (swiss_Check.calls k _ _ l0 t139 _ ?side1 ?side2 A4.out).mono ?_); (case side1 => repeat (first | exact HR0.out | (with_reducible refine Kd.C_alloc ?_ _) | (with_reducible refine Kd.C_drewN ?_ _) | (with_reducible refine Kd.C_drew ?_))); (case side2 => exact HC0.out); rintro e w8 ⟨rfl, hb⟩; refine ⟨_, rfl, ?_⟩; replace HB := xS HB hb; (try clear hb); (try clear hb2); (try clear hk); (try clear hi)))
   go_ret2
   exact ⟨by first | rfl | (simp [errW_none, errW_some] <;> rfl) | (simp only [← hji6]; first | rfl | (simp [errW_none, errW_some] <;> rfl)) | (simp [*, errW_none, errW_some] <;> rfl), xW HB⟩
  ·rw [if_neg c7] at H; have c7b0 := decide_eq_false c7; clear c7; obtain ⟨ji9, hji9⟩ : ∃ j_ : Int, (mx a1 a2) = j_ := ⟨_, rfl⟩
   (first | rw [hji9] at H | simp only [hji9] at H)
   (try rw [hji9] at A4); have hji9_ : (if a1 < a2 then a2 else a1) = ji9 := hji9
   by_cases c10 : (ji9) ≥ (l0.length : Int)
   ·rw [if_pos c10] at H; have c10b0 := decide_eq_true c10; clear c10; simp only [Option.some.injEq, Prod.mk.injEq] at H; obtain ⟨rfl, rfl⟩ := H; go_enter Try.func9, Try.ntmps9; go_wp2_with (first | ((with_reducible refine gate_callee (f := 10) rfl ?_); refine xL (some 10) Try.func10 #[.slice A0 l0.length c0] rfl ?_; (with_reducible refine (swiss_Check.calls k _ _ l0 t139 _ ?side1 ?side2 A4.out).mono ?_); (case side1 => repeat (first | exact HR0.out | (with_reducible refine Kd.C_alloc ?_ _) | (with_reducible refine Kd.C_drewN ?_ _) | (with_reducible refine Kd.C_drew ?_))); (case side2 => exact HC0.out); rintro e w11 ⟨rfl, hb⟩; refine ⟨_, rfl, ?_⟩; replace HB := xS HB hb; (try clear hb); (try clear hb2); (try clear hk); (try clear hi)))
    go_ret2
    exact ⟨by first | rfl | (simp [errW_none, errW_some] <;> rfl) | (simp only [← hji6, ← hji9]; first | rfl | (simp [errW_none, errW_some] <;> rfl)) | (simp [*, errW_none, errW_some] <;> rfl), xW HB⟩
   ·rw [if_neg c10] at H; have c10b0 := decide_eq_false c10; clear c10
    by_cases c12 : a1 = a2
    ·rw [if_pos c12] at H; have c12b0 := beq_iff_eq.mpr c12; have c12b1 := bne_eq_false_iff_eq.mpr c12; clear c12; simp only [Option.some.injEq, Prod.mk.injEq] at H; obtain ⟨rfl, rfl⟩ := H; go_enter Try.func9, Try.ntmps9; go_wp2_with (first | ((with_reducible refine gate_callee (f := 10) rfl ?_); refine xL (some 10) Try.func10 #[.slice A0 l0.length c0] rfl ?_; (with_reducible refine (swiss_Check.calls k _ _ l0 t139 _ ?side1 ?side2 A4.out).mono ?_); (case side1 => repeat (first | exact HR0.out | (with_reducible refine Kd.C_alloc ?_ _) | (with_reducible refine Kd.C_drewN ?_ _) | (with_reducible refine Kd.C_drew ?_))); (case side2 => exact HC0.out); rintro e w13 ⟨rfl, hb⟩; refine ⟨_, rfl, ?_⟩; replace HB := xS HB hb; (try clear hb); (try clear hb2); (try clear hk); (try clear hi)))
     go_ret2
     exact ⟨by first | rfl | (simp [errW_none, errW_some] <;> rfl) | (simp only [← hji6, ← hji9]; first | rfl | (simp [errW_none, errW_some] <;> rfl)) | (simp [*, errW_none, errW_some] <;> rfl), xW HB⟩
    ·rw [if_neg c12] at H; have c12b0 := beq_eq_false_iff_ne.mpr c12; have c12b1 := bne_iff_ne.mpr c12; replace H := Option.bind_eq_some_iff.mp H; obtain ⟨t140, A140, H⟩ := H; replace H : (some (t140, 0)) = some (r1, r2) := H; have A14 := xm A140; clear A140; simp only [Option.some.injEq, Prod.mk.injEq] at H; obtain ⟨rfl, rfl⟩ := H; go_enter Try.func9, Try.ntmps9; go_wp2_with (first | ((with_reducible refine gate_callee (f := 10) rfl ?_); refine xL (some 10) Try.func10 #[.slice A0 l0.length c0] rfl ?_; (with_reducible refine (swiss_Check.calls k _ _ l0 t139 _ ?side1 ?side2 A4.out).mono ?_); (case side1 => repeat (first | exact HR0.out | (with_reducible refine Kd.C_alloc ?_ _) | (with_reducible refine Kd.C_drewN ?_ _) | (with_reducible refine Kd.C_drew ?_))); (case side2 => exact HC0.out); rintro e w15 ⟨rfl, hb⟩; refine ⟨_, rfl, ?_⟩; replace HB := xS HB hb; (try clear hb); (try clear hb2); (try clear hk); (try clear hi)) | ((with_reducible refine gate_callee (f := 29) rfl ?_); refine xL (some 34) Try.func29 #[.slice A0 l0.length c0, .int .i64 a1, .int .i64 a2] rfl ?_; (with_reducible refine (swiss_cost.calls _ _ l0 a1 a2 t140 _ ?side1 ?side2 A14.out).mono ?_); (case side1 => exact xC (Kd.C_below HR0.out HB.out)); (case side2 => exact HC0.out); rintro e w' ⟨rfl, ⟨nd, rfl⟩⟩; refine ⟨_, rfl, ?_⟩))
     go_ret2
     exact ⟨by first | rfl | (simp [errW_none, errW_some] <;> rfl) | (simp only [← hji6, ← hji9]; first | rfl | (simp [errW_none, errW_some] <;> rfl)) | (simp [*, errW_none, errW_some] <;> rfl), xW HB⟩
 ·rw [if_neg c5] at H; have c5b0 := beq_eq_false_iff_ne.mpr c5; have c5b1 := bne_iff_ne.mpr c5; simp only [Option.some.injEq, Prod.mk.injEq] at H; obtain ⟨rfl, rfl⟩ := H; go_enter Try.func9, Try.ntmps9; go_wp2_with (first | ((with_reducible refine gate_callee (f := 10) rfl ?_); refine xL (some 10) Try.func10 #[.slice A0 l0.length c0] rfl ?_; (with_reducible refine (swiss_Check.calls k _ _ l0 t139 _ ?side1 ?side2 A4.out).mono ?_); (case side1 => repeat (first | exact HR0.out | (with_reducible refine Kd.C_alloc ?_ _) | (with_reducible refine Kd.C_drewN ?_ _) | (with_reducible refine Kd.C_drew ?_))); (case side2 => exact HC0.out); rintro e w16 ⟨rfl, hb⟩; refine ⟨_, rfl, ?_⟩; replace HB := xS HB hb; (try clear hb); (try clear hb2); (try clear hk); (try clear hi)))
  go_ret2
  exact ⟨xer, xW HB⟩

-- NOT PRINTED: function 31 (gamehallref3_pairings)

end Go.Proofs.Ytemfkhafkhkffaa.PSwissPairs
