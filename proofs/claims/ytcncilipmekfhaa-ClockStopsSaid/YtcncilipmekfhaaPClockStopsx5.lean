-- Printed by a program of this claim's writer (wip/ext): an extension of the kit's print.
import Derived.Test.YtcncilipmekfhaaPClockStopsx0
import Derived.Test.YtcncilipmekfhaaPClockStopsx4
namespace Go.Proofs.Ytcncilipmekfhaa.PClockStops
open Go.RowKit Go.Proofs.YtcncilipmekfhaaW.PrintWords Go.Proofs.YtcncilipmekfhaaW.PrintLast Go.Proofs.YtcncilipmekfhaaW.PrintMore
attribute [local go_sem] max2_int min2_int max_two min_two max_three min_three max_four min_four   -- for this text's walks alone
set_option linter.unusedVariables false
set_option linter.unusedSimpArgs false

/-! ### gamehallref3_Ruled: function 23 -/
mutual
def gamehallref3_Ruled.j0 : Nat → Int → Bool → List (S91) → Int → Int → Option (Int)
  | 0, _, _, _, _, _ => none
  | k + 1, x3, x14, z157a, z157b, z157c => if x14 = true then (some 2) else (if z157b < 0 then (gamehallref3_Ruled.j1 k x3 true z157a z157b z157c) else (if z157c < 0 then (gamehallref3_Ruled.j1 k x3 true z157a z157b z157c) else (if z157b > 100000000 then (gamehallref3_Ruled.j1 k x3 true z157a z157b z157c) else (gamehallref3_Ruled.j1 k x3 (decide (z157c > 100000000)) z157a z157b z157c))))
def gamehallref3_Ruled.j1 : Nat → Int → Bool → List (S91) → Int → Int → Option (Int)
  | 0, _, _, _, _, _ => none
  | k + 1, x3, x32, z157a, z157b, z157c => if x32 = true then (some 4) else (gamehallref3_Ruled.l0 k x3 z157a (z157a.length : Int) 0)
def gamehallref3_Ruled.l0 : Nat → Int → List (S91) → Int → Int → Option (Int)
  | 0, _, _, _, _ => none
  | k + 1, x3, x34, x35, x36 => if x36 < x35 then (if 0 ≤ x36 then (if x36 < (x34.length : Int) then (if ((rd_T91 x34 x36).f0) < 0 then (gamehallref3_Ruled.j3 k x3 x36 x34 x35 x36 true ((rd_T91 x34 x36).f0) ((rd_T91 x34 x36).f1)) else (if ((rd_T91 x34 x36).f0) > 400 then (gamehallref3_Ruled.j3 k x3 x36 x34 x35 x36 true ((rd_T91 x34 x36).f0) ((rd_T91 x34 x36).f1)) else (if ((rd_T91 x34 x36).f1) ≤ 0 then (gamehallref3_Ruled.j3 k x3 x36 x34 x35 x36 true ((rd_T91 x34 x36).f0) ((rd_T91 x34 x36).f1)) else (gamehallref3_Ruled.j3 k x3 x36 x34 x35 x36 (decide (((rd_T91 x34 x36).f1) > 100000000)) ((rd_T91 x34 x36).f0) ((rd_T91 x34 x36).f1))))) else (none)) else (none)) else (some 0)
def gamehallref3_Ruled.j3 : Nat → Int → Int → List (S91) → Int → Int → Bool → Int → Int → Option (Int)
  | 0, _, _, _, _, _, _, _, _ => none
  | k + 1, x3, x4, x34, x35, x36, x58, z159a, z159b => if x58 = true then (some 4) else (if x4 < (wrap64 (x3 - 1)) then (if z159a = 0 then (some 3) else (if x4 = (wrap64 (x3 - 1)) then (some 3) else (gamehallref3_Ruled.l0 k x3 x34 x35 (wrap64 (x36 + 1))))) else (if x4 = (wrap64 (x3 - 1)) then (if z159a = 0 then (gamehallref3_Ruled.l0 k x3 x34 x35 (wrap64 (x36 + 1))) else (some 3)) else (gamehallref3_Ruled.l0 k x3 x34 x35 (wrap64 (x36 + 1)))))
end
def gamehallref3_Ruled.f (k : Nat) (l0_0 : List (S91)) (a0_1 : Int) (a0_2 : Int) : Option (Int) := if (l0_0.length : Int) < 1 then (gamehallref3_Ruled.j0 k (l0_0.length : Int) true l0_0 a0_1 a0_2) else (gamehallref3_Ruled.j0 k (l0_0.length : Int) (decide ((l0_0.length : Int) > 5)) l0_0 a0_1 a0_2)
theorem gamehallref3_Ruled.mono_l : ∀ k, (∀ y0 y1 y2 y3 y4, LeO (gamehallref3_Ruled.j0 k y0 y1 y2 y3 y4) (gamehallref3_Ruled.j0 (k + 1) y0 y1 y2 y3 y4)) ∧ (∀ y0 y1 y2 y3 y4, LeO (gamehallref3_Ruled.j1 k y0 y1 y2 y3 y4) (gamehallref3_Ruled.j1 (k + 1) y0 y1 y2 y3 y4)) ∧ (∀ y0 y1 y2 y3, LeO (gamehallref3_Ruled.l0 k y0 y1 y2 y3) (gamehallref3_Ruled.l0 (k + 1) y0 y1 y2 y3)) ∧ (∀ y0 y1 y2 y3 y4 y5 y6 y7, LeO (gamehallref3_Ruled.j3 k y0 y1 y2 y3 y4 y5 y6 y7) (gamehallref3_Ruled.j3 (k + 1) y0 y1 y2 y3 y4 y5 y6 y7))
  | 0 => ⟨fun _ _ _ _ _ r h => by simp [gamehallref3_Ruled.j0] at h, fun _ _ _ _ _ r h => by simp [gamehallref3_Ruled.j1] at h, fun _ _ _ _ r h => by simp [gamehallref3_Ruled.l0] at h, fun _ _ _ _ _ _ _ _ r h => by simp [gamehallref3_Ruled.j3] at h⟩
  | k + 1 => by
    obtain ⟨ih0, ih1, ih2, ih3⟩ := gamehallref3_Ruled.mono_l k
    refine ⟨?_, ?_, ?_, ?_⟩
    · intros
      unfold gamehallref3_Ruled.j0
      repeat' first
      | (with_reducible apply ih0)
      | (with_reducible apply ih1)
      | (with_reducible apply ih2)
      | (with_reducible apply ih3)
      | (with_reducible exact LeO.refl _)
      | (with_reducible exact LeO.none _)
      | (with_reducible refine LeO.ite ?_ ?_)
      | (with_reducible refine LeO.bind ?_ (fun _ => ?_))
      | apply ih0
      | apply ih1
      | apply ih2
      | apply ih3
      | exact LeO.none _
      | refine LeO.ite ?_ ?_
      | refine LeO.bind ?_ (fun _ => ?_)
    · intros
      unfold gamehallref3_Ruled.j1
      repeat' first
      | (with_reducible apply ih0)
      | (with_reducible apply ih1)
      | (with_reducible apply ih2)
      | (with_reducible apply ih3)
      | (with_reducible exact LeO.refl _)
      | (with_reducible exact LeO.none _)
      | (with_reducible refine LeO.ite ?_ ?_)
      | (with_reducible refine LeO.bind ?_ (fun _ => ?_))
      | apply ih0
      | apply ih1
      | apply ih2
      | apply ih3
      | exact LeO.none _
      | refine LeO.ite ?_ ?_
      | refine LeO.bind ?_ (fun _ => ?_)
    · intros
      unfold gamehallref3_Ruled.l0
      repeat' first
      | (with_reducible apply ih0)
      | (with_reducible apply ih1)
      | (with_reducible apply ih2)
      | (with_reducible apply ih3)
      | (with_reducible exact LeO.refl _)
      | (with_reducible exact LeO.none _)
      | (with_reducible refine LeO.ite ?_ ?_)
      | (with_reducible refine LeO.bind ?_ (fun _ => ?_))
      | apply ih0
      | apply ih1
      | apply ih2
      | apply ih3
      | exact LeO.none _
      | refine LeO.ite ?_ ?_
      | refine LeO.bind ?_ (fun _ => ?_)
    · intros
      unfold gamehallref3_Ruled.j3
      repeat' first
      | (with_reducible apply ih0)
      | (with_reducible apply ih1)
      | (with_reducible apply ih2)
      | (with_reducible apply ih3)
      | (with_reducible exact LeO.refl _)
      | (with_reducible exact LeO.none _)
      | (with_reducible refine LeO.ite ?_ ?_)
      | (with_reducible refine LeO.bind ?_ (fun _ => ?_))
      | apply ih0
      | apply ih1
      | apply ih2
      | apply ih3
      | exact LeO.none _
      | refine LeO.ite ?_ ?_
      | refine LeO.bind ?_ (fun _ => ?_)
theorem gamehallref3_Ruled.mono : ∀ a0 a1 a2 k, LeO (gamehallref3_Ruled.f k a0 a1 a2) (gamehallref3_Ruled.f (k + 1) a0 a1 a2) := by
  intro a0 a1 a2 k
  obtain ⟨ih0, ih1, ih2, ih3⟩ := gamehallref3_Ruled.mono_l k
  unfold gamehallref3_Ruled.f
  repeat' first
      | (with_reducible apply ih0)
      | (with_reducible apply ih1)
      | (with_reducible apply ih2)
      | (with_reducible apply ih3)
      | (with_reducible exact LeO.refl _)
      | (with_reducible exact LeO.none _)
      | (with_reducible refine LeO.ite ?_ ?_)
      | (with_reducible refine LeO.bind ?_ (fun _ => ?_))
      | apply ih0
      | apply ih1
      | apply ih2
      | apply ih3
      | exact LeO.none _
      | refine LeO.ite ?_ ?_
      | refine LeO.bind ?_ (fun _ => ?_)
set_option maxHeartbeats 8000000 in
set_option maxRecDepth 100000 in
theorem gamehallref3_Ruled.calls (k : Nat) (A0_0 : Option Addr) (c0_0 : Nat) (l0_0 : List (S91)) (a0_1 : Int) (a0_2 : Int) (r : Int) (w : World) (hr0_0 : Kd.C k91 w A0_0 l0_0.length l0_0) (hc0_0 : l0_0.length ≤ c0_0) (h : gamehallref3_Ruled.f k l0_0 a0_1 a0_2 = some r) :
    Calls Try.prog 23 #[.agg #[.slice A0_0 l0_0.length c0_0, .int .i64 a0_1, .int .i64 a0_2]] w fun e w' => e = .returned (.int .i64 r) ∧ Below w.heap.size w w' := by
 have hu42 := Try.underlying42; have hu91 := Try.underlying91; have HR0_0 := Aside0.mk hr0_0; have HC0_0 := Aside0.mk hc0_0; clear hr0_0 hc0_0; have HB := Aside0.mk (Below.refl w.heap.size w); have hss_ := @isSome_setCell
 have H : (if (l0_0.length : Int) < 1 then (gamehallref3_Ruled.j0 k (l0_0.length : Int) true l0_0 a0_1 a0_2) else (gamehallref3_Ruled.j0 k (l0_0.length : Int) (decide ((l0_0.length : Int) > 5)) l0_0 a0_1 a0_2)) = some r := h
 clear h; have HC2 := Aside0.mk H; clear H
 go_enter Try.func23, Try.ntmps23
 go_upto_region 2 with (first | ((with_reducible refine gate_dst (N := 1) rfl ?_); refine box_event ?hg (N := 1) ?hd (cs := #[.slice A0_0 l0_0.length c0_0, .int .i64 a0_1, .int .i64 a0_2]) (t := 42) ?hr ?_; (case hd => rfl); (case hg => rfl); (case hr => first | (go_simp; done) | (go_simp; rfl)); intro gb156 hg w3 hbox hb; have BK156 := Aside0.mk (hbox); have GW156 := Aside0.mk (xZ HB hg); have GE156 := Aside0.mk (xZ HB hg); replace HB := Aside0.mk (xS HB hb); clear hb hbox hg; have hcz4_0 := blkc3 BK156.out))
 (try simp only [Act.put, List.setIfInBounds_toArray, List.set_cons_zero, List.set_cons_succ])
 go_cut [14] (fun vs14 wc => ∃ (kq : Nat) (x14_1 : Bool), vs14 = .bool x14_1 ∧ Aside0 (gamehallref3_Ruled.j0 kq (l0_0.length : Int) x14_1 l0_0 a0_1 a0_2 = some r) ∧ Aside0 (kq ≤ k) ∧ Aside0 (wc.heap[gb156]? = some (.cells #[(.slice A0_0 l0_0.length c0_0), .int .i64 a0_1, .int .i64 a0_2] 42 (0, 0))) ∧ Aside0 (Below w.heap.size w wc))
 case first =>
  have H := HC2.out; clear HC2
  by_cases c5 : (l0_0.length : Int) < 1
  ·rw [if_pos c5] at H
   have c5b0 : decide ((l0_0.length : Int) < 1) = true := decide_eq_true c5
   have c5b1 : decide (l0_0.length < 1) = true := decide_eq_true (by omega)
   clear c5
   (first | rw [c5b0] | (simp only [i64_w, i32_w]; rw [c5b0]) | skip)
   have H' := Aside0.mk H
   clear H
   go_wp2
   go_meet
   case rel => exact ⟨_, (true), (xrf), H', ⟨by first | omega | exact Nat.le_refl _⟩, ⟨xK BK156⟩, ⟨xW HB⟩⟩
  ·rw [if_neg c5] at H
   have c5b0 : decide ((l0_0.length : Int) < 1) = false := decide_eq_false c5
   have c5b1 : decide (l0_0.length < 1) = false := decide_eq_false (by omega)
   clear c5
   (first | rw [c5b0] | (simp only [i64_w, i32_w]; rw [c5b0]) | skip)
   have H' := Aside0.mk H
   clear H
   go_wp2
   go_meet
   case rel => exact ⟨_, (decide ((l0_0.length : Int) > 5)), (xrf), H', ⟨by first | omega | exact Nat.le_refl _⟩, ⟨xK BK156⟩, ⟨xW HB⟩⟩
 case rest =>
  clear HC2; (try clear p2)
  obtain ⟨kq, x14_1, rfl, HA, HJ1, BK156, HB⟩ := hcut
  cases kq with
  | zero => exact absurd HA.out (by simp [gamehallref3_Ruled.j0])
  | succ kj1 =>
   have H := HA.out; clear HA
   simp only [gamehallref3_Ruled.j0] at H
   by_cases c6 : x14_1 = true
   ·subst c6
    rw [if_pos rfl] at H
    obtain rfl := Option.some.inj H
    go_wp2
    go_ret
    exact ⟨xer, xW HB⟩
   ·replace c6 := Bool.eq_false_iff.mpr c6
    subst c6
    rw [if_neg (show ¬ (false = true) by decide)] at H
    have HC7 := Aside0.mk H; clear H
    go_upto_region 4 with (fail)
    go_cut [32] (fun vs32 wc => ∃ (kq : Nat) (x32_6 : Bool), vs32 = .bool x32_6 ∧ Aside0 (gamehallref3_Ruled.j1 kq (l0_0.length : Int) x32_6 l0_0 a0_1 a0_2 = some r) ∧ Aside0 (kq ≤ kj1) ∧ Aside0 (wc.heap[gb156]? = some (.cells #[(.slice A0_0 l0_0.length c0_0), .int .i64 a0_1, .int .i64 a0_2] 42 (0, 0))) ∧ Aside0 (Below w.heap.size w wc))
    case first =>
     have H := HC7.out; clear HC7
     by_cases c8 : a0_1 < 0
     ·rw [if_pos c8] at H
      have c8b0 : decide (a0_1 < 0) = true := decide_eq_true c8
      clear c8
      (first | rw [c8b0] | (simp only [i64_w, i32_w]; rw [c8b0]) | skip)
      have H' := Aside0.mk H
      clear H; have hcz9_0 := blkc3 BK156.out
      go_wp2
      go_meet
      case rel => exact ⟨_, (true), (xrf), H', ⟨by have := HJ1.out; first | omega | exact Nat.le_refl _⟩, ⟨xK BK156⟩, ⟨xW HB⟩⟩
     ·rw [if_neg c8] at H
      have c8b0 : decide (a0_1 < 0) = false := decide_eq_false c8
      clear c8
      (first | rw [c8b0] | (simp only [i64_w, i32_w]; rw [c8b0]) | skip)
      by_cases c10 : a0_2 < 0
      ·rw [if_pos c10] at H
       have c10b0 : decide (a0_2 < 0) = true := decide_eq_true c10
       clear c10
       have H' := Aside0.mk H
       clear H; have hcz11_0 := blkc3 BK156.out
       go_wp2
       go_meet
       case rel => exact ⟨_, (true), (xrf), H', ⟨by have := HJ1.out; first | omega | exact Nat.le_refl _⟩, ⟨xK BK156⟩, ⟨xW HB⟩⟩
      ·rw [if_neg c10] at H
       have c10b0 : decide (a0_2 < 0) = false := decide_eq_false c10
       clear c10
       by_cases c12 : a0_1 > 100000000
       ·rw [if_pos c12] at H
        have c12b0 : decide (100000000 < a0_1) = true := decide_eq_true c12
        clear c12
        have H' := Aside0.mk H
        clear H; have hcz13_0 := blkc3 BK156.out
        go_wp2
        go_meet
        case rel => exact ⟨_, (true), (xrf), H', ⟨by have := HJ1.out; first | omega | exact Nat.le_refl _⟩, ⟨xK BK156⟩, ⟨xW HB⟩⟩
       ·rw [if_neg c12] at H
        have c12b0 : decide (100000000 < a0_1) = false := decide_eq_false c12
        clear c12
        have H' := Aside0.mk H
        clear H; have hcz14_0 := blkc3 BK156.out
        go_wp2
        go_meet
        case rel => exact ⟨_, (decide (a0_2 > 100000000)), (xrf), H', ⟨by have := HJ1.out; first | omega | exact Nat.le_refl _⟩, ⟨xK BK156⟩, ⟨xW HB⟩⟩
    case rest =>
     clear HC7; (try clear p2); (try clear p2)
     obtain ⟨kq, x32_6, rfl, HA, HJ6, BK156, HB⟩ := hcut
     cases kq with
     | zero => exact absurd HA.out (by simp [gamehallref3_Ruled.j1])
     | succ kj6 =>
      have H := HA.out; clear HA
      simp only [gamehallref3_Ruled.j1] at H
      by_cases c15 : x32_6 = true
      ·subst c15
       rw [if_pos rfl] at H
       obtain rfl := Option.some.inj H
       go_wp2
       go_ret
       exact ⟨xer, xW HB⟩
      ·replace c15 := Bool.eq_false_iff.mpr c15
       subst c15
       rw [if_neg (show ¬ (false = true) by decide)] at H
       have H' := Aside0.mk H
       clear H; have hcz16_0 := blkc3 BK156.out
       go_wp2
       go_loopg [36] kj6 (fun kq vs36 w' => ∃ (x36_3 : Int), vs36 = .int .i64 x36_3 ∧ Aside0 (gamehallref3_Ruled.l0 kq (l0_0.length : Int) l0_0 (l0_0.length : Int) x36_3 = some r) ∧ Aside0 (kq ≤ kj6) ∧ Aside0 (w'.heap[gb156]? = some (.cells #[(.slice A0_0 l0_0.length c0_0), .int .i64 a0_1, .int .i64 a0_2] 42 (0, 0))) ∧ Aside0 (Below w.heap.size w w'))
       case atStart => exact ⟨(0), (xrf), H', ⟨Nat.le_refl _⟩, ⟨xK BK156⟩, ⟨xW HB⟩⟩
       case round =>
        clear H'; (try clear p2); (try clear p2)
        obtain ⟨x36_3, rfl, HA, HK3, BK156, HB⟩ := hrel
        cases gk with
        | zero => exact absurd HA.out (by simp [gamehallref3_Ruled.l0])
        | succ k3 =>
         have H := HA.out; clear HA
         simp only [gamehallref3_Ruled.l0] at H
         by_cases c17 : x36_3 < (l0_0.length : Int)
         ·rw [if_pos c17] at H
          have c17b0 : decide (x36_3 < (l0_0.length : Int)) = true := decide_eq_true c17
          clear c17
          by_cases c18 : 0 ≤ x36_3
          ·rw [if_pos c18] at H
           have c18b0 : decide (0 ≤ x36_3) = true := decide_eq_true c18
           clear c18
           by_cases c19 : x36_3 < (l0_0.length : Int)
           ·rw [if_pos c19] at H
            have c19b0 : decide (x36_3 < (l0_0.length : Int)) = true := decide_eq_true c19
            clear c19; have HC20 := Aside0.mk H; clear H
            have p157 : 0 ≤ (x36_3 : Int) := of_decide_eq_true (by first | (with_reducible assumption) | assumption)
            have q157 : x36_3 < (l0_0.length : Int) := of_decide_eq_true (by first | (with_reducible assumption) | assumption)
            obtain ⟨ad157, e157, hx157_0, hx157_1⟩ := at_T91 HR0_0.out x36_3 p157 q157
            cases e157
            replace hx157_0 := (HB.out.cell (World.block_lt_of_cell? w _ hx157_0)).trans hx157_0; replace hx157_1 := (HB.out.cell (World.block_lt_of_cell? w _ hx157_1)).trans hx157_1; replace p157 := eq_true p157; replace q157 := eq_true q157
            go_upto_region 9 with (first | ((with_reducible refine gate_dst (N := 5) rfl ?_); refine box_event ?hg (N := 5) ?hd (cs := #[.int .i64 0, .int .i64 0]) (t := 91) ?hr ?_; (case hd => rfl); (case hg => rfl); (case hr => first | (go_simp; done) | (go_simp; rfl)); intro gb158 hg w21 hbox hb; have BK158 := Aside0.mk (hbox); have GW158 := Aside0.mk (xZ HB hg); have GE158 := Aside0.mk (xZ HB hg); have NB156_158 := Aside0.mk (xN BK156 hg); have NB158_156 := Aside0.mk (xM BK156 hg); replace BK156 := Aside0.mk (xB BK156 hb); replace HB := Aside0.mk (xS HB hb); clear hb hbox hg; have hnb22 := NB158_156.out; have hnc22 := NB156_158.out; have hcz23_0 := blkc2 BK158.out))
            (try have hq158_156 := NB158_156.out); (try have hq156_158 := NB156_158.out)
            (try simp only [Act.put, List.setIfInBounds_toArray, List.set_cons_zero, List.set_cons_succ])
            go_cut [58] (fun vs58 wc => ∃ (kq : Nat) (x58_19 : Bool), vs58 = .bool x58_19 ∧ Aside0 (gamehallref3_Ruled.j3 kq (l0_0.length : Int) x36_3 l0_0 (l0_0.length : Int) x36_3 x58_19 ((rd_T91 l0_0 x36_3).f0) ((rd_T91 l0_0 x36_3).f1) = some r) ∧ Aside0 (kq ≤ k3) ∧ Aside0 (wc.heap[gb156]? = some (.cells #[(.slice (some ad157) l0_0.length c0_0), .int .i64 a0_1, .int .i64 a0_2] 42 (0, 0))) ∧ Aside0 (wc.heap[gb158]? = some (.cells #[.int .i64 ((rd_T91 l0_0 x36_3).f0), .int .i64 ((rd_T91 l0_0 x36_3).f1)] 91 (0, 0))) ∧ Aside0 (Below w.heap.size w wc))
            case first =>
             have H := HC20.out; clear HC20
             by_cases c24 : ((rd_T91 l0_0 x36_3).f0) < 0
             ·rw [if_pos c24] at H
              have c24b0 : decide (((rd_T91 l0_0 x36_3).f0) < 0) = true := decide_eq_true c24
              clear c24
              (first | rw [c24b0] | (simp only [i64_w, i32_w]; rw [c24b0]) | skip)
              have H' := Aside0.mk H
              clear H; have hcz26_0 := blkc2 BK158.out
              go_wp2
              go_meet
              case rel => exact ⟨_, (true), (xrf), H', ⟨by have := HJ1.out; have := HJ6.out; have := HK3.out; first | omega | exact Nat.le_refl _⟩, ⟨xK BK156⟩, ⟨xQ BK158⟩, ⟨xW HB⟩⟩
             ·rw [if_neg c24] at H
              have c24b0 : decide (((rd_T91 l0_0 x36_3).f0) < 0) = false := decide_eq_false c24
              clear c24
              (first | rw [c24b0] | (simp only [i64_w, i32_w]; rw [c24b0]) | skip)
              by_cases c27 : ((rd_T91 l0_0 x36_3).f0) > 400
              ·rw [if_pos c27] at H
               have c27b0 : decide (400 < ((rd_T91 l0_0 x36_3).f0)) = true := decide_eq_true c27
               clear c27
               have H' := Aside0.mk H
               clear H; have hcz29_0 := blkc2 BK158.out
               go_wp2
               go_meet
               case rel => exact ⟨_, (true), (xrf), H', ⟨by have := HJ1.out; have := HJ6.out; have := HK3.out; first | omega | exact Nat.le_refl _⟩, ⟨xK BK156⟩, ⟨xQ BK158⟩, ⟨xW HB⟩⟩
              ·rw [if_neg c27] at H
               have c27b0 : decide (400 < ((rd_T91 l0_0 x36_3).f0)) = false := decide_eq_false c27
               clear c27
               by_cases c30 : ((rd_T91 l0_0 x36_3).f1) ≤ 0
               ·rw [if_pos c30] at H
                have c30b0 : decide (((rd_T91 l0_0 x36_3).f1) ≤ 0) = true := decide_eq_true c30
                clear c30
                have H' := Aside0.mk H
                clear H; have hcz32_0 := blkc2 BK158.out
                go_wp2
                go_meet
                case rel => exact ⟨_, (true), (xrf), H', ⟨by have := HJ1.out; have := HJ6.out; have := HK3.out; first | omega | exact Nat.le_refl _⟩, ⟨xK BK156⟩, ⟨xQ BK158⟩, ⟨xW HB⟩⟩
               ·rw [if_neg c30] at H
                have c30b0 : decide (((rd_T91 l0_0 x36_3).f1) ≤ 0) = false := decide_eq_false c30
                clear c30
                have H' := Aside0.mk H
                clear H; have hcz34_0 := blkc2 BK158.out
                go_wp2
                go_meet
                case rel => exact ⟨_, (decide (((rd_T91 l0_0 x36_3).f1) > 100000000)), (xrf), H', ⟨by have := HJ1.out; have := HJ6.out; have := HK3.out; first | omega | exact Nat.le_refl _⟩, ⟨xK BK156⟩, ⟨xQ BK158⟩, ⟨xW HB⟩⟩
            case rest =>
             clear HC20; (try clear p1); (try clear q1); (try clear hx1); (try clear p2); (try clear p15); (try clear q15); (try clear hx15); (try clear hx157_0); (try clear hx157_1); (try clear p157); (try clear p2); (try clear q157)
             obtain ⟨kq, x58_19, rfl, HA, HJ19, BK156, BK158, HB⟩ := hcut
             cases kq with
             | zero => exact absurd HA.out (by simp [gamehallref3_Ruled.j3])
             | succ kj19 =>
              have H := HA.out; clear HA
              simp only [gamehallref3_Ruled.j3] at H
              by_cases c35 : x58_19 = true
              ·subst c35
               rw [if_pos rfl] at H
               obtain rfl := Option.some.inj H
               go_wp2
               go_ret
               exact ⟨xer, xW HB⟩
              ·replace c35 := Bool.eq_false_iff.mpr c35
               subst c35
               rw [if_neg (show ¬ (false = true) by decide)] at H
               by_cases c36 : x36_3 < (wrap64 ((l0_0.length : Int) - 1))
               ·rw [if_pos c36] at H
                have c36b0 : decide (x36_3 < (wrap64 ((l0_0.length : Int) - 1))) = true := decide_eq_true c36
                clear c36
                by_cases c37 : ((rd_T91 l0_0 x36_3).f0) = 0
                ·rw [if_pos c37] at H
                 have c37b0 : (((rd_T91 l0_0 x36_3).f0) == 0) = true := beq_iff_eq.mpr c37
                 have c37b1 : (((rd_T91 l0_0 x36_3).f0) != 0) = false := bne_eq_false_iff_eq.mpr c37
                 clear c37
                 obtain rfl := Option.some.inj H
                 have hcz39_0 := blkc2 BK158.out
                 go_wp2
                 go_ret
                 exact ⟨xer, xW HB⟩
                ·rw [if_neg c37] at H
                 have c37b0 : (((rd_T91 l0_0 x36_3).f0) == 0) = false := beq_eq_false_iff_ne.mpr c37
                 have c37b1 : (((rd_T91 l0_0 x36_3).f0) != 0) = true := bne_iff_ne.mpr c37
                 by_cases c40 : x36_3 = (wrap64 ((l0_0.length : Int) - 1))
                 ·rw [if_pos c40] at H
                  have c40b0 : (x36_3 == (wrap64 ((l0_0.length : Int) - 1))) = true := beq_iff_eq.mpr c40
                  have c40b1 : (x36_3 != (wrap64 ((l0_0.length : Int) - 1))) = false := bne_eq_false_iff_eq.mpr c40
                  clear c40
                  obtain rfl := Option.some.inj H
                  have hcz42_0 := blkc2 BK158.out
                  go_wp2
                  go_ret
                  exact ⟨xer, xW HB⟩
                 ·rw [if_neg c40] at H
                  have c40b0 : (x36_3 == (wrap64 ((l0_0.length : Int) - 1))) = false := beq_eq_false_iff_ne.mpr c40
                  have c40b1 : (x36_3 != (wrap64 ((l0_0.length : Int) - 1))) = true := bne_iff_ne.mpr c40
                  have H' := Aside0.mk H
                  clear H; have hcz44_0 := blkc2 BK158.out
                  go_wp2
                  go_roundg kj19
                  case measure => have := HJ1.out; have := HJ6.out; have := HK3.out; have := HJ19.out; omega
                  case rel => exact ⟨(wrap64 (x36_3 + 1)), (xrf), H', ⟨by have := HJ1.out; have := HJ6.out; have := HK3.out; have := HJ19.out; omega⟩, ⟨xK BK156⟩, ⟨xW HB⟩⟩
               ·rw [if_neg c36] at H
                have c36b0 : decide (x36_3 < (wrap64 ((l0_0.length : Int) - 1))) = false := decide_eq_false c36
                clear c36
                by_cases c45 : x36_3 = (wrap64 ((l0_0.length : Int) - 1))
                ·rw [if_pos c45] at H
                 have c45b0 : (x36_3 == (wrap64 ((l0_0.length : Int) - 1))) = true := beq_iff_eq.mpr c45
                 have c45b1 : (x36_3 != (wrap64 ((l0_0.length : Int) - 1))) = false := bne_eq_false_iff_eq.mpr c45
                 clear c45
                 by_cases c46 : ((rd_T91 l0_0 x36_3).f0) = 0
                 ·rw [if_pos c46] at H
                  have c46b0 : (((rd_T91 l0_0 x36_3).f0) == 0) = true := beq_iff_eq.mpr c46
                  have c46b1 : (((rd_T91 l0_0 x36_3).f0) != 0) = false := bne_eq_false_iff_eq.mpr c46
                  clear c46
                  have H' := Aside0.mk H
                  clear H; have hcz48_0 := blkc2 BK158.out
                  go_wp2
                  go_roundg kj19
                  case measure => have := HJ1.out; have := HJ6.out; have := HK3.out; have := HJ19.out; omega
                  case rel => exact ⟨(wrap64 (x36_3 + 1)), (xrf), H', ⟨by have := HJ1.out; have := HJ6.out; have := HK3.out; have := HJ19.out; omega⟩, ⟨xK BK156⟩, ⟨xW HB⟩⟩
                 ·rw [if_neg c46] at H
                  have c46b0 : (((rd_T91 l0_0 x36_3).f0) == 0) = false := beq_eq_false_iff_ne.mpr c46
                  have c46b1 : (((rd_T91 l0_0 x36_3).f0) != 0) = true := bne_iff_ne.mpr c46
                  obtain rfl := Option.some.inj H
                  have hcz50_0 := blkc2 BK158.out
                  go_wp2
                  go_ret
                  exact ⟨xer, xW HB⟩
                ·rw [if_neg c45] at H
                 have c45b0 : (x36_3 == (wrap64 ((l0_0.length : Int) - 1))) = false := beq_eq_false_iff_ne.mpr c45
                 have c45b1 : (x36_3 != (wrap64 ((l0_0.length : Int) - 1))) = true := bne_iff_ne.mpr c45
                 have H' := Aside0.mk H
                 clear H
                 go_wp2
                 go_roundg kj19
                 case measure => have := HJ1.out; have := HJ6.out; have := HK3.out; have := HJ19.out; omega
                 case rel => exact ⟨(wrap64 (x36_3 + 1)), (xrf), H', ⟨by have := HJ1.out; have := HJ6.out; have := HK3.out; have := HJ19.out; omega⟩, ⟨xK BK156⟩, ⟨xW HB⟩⟩
           ·rw [if_neg c19] at H
            exact absurd H (by simp)
          ·rw [if_neg c18] at H
           exact absurd H (by simp)
         ·rw [if_neg c17] at H
          have c17b0 : decide (x36_3 < (l0_0.length : Int)) = false := decide_eq_false c17
          clear c17
          obtain rfl := Option.some.inj H
          go_wp2
          go_ret
          exact ⟨xer, xW HB⟩

/-! ### gamehalllaw3_clocked: function 24 -/
mutual
def gamehalllaw3_clocked.j0 : Nat → Bool → List (S91) → Int → Int → Int → Int → Int → Int → Int → Int → Int → Int → Bool → Int → Option (Bool)
  | 0, _, _, _, _, _, _, _, _, _, _, _, _, _, _ => none
  | k + 1, x5, z160a, z160b, z160c, z161a, z161b, z161c, z161d, z161e, z161f, z161g, z161h, z161i, z161j => gamehalllaw3_clocked.l0 k x5 0 z160a z160b z160c z161a z161b z161c z161d z161e z161f z161g z161h z161i z161j
def gamehalllaw3_clocked.l0 : Nat → Bool → Int → List (S91) → Int → Int → Int → Int → Int → Int → Int → Int → Int → Int → Bool → Int → Option (Bool)
  | 0, _, _, _, _, _, _, _, _, _, _, _, _, _, _, _ => none
  | k + 1, x5, x35, z160a, z160b, z160c, z161a, z161b, z161c, z161d, z161e, z161f, z161g, z161h, z161i, z161j => if x35 < 2 then (if x5 = true then (if 0 ≤ x35 then (if x35 = 0 then (if z161e ≥ 0 then (if z161e < (z160a.length : Int) then (if z161c ≥ 0 then (if z161c ≤ 400 then (if z161a ≥ 0 then (gamehalllaw3_clocked.l0 k (decide (z161a ≤ 100000000000)) (wrap64 (x35 + 1)) z160a z160b z160c z161a z161b z161c z161d z161e z161f z161g z161h z161i z161j) else (gamehalllaw3_clocked.l0 k false (wrap64 (x35 + 1)) z160a z160b z160c z161a z161b z161c z161d z161e z161f z161g z161h z161i z161j)) else (gamehalllaw3_clocked.l0 k false (wrap64 (x35 + 1)) z160a z160b z160c z161a z161b z161c z161d z161e z161f z161g z161h z161i z161j)) else (gamehalllaw3_clocked.l0 k false (wrap64 (x35 + 1)) z160a z160b z160c z161a z161b z161c z161d z161e z161f z161g z161h z161i z161j)) else (gamehalllaw3_clocked.l0 k false (wrap64 (x35 + 1)) z160a z160b z160c z161a z161b z161c z161d z161e z161f z161g z161h z161i z161j)) else (gamehalllaw3_clocked.l0 k false (wrap64 (x35 + 1)) z160a z160b z160c z161a z161b z161c z161d z161e z161f z161g z161h z161i z161j)) else (if z161f ≥ 0 then (if z161f < (z160a.length : Int) then (if z161d ≥ 0 then (if z161d ≤ 400 then (if z161b ≥ 0 then (gamehalllaw3_clocked.l0 k (decide (z161b ≤ 100000000000)) (wrap64 (x35 + 1)) z160a z160b z160c z161a z161b z161c z161d z161e z161f z161g z161h z161i z161j) else (gamehalllaw3_clocked.l0 k false (wrap64 (x35 + 1)) z160a z160b z160c z161a z161b z161c z161d z161e z161f z161g z161h z161i z161j)) else (gamehalllaw3_clocked.l0 k false (wrap64 (x35 + 1)) z160a z160b z160c z161a z161b z161c z161d z161e z161f z161g z161h z161i z161j)) else (gamehalllaw3_clocked.l0 k false (wrap64 (x35 + 1)) z160a z160b z160c z161a z161b z161c z161d z161e z161f z161g z161h z161i z161j)) else (gamehalllaw3_clocked.l0 k false (wrap64 (x35 + 1)) z160a z160b z160c z161a z161b z161c z161d z161e z161f z161g z161h z161i z161j)) else (gamehalllaw3_clocked.l0 k false (wrap64 (x35 + 1)) z160a z160b z160c z161a z161b z161c z161d z161e z161f z161g z161h z161i z161j))) else (none)) else (gamehalllaw3_clocked.l0 k false (wrap64 (x35 + 1)) z160a z160b z160c z161a z161b z161c z161d z161e z161f z161g z161h z161i z161j)) else (some x5)
end
def gamehalllaw3_clocked.f (k : Nat) (l0_0 : List (S91)) (a0_1 : Int) (a0_2 : Int) (a1_0 : Int) (a1_1 : Int) (a1_2 : Int) (a1_3 : Int) (a1_4 : Int) (a1_5 : Int) (a1_6 : Int) (a1_7 : Int) (a1_8 : Bool) (a1_9 : Int) : Option (Bool) := if a1_6 = 0 then (if a1_9 ≥ (-1) then (if a1_9 ≤ 1 then (if a1_7 ≥ 0 then (gamehalllaw3_clocked.j0 k (decide (a1_7 ≤ 100000000)) l0_0 a0_1 a0_2 a1_0 a1_1 a1_2 a1_3 a1_4 a1_5 a1_6 a1_7 a1_8 a1_9) else (gamehalllaw3_clocked.j0 k false l0_0 a0_1 a0_2 a1_0 a1_1 a1_2 a1_3 a1_4 a1_5 a1_6 a1_7 a1_8 a1_9)) else (gamehalllaw3_clocked.j0 k false l0_0 a0_1 a0_2 a1_0 a1_1 a1_2 a1_3 a1_4 a1_5 a1_6 a1_7 a1_8 a1_9)) else (gamehalllaw3_clocked.j0 k false l0_0 a0_1 a0_2 a1_0 a1_1 a1_2 a1_3 a1_4 a1_5 a1_6 a1_7 a1_8 a1_9)) else (if a1_6 = 1 then (if a1_9 ≥ (-1) then (if a1_9 ≤ 1 then (if a1_7 ≥ 0 then (gamehalllaw3_clocked.j0 k (decide (a1_7 ≤ 100000000)) l0_0 a0_1 a0_2 a1_0 a1_1 a1_2 a1_3 a1_4 a1_5 a1_6 a1_7 a1_8 a1_9) else (gamehalllaw3_clocked.j0 k false l0_0 a0_1 a0_2 a1_0 a1_1 a1_2 a1_3 a1_4 a1_5 a1_6 a1_7 a1_8 a1_9)) else (gamehalllaw3_clocked.j0 k false l0_0 a0_1 a0_2 a1_0 a1_1 a1_2 a1_3 a1_4 a1_5 a1_6 a1_7 a1_8 a1_9)) else (gamehalllaw3_clocked.j0 k false l0_0 a0_1 a0_2 a1_0 a1_1 a1_2 a1_3 a1_4 a1_5 a1_6 a1_7 a1_8 a1_9)) else (gamehalllaw3_clocked.j0 k false l0_0 a0_1 a0_2 a1_0 a1_1 a1_2 a1_3 a1_4 a1_5 a1_6 a1_7 a1_8 a1_9))
theorem gamehalllaw3_clocked.mono_l : ∀ k, (∀ y0 y1 y2 y3 y4 y5 y6 y7 y8 y9 y10 y11 y12 y13, LeO (gamehalllaw3_clocked.j0 k y0 y1 y2 y3 y4 y5 y6 y7 y8 y9 y10 y11 y12 y13) (gamehalllaw3_clocked.j0 (k + 1) y0 y1 y2 y3 y4 y5 y6 y7 y8 y9 y10 y11 y12 y13)) ∧ (∀ y0 y1 y2 y3 y4 y5 y6 y7 y8 y9 y10 y11 y12 y13 y14, LeO (gamehalllaw3_clocked.l0 k y0 y1 y2 y3 y4 y5 y6 y7 y8 y9 y10 y11 y12 y13 y14) (gamehalllaw3_clocked.l0 (k + 1) y0 y1 y2 y3 y4 y5 y6 y7 y8 y9 y10 y11 y12 y13 y14))
  | 0 => ⟨fun _ _ _ _ _ _ _ _ _ _ _ _ _ _ r h => by simp [gamehalllaw3_clocked.j0] at h, fun _ _ _ _ _ _ _ _ _ _ _ _ _ _ _ r h => by simp [gamehalllaw3_clocked.l0] at h⟩
  | k + 1 => by
    obtain ⟨ih0, ih1⟩ := gamehalllaw3_clocked.mono_l k
    refine ⟨?_, ?_⟩
    · intros
      unfold gamehalllaw3_clocked.j0
      repeat' first
      | (with_reducible apply ih0)
      | (with_reducible apply ih1)
      | (with_reducible exact LeO.refl _)
      | (with_reducible exact LeO.none _)
      | (with_reducible refine LeO.ite ?_ ?_)
      | (with_reducible refine LeO.bind ?_ (fun _ => ?_))
      | apply ih0
      | apply ih1
      | exact LeO.none _
      | refine LeO.ite ?_ ?_
      | refine LeO.bind ?_ (fun _ => ?_)
    · intros
      unfold gamehalllaw3_clocked.l0
      repeat' first
      | (with_reducible apply ih0)
      | (with_reducible apply ih1)
      | (with_reducible exact LeO.refl _)
      | (with_reducible exact LeO.none _)
      | (with_reducible refine LeO.ite ?_ ?_)
      | (with_reducible refine LeO.bind ?_ (fun _ => ?_))
      | apply ih0
      | apply ih1
      | exact LeO.none _
      | refine LeO.ite ?_ ?_
      | refine LeO.bind ?_ (fun _ => ?_)
theorem gamehalllaw3_clocked.mono : ∀ a0 a1 a2 a3 a4 a5 a6 a7 a8 a9 a10 a11 a12 k, LeO (gamehalllaw3_clocked.f k a0 a1 a2 a3 a4 a5 a6 a7 a8 a9 a10 a11 a12) (gamehalllaw3_clocked.f (k + 1) a0 a1 a2 a3 a4 a5 a6 a7 a8 a9 a10 a11 a12) := by
  intro a0 a1 a2 a3 a4 a5 a6 a7 a8 a9 a10 a11 a12 k
  obtain ⟨ih0, ih1⟩ := gamehalllaw3_clocked.mono_l k
  unfold gamehalllaw3_clocked.f
  repeat' first
      | (with_reducible apply ih0)
      | (with_reducible apply ih1)
      | (with_reducible exact LeO.refl _)
      | (with_reducible exact LeO.none _)
      | (with_reducible refine LeO.ite ?_ ?_)
      | (with_reducible refine LeO.bind ?_ (fun _ => ?_))
      | apply ih0
      | apply ih1
      | exact LeO.none _
      | refine LeO.ite ?_ ?_
      | refine LeO.bind ?_ (fun _ => ?_)
set_option maxHeartbeats 8000000 in
set_option maxRecDepth 100000 in
theorem gamehalllaw3_clocked.calls (k : Nat) (A0_0 : Option Addr) (c0_0 : Nat) (l0_0 : List (S91)) (a0_1 : Int) (a0_2 : Int) (a1_0 : Int) (a1_1 : Int) (a1_2 : Int) (a1_3 : Int) (a1_4 : Int) (a1_5 : Int) (a1_6 : Int) (a1_7 : Int) (a1_8 : Bool) (a1_9 : Int) (r : Bool) (w : World) (hr0_0 : Kd.C k91 w A0_0 l0_0.length l0_0) (hc0_0 : l0_0.length ≤ c0_0) (h : gamehalllaw3_clocked.f k l0_0 a0_1 a0_2 a1_0 a1_1 a1_2 a1_3 a1_4 a1_5 a1_6 a1_7 a1_8 a1_9 = some r) :
    Calls Try.prog 24 #[.agg #[.slice A0_0 l0_0.length c0_0, .int .i64 a0_1, .int .i64 a0_2], .agg #[.int .i64 a1_0, .int .i64 a1_1, .int .i64 a1_2, .int .i64 a1_3, .int .i64 a1_4, .int .i64 a1_5, .int .i64 a1_6, .int .i64 a1_7, .bool a1_8, .int .i64 a1_9]] w fun e w' => e = .returned (.bool r) ∧ Below w.heap.size w w' := by
 have hu42 := Try.underlying42; have hu45 := Try.underlying45; have HR0_0 := Aside0.mk hr0_0; have HC0_0 := Aside0.mk hc0_0; clear hr0_0 hc0_0; have HB := Aside0.mk (Below.refl w.heap.size w); have hss_ := @isSome_setCell
 have H : (if a1_6 = 0 then (if a1_9 ≥ (-1) then (if a1_9 ≤ 1 then (if a1_7 ≥ 0 then (gamehalllaw3_clocked.j0 k (decide (a1_7 ≤ 100000000)) l0_0 a0_1 a0_2 a1_0 a1_1 a1_2 a1_3 a1_4 a1_5 a1_6 a1_7 a1_8 a1_9) else (gamehalllaw3_clocked.j0 k false l0_0 a0_1 a0_2 a1_0 a1_1 a1_2 a1_3 a1_4 a1_5 a1_6 a1_7 a1_8 a1_9)) else (gamehalllaw3_clocked.j0 k false l0_0 a0_1 a0_2 a1_0 a1_1 a1_2 a1_3 a1_4 a1_5 a1_6 a1_7 a1_8 a1_9)) else (gamehalllaw3_clocked.j0 k false l0_0 a0_1 a0_2 a1_0 a1_1 a1_2 a1_3 a1_4 a1_5 a1_6 a1_7 a1_8 a1_9)) else (if a1_6 = 1 then (if a1_9 ≥ (-1) then (if a1_9 ≤ 1 then (if a1_7 ≥ 0 then (gamehalllaw3_clocked.j0 k (decide (a1_7 ≤ 100000000)) l0_0 a0_1 a0_2 a1_0 a1_1 a1_2 a1_3 a1_4 a1_5 a1_6 a1_7 a1_8 a1_9) else (gamehalllaw3_clocked.j0 k false l0_0 a0_1 a0_2 a1_0 a1_1 a1_2 a1_3 a1_4 a1_5 a1_6 a1_7 a1_8 a1_9)) else (gamehalllaw3_clocked.j0 k false l0_0 a0_1 a0_2 a1_0 a1_1 a1_2 a1_3 a1_4 a1_5 a1_6 a1_7 a1_8 a1_9)) else (gamehalllaw3_clocked.j0 k false l0_0 a0_1 a0_2 a1_0 a1_1 a1_2 a1_3 a1_4 a1_5 a1_6 a1_7 a1_8 a1_9)) else (gamehalllaw3_clocked.j0 k false l0_0 a0_1 a0_2 a1_0 a1_1 a1_2 a1_3 a1_4 a1_5 a1_6 a1_7 a1_8 a1_9))) = some r := h
 clear h; have HC3 := Aside0.mk H; clear H
 go_enter Try.func24, Try.ntmps24
 go_upto_region 1 with (first | ((with_reducible refine gate_dst (N := 2) rfl ?_); (try (refine gate_guard (by rfl) ?_; dsimp only)); refine box_event ?hg (N := 2) ?hd (cs := #[.slice A0_0 l0_0.length c0_0, .int .i64 a0_1, .int .i64 a0_2]) (t := 42) ?hr ?_; (case hd => rfl); (case hg => rfl); (case hr => first | (go_simp; done) | (go_simp; rfl)); intro gb159 hg w4 hbox hb; have BK159 := Aside0.mk (hbox); have GW159 := Aside0.mk (xZ HB hg); have GE159 := Aside0.mk (xZ HB hg); replace HB := Aside0.mk (xS HB hb); clear hb hbox hg) | ((with_reducible refine gate_dst (N := 3) rfl ?_); (try (refine gate_guard (by rfl) ?_; dsimp only)); refine box_event ?hg (N := 3) ?hd (cs := #[.int .i64 a1_0, .int .i64 a1_1, .int .i64 a1_2, .int .i64 a1_3, .int .i64 a1_4, .int .i64 a1_5, .int .i64 a1_6, .int .i64 a1_7, .bool a1_8, .int .i64 a1_9]) (t := 45) ?hr ?_; (case hd => rfl); (case hg => rfl); (case hr => first | (go_simp; done) | (go_simp; rfl)); intro gb160 hg w5 hbox hb; have BK160 := Aside0.mk (hbox); have GW160 := Aside0.mk (xZ HB hg); have GE160 := Aside0.mk (xZ HB hg); have NB159_160 := Aside0.mk (xN BK159 hg); have NB160_159 := Aside0.mk (xM BK159 hg); replace BK159 := Aside0.mk (xB BK159 hb); replace HB := Aside0.mk (xS HB hb); clear hb hbox hg))
 repeat (go_quiet (first | ((with_reducible refine gate_dst (N := 2) rfl ?_); (try (refine gate_guard (by rfl) ?_; dsimp only)); refine box_event ?hg (N := 2) ?hd (cs := #[.slice A0_0 l0_0.length c0_0, .int .i64 a0_1, .int .i64 a0_2]) (t := 42) ?hr ?_; (case hd => rfl); (case hg => rfl); (case hr => first | (go_simp; done) | (go_simp; rfl)); intro gb159 hg w4 hbox hb; have BK159 := Aside0.mk (hbox); have GW159 := Aside0.mk (xZ HB hg); have GE159 := Aside0.mk (xZ HB hg); replace HB := Aside0.mk (xS HB hb); clear hb hbox hg) | ((with_reducible refine gate_dst (N := 3) rfl ?_); (try (refine gate_guard (by rfl) ?_; dsimp only)); refine box_event ?hg (N := 3) ?hd (cs := #[.int .i64 a1_0, .int .i64 a1_1, .int .i64 a1_2, .int .i64 a1_3, .int .i64 a1_4, .int .i64 a1_5, .int .i64 a1_6, .int .i64 a1_7, .bool a1_8, .int .i64 a1_9]) (t := 45) ?hr ?_; (case hd => rfl); (case hg => rfl); (case hr => first | (go_simp; done) | (go_simp; rfl)); intro gb160 hg w5 hbox hb; have BK160 := Aside0.mk (hbox); have GW160 := Aside0.mk (xZ HB hg); have GE160 := Aside0.mk (xZ HB hg); have NB159_160 := Aside0.mk (xN BK159 hg); have NB160_159 := Aside0.mk (xM BK159 hg); replace BK159 := Aside0.mk (xB BK159 hb); replace HB := Aside0.mk (xS HB hb); clear hb hbox hg)); go_upto_region 1 with (first | ((with_reducible refine gate_dst (N := 2) rfl ?_); (try (refine gate_guard (by rfl) ?_; dsimp only)); refine box_event ?hg (N := 2) ?hd (cs := #[.slice A0_0 l0_0.length c0_0, .int .i64 a0_1, .int .i64 a0_2]) (t := 42) ?hr ?_; (case hd => rfl); (case hg => rfl); (case hr => first | (go_simp; done) | (go_simp; rfl)); intro gb159 hg w4 hbox hb; have BK159 := Aside0.mk (hbox); have GW159 := Aside0.mk (xZ HB hg); have GE159 := Aside0.mk (xZ HB hg); replace HB := Aside0.mk (xS HB hb); clear hb hbox hg) | ((with_reducible refine gate_dst (N := 3) rfl ?_); (try (refine gate_guard (by rfl) ?_; dsimp only)); refine box_event ?hg (N := 3) ?hd (cs := #[.int .i64 a1_0, .int .i64 a1_1, .int .i64 a1_2, .int .i64 a1_3, .int .i64 a1_4, .int .i64 a1_5, .int .i64 a1_6, .int .i64 a1_7, .bool a1_8, .int .i64 a1_9]) (t := 45) ?hr ?_; (case hd => rfl); (case hg => rfl); (case hr => first | (go_simp; done) | (go_simp; rfl)); intro gb160 hg w5 hbox hb; have BK160 := Aside0.mk (hbox); have GW160 := Aside0.mk (xZ HB hg); have GE160 := Aside0.mk (xZ HB hg); have NB159_160 := Aside0.mk (xN BK159 hg); have NB160_159 := Aside0.mk (xM BK159 hg); replace BK159 := Aside0.mk (xB BK159 hb); replace HB := Aside0.mk (xS HB hb); clear hb hbox hg)))
 (try have hq160_159 := NB160_159.out); (try have hq159_160 := NB159_160.out)
 (try simp only [Act.put, List.setIfInBounds_toArray, List.set_cons_zero, List.set_cons_succ])
 go_cut [5] (fun vs5 wc => ∃ (kq : Nat) (x5_2 : Bool), vs5 = .bool x5_2 ∧ Aside0 (gamehalllaw3_clocked.j0 kq x5_2 l0_0 a0_1 a0_2 a1_0 a1_1 a1_2 a1_3 a1_4 a1_5 a1_6 a1_7 a1_8 a1_9 = some r) ∧ Aside0 (kq ≤ k) ∧ Aside0 (wc.heap[gb159]? = some (.cells #[(.slice A0_0 l0_0.length c0_0), .int .i64 a0_1, .int .i64 a0_2] 42 (0, 0))) ∧ Aside0 (wc.heap[gb160]? = some (.cells #[.int .i64 a1_0, .int .i64 a1_1, .int .i64 a1_2, .int .i64 a1_3, .int .i64 a1_4, .int .i64 a1_5, .int .i64 a1_6, .int .i64 a1_7, .bool a1_8, .int .i64 a1_9] 45 (0, 0))) ∧ Aside0 (Below w.heap.size w wc))
 case first =>
  have H := HC3.out; clear HC3
  by_cases c6 : a1_6 = 0
  ·rw [if_pos c6] at H
   have c6b0 : (a1_6 == 0) = true := beq_iff_eq.mpr c6
   have c6b1 : (a1_6 != 0) = false := bne_eq_false_iff_eq.mpr c6
   clear c6
   (first | rw [c6b0] | (simp only [i64_w, i32_w]; rw [c6b0]) | skip)
   by_cases c7 : a1_9 ≥ (-1)
   ·rw [if_pos c7] at H
    have c7b0 : decide ((-1) ≤ a1_9) = true := decide_eq_true c7
    clear c7
    by_cases c8 : a1_9 ≤ 1
    ·rw [if_pos c8] at H
     have c8b0 : decide (a1_9 ≤ 1) = true := decide_eq_true c8
     clear c8
     by_cases c9 : a1_7 ≥ 0
     ·rw [if_pos c9] at H
      have c9b0 : decide (0 ≤ a1_7) = true := decide_eq_true c9
      clear c9
      have H' := Aside0.mk H
      clear H; have hcz11_0 := blkc10 BK160.out
      go_wp2
      repeat (go_quiet (fail); try go_wp2)
      go_meet
      case rel => exact ⟨_, (decide (a1_7 ≤ 100000000)), (xrf), H', ⟨by first | omega | exact Nat.le_refl _⟩, ⟨xK BK159⟩, ⟨xK BK160⟩, ⟨xW HB⟩⟩
     ·rw [if_neg c9] at H
      have c9b0 : decide (0 ≤ a1_7) = false := decide_eq_false c9
      clear c9
      have H' := Aside0.mk H
      clear H; have hcz13_0 := blkc10 BK160.out
      go_wp2
      repeat (go_quiet (fail); try go_wp2)
      go_meet
      case rel => exact ⟨_, (false), (xrf), H', ⟨by first | omega | exact Nat.le_refl _⟩, ⟨xK BK159⟩, ⟨xK BK160⟩, ⟨xW HB⟩⟩
    ·rw [if_neg c8] at H
     have c8b0 : decide (a1_9 ≤ 1) = false := decide_eq_false c8
     clear c8
     have H' := Aside0.mk H
     clear H; have hcz15_0 := blkc10 BK160.out
     go_wp2
     repeat (go_quiet (fail); try go_wp2)
     go_meet
     case rel => exact ⟨_, (false), (xrf), H', ⟨by first | omega | exact Nat.le_refl _⟩, ⟨xK BK159⟩, ⟨xK BK160⟩, ⟨xW HB⟩⟩
   ·rw [if_neg c7] at H
    have c7b0 : decide ((-1) ≤ a1_9) = false := decide_eq_false c7
    clear c7
    have H' := Aside0.mk H
    clear H; have hcz17_0 := blkc10 BK160.out
    go_wp2
    repeat (go_quiet (fail); try go_wp2)
    go_meet
    case rel => exact ⟨_, (false), (xrf), H', ⟨by first | omega | exact Nat.le_refl _⟩, ⟨xK BK159⟩, ⟨xK BK160⟩, ⟨xW HB⟩⟩
  ·rw [if_neg c6] at H
   have c6b0 : (a1_6 == 0) = false := beq_eq_false_iff_ne.mpr c6
   have c6b1 : (a1_6 != 0) = true := bne_iff_ne.mpr c6
   (first | rw [c6b0] | (simp only [i64_w, i32_w]; rw [c6b0]) | skip)
   by_cases c18 : a1_6 = 1
   ·rw [if_pos c18] at H
    have c18b0 : (a1_6 == 1) = true := beq_iff_eq.mpr c18
    have c18b1 : (a1_6 != 1) = false := bne_eq_false_iff_eq.mpr c18
    clear c18
    by_cases c19 : a1_9 ≥ (-1)
    ·rw [if_pos c19] at H
     have c19b0 : decide ((-1) ≤ a1_9) = true := decide_eq_true c19
     clear c19
     by_cases c20 : a1_9 ≤ 1
     ·rw [if_pos c20] at H
      have c20b0 : decide (a1_9 ≤ 1) = true := decide_eq_true c20
      clear c20
      by_cases c21 : a1_7 ≥ 0
      ·rw [if_pos c21] at H
       have c21b0 : decide (0 ≤ a1_7) = true := decide_eq_true c21
       clear c21
       have H' := Aside0.mk H
       clear H; have hcz23_0 := blkc10 BK160.out
       go_wp2
       repeat (go_quiet (fail); try go_wp2)
       go_meet
       case rel => exact ⟨_, (decide (a1_7 ≤ 100000000)), (xrf), H', ⟨by first | omega | exact Nat.le_refl _⟩, ⟨xK BK159⟩, ⟨xK BK160⟩, ⟨xW HB⟩⟩
      ·rw [if_neg c21] at H
       have c21b0 : decide (0 ≤ a1_7) = false := decide_eq_false c21
       clear c21
       have H' := Aside0.mk H
       clear H; have hcz25_0 := blkc10 BK160.out
       go_wp2
       repeat (go_quiet (fail); try go_wp2)
       go_meet
       case rel => exact ⟨_, (false), (xrf), H', ⟨by first | omega | exact Nat.le_refl _⟩, ⟨xK BK159⟩, ⟨xK BK160⟩, ⟨xW HB⟩⟩
     ·rw [if_neg c20] at H
      have c20b0 : decide (a1_9 ≤ 1) = false := decide_eq_false c20
      clear c20
      have H' := Aside0.mk H
      clear H; have hcz27_0 := blkc10 BK160.out
      go_wp2
      repeat (go_quiet (fail); try go_wp2)
      go_meet
      case rel => exact ⟨_, (false), (xrf), H', ⟨by first | omega | exact Nat.le_refl _⟩, ⟨xK BK159⟩, ⟨xK BK160⟩, ⟨xW HB⟩⟩
    ·rw [if_neg c19] at H
     have c19b0 : decide ((-1) ≤ a1_9) = false := decide_eq_false c19
     clear c19
     have H' := Aside0.mk H
     clear H; have hcz29_0 := blkc10 BK160.out
     go_wp2
     repeat (go_quiet (fail); try go_wp2)
     go_meet
     case rel => exact ⟨_, (false), (xrf), H', ⟨by first | omega | exact Nat.le_refl _⟩, ⟨xK BK159⟩, ⟨xK BK160⟩, ⟨xW HB⟩⟩
   ·rw [if_neg c18] at H
    have c18b0 : (a1_6 == 1) = false := beq_eq_false_iff_ne.mpr c18
    have c18b1 : (a1_6 != 1) = true := bne_iff_ne.mpr c18
    have H' := Aside0.mk H
    clear H; have hcz31_0 := blkc10 BK160.out
    go_wp2
    repeat (go_quiet (fail); try go_wp2)
    go_meet
    case rel => exact ⟨_, (false), (xrf), H', ⟨by first | omega | exact Nat.le_refl _⟩, ⟨xK BK159⟩, ⟨xK BK160⟩, ⟨xW HB⟩⟩
 case rest =>
  clear HC3; (try clear p2)
  obtain ⟨kq, x5_2, rfl, HA, HJ2, BK159, BK160, HB⟩ := hcut
  cases kq with
  | zero => exact absurd HA.out (by simp [gamehalllaw3_clocked.j0])
  | succ kj2 =>
   have H := HA.out; clear HA
   simp only [gamehalllaw3_clocked.j0] at H
   have H' := Aside0.mk H
   clear H
   go_wp2
   repeat (go_quiet (fail); try go_wp2)
   go_loopg [5, 35] kj2 (fun kq vs5 vs35 w' => ∃ (x5_2 : Bool) (x35_2 : Int), vs5 = .bool x5_2 ∧ vs35 = .int .i64 x35_2 ∧ Aside0 (gamehalllaw3_clocked.l0 kq x5_2 x35_2 l0_0 a0_1 a0_2 a1_0 a1_1 a1_2 a1_3 a1_4 a1_5 a1_6 a1_7 a1_8 a1_9 = some r) ∧ Aside0 (kq ≤ kj2) ∧ Aside0 (w'.heap[gb159]? = some (.cells #[(.slice A0_0 l0_0.length c0_0), .int .i64 a0_1, .int .i64 a0_2] 42 (0, 0))) ∧ Aside0 (w'.heap[gb160]? = some (.cells #[.int .i64 a1_0, .int .i64 a1_1, .int .i64 a1_2, .int .i64 a1_3, .int .i64 a1_4, .int .i64 a1_5, .int .i64 a1_6, .int .i64 a1_7, .bool a1_8, .int .i64 a1_9] 45 (0, 0))) ∧ Aside0 (Below w.heap.size w w'))
   case atStart => exact ⟨(x5_2), (0), (xrf), (xrf), H', ⟨Nat.le_refl _⟩, ⟨xK BK159⟩, ⟨xK BK160⟩, ⟨xW HB⟩⟩
   case round =>
    clear H'; (try clear p2); (try clear p2)
    obtain ⟨x5_2, x35_2, rfl, rfl, HA, HK2, BK159, BK160, HB⟩ := hrel
    cases gk with
    | zero => exact absurd HA.out (by simp [gamehalllaw3_clocked.l0])
    | succ k2 =>
     have H := HA.out; clear HA
     simp only [gamehalllaw3_clocked.l0] at H
     by_cases c32 : x35_2 < 2
     ·rw [if_pos c32] at H
      have c32b0 : decide (x35_2 < 2) = true := decide_eq_true c32
      clear c32
      by_cases c33 : x5_2 = true
      ·subst c33
       rw [if_pos rfl] at H
       by_cases c34 : 0 ≤ x35_2
       ·rw [if_pos c34] at H
        have c34b0 : decide (0 ≤ x35_2) = true := decide_eq_true c34
        clear c34
        by_cases c35 : x35_2 = 0
        ·rw [if_pos c35] at H
         have c35b0 : (x35_2 == 0) = true := beq_iff_eq.mpr c35
         have c35b1 : (x35_2 != 0) = false := bne_eq_false_iff_eq.mpr c35
         clear c35; obtain ⟨c36b, c36g, c36c, c36d⟩ := xar (x35_2 : Int) 0 0 2
         by_cases c37 : a1_4 ≥ 0
         ·rw [if_pos c37] at H
          have c37b0 : decide (0 ≤ a1_4) = true := decide_eq_true c37
          clear c37; obtain ⟨c38b, c38g, c38c, c38d⟩ := xar (x35_2 : Int) 0 0 2
          by_cases c39 : a1_4 < (l0_0.length : Int)
          ·rw [if_pos c39] at H
           have c39b0 : decide (a1_4 < (l0_0.length : Int)) = true := decide_eq_true c39
           clear c39; obtain ⟨c40b, c40g, c40c, c40d⟩ := xar (x35_2 : Int) 0 0 2
           by_cases c41 : a1_2 ≥ 0
           ·rw [if_pos c41] at H
            have c41b0 : decide (0 ≤ a1_2) = true := decide_eq_true c41
            clear c41; obtain ⟨c42b, c42g, c42c, c42d⟩ := xar (x35_2 : Int) 0 0 2
            by_cases c43 : a1_2 ≤ 400
            ·rw [if_pos c43] at H
             have c43b0 : decide (a1_2 ≤ 400) = true := decide_eq_true c43
             clear c43; obtain ⟨c44b, c44g, c44c, c44d⟩ := xar (x35_2 : Int) 0 0 2
             by_cases c45 : a1_0 ≥ 0
             ·rw [if_pos c45] at H
              have c45b0 : decide (0 ≤ a1_0) = true := decide_eq_true c45
              clear c45; obtain ⟨c46b, c46g, c46c, c46d⟩ := xar (x35_2 : Int) 0 0 2
              have H' := Aside0.mk H
              clear H; have hcz48_0 := blkc10 BK160.out; have hcz49_0 := blkc3 BK159.out
              go_wp2
              repeat (go_quiet (fail); try go_wp2)
              go_roundg k2
              case measure => have := HJ2.out; have := HK2.out; omega
              case rel => exact ⟨(decide (a1_0 ≤ 100000000000)), (wrap64 (x35_2 + 1)), (xrf), (xrf), H', ⟨by have := HJ2.out; have := HK2.out; omega⟩, ⟨xK BK159⟩, ⟨xK BK160⟩, ⟨xW HB⟩⟩
             ·rw [if_neg c45] at H
              have c45b0 : decide (0 ≤ a1_0) = false := decide_eq_false c45
              clear c45
              have H' := Aside0.mk H
              clear H; have hcz51_0 := blkc10 BK160.out; have hcz52_0 := blkc3 BK159.out
              go_wp2
              repeat (go_quiet (fail); try go_wp2)
              go_roundg k2
              case measure => have := HJ2.out; have := HK2.out; omega
              case rel => exact ⟨(false), (wrap64 (x35_2 + 1)), (xrf), (xrf), H', ⟨by have := HJ2.out; have := HK2.out; omega⟩, ⟨xK BK159⟩, ⟨xK BK160⟩, ⟨xW HB⟩⟩
            ·rw [if_neg c43] at H
             have c43b0 : decide (a1_2 ≤ 400) = false := decide_eq_false c43
             clear c43
             have H' := Aside0.mk H
             clear H; have hcz54_0 := blkc10 BK160.out; have hcz55_0 := blkc3 BK159.out
             go_wp2
             repeat (go_quiet (fail); try go_wp2)
             go_roundg k2
             case measure => have := HJ2.out; have := HK2.out; omega
             case rel => exact ⟨(false), (wrap64 (x35_2 + 1)), (xrf), (xrf), H', ⟨by have := HJ2.out; have := HK2.out; omega⟩, ⟨xK BK159⟩, ⟨xK BK160⟩, ⟨xW HB⟩⟩
           ·rw [if_neg c41] at H
            have c41b0 : decide (0 ≤ a1_2) = false := decide_eq_false c41
            clear c41
            have H' := Aside0.mk H
            clear H; have hcz57_0 := blkc10 BK160.out; have hcz58_0 := blkc3 BK159.out
            go_wp2
            repeat (go_quiet (fail); try go_wp2)
            go_roundg k2
            case measure => have := HJ2.out; have := HK2.out; omega
            case rel => exact ⟨(false), (wrap64 (x35_2 + 1)), (xrf), (xrf), H', ⟨by have := HJ2.out; have := HK2.out; omega⟩, ⟨xK BK159⟩, ⟨xK BK160⟩, ⟨xW HB⟩⟩
          ·rw [if_neg c39] at H
           have c39b0 : decide (a1_4 < (l0_0.length : Int)) = false := decide_eq_false c39
           clear c39
           have H' := Aside0.mk H
           clear H; have hcz60_0 := blkc10 BK160.out; have hcz61_0 := blkc3 BK159.out
           go_wp2
           repeat (go_quiet (fail); try go_wp2)
           go_roundg k2
           case measure => have := HJ2.out; have := HK2.out; omega
           case rel => exact ⟨(false), (wrap64 (x35_2 + 1)), (xrf), (xrf), H', ⟨by have := HJ2.out; have := HK2.out; omega⟩, ⟨xK BK159⟩, ⟨xK BK160⟩, ⟨xW HB⟩⟩
         ·rw [if_neg c37] at H
          have c37b0 : decide (0 ≤ a1_4) = false := decide_eq_false c37
          clear c37
          have H' := Aside0.mk H
          clear H; have hcz63_0 := blkc10 BK160.out
          go_wp2
          repeat (go_quiet (fail); try go_wp2)
          go_roundg k2
          case measure => have := HJ2.out; have := HK2.out; omega
          case rel => exact ⟨(false), (wrap64 (x35_2 + 1)), (xrf), (xrf), H', ⟨by have := HJ2.out; have := HK2.out; omega⟩, ⟨xK BK159⟩, ⟨xK BK160⟩, ⟨xW HB⟩⟩
        ·rw [if_neg c35] at H
         have c35b0 : (x35_2 == 0) = false := beq_eq_false_iff_ne.mpr c35
         have c35b1 : (x35_2 != 0) = true := bne_iff_ne.mpr c35
         obtain ⟨c64b, c64g, c64c, c64d⟩ := xar (x35_2 : Int) 1 1 2
         by_cases c65 : a1_5 ≥ 0
         ·rw [if_pos c65] at H
          have c65b0 : decide (0 ≤ a1_5) = true := decide_eq_true c65
          clear c65; obtain ⟨c66b, c66g, c66c, c66d⟩ := xar (x35_2 : Int) 1 1 2
          by_cases c67 : a1_5 < (l0_0.length : Int)
          ·rw [if_pos c67] at H
           have c67b0 : decide (a1_5 < (l0_0.length : Int)) = true := decide_eq_true c67
           clear c67; obtain ⟨c68b, c68g, c68c, c68d⟩ := xar (x35_2 : Int) 1 1 2
           by_cases c69 : a1_3 ≥ 0
           ·rw [if_pos c69] at H
            have c69b0 : decide (0 ≤ a1_3) = true := decide_eq_true c69
            clear c69; obtain ⟨c70b, c70g, c70c, c70d⟩ := xar (x35_2 : Int) 1 1 2
            by_cases c71 : a1_3 ≤ 400
            ·rw [if_pos c71] at H
             have c71b0 : decide (a1_3 ≤ 400) = true := decide_eq_true c71
             clear c71; obtain ⟨c72b, c72g, c72c, c72d⟩ := xar (x35_2 : Int) 1 1 2
             by_cases c73 : a1_1 ≥ 0
             ·rw [if_pos c73] at H
              have c73b0 : decide (0 ≤ a1_1) = true := decide_eq_true c73
              clear c73; obtain ⟨c74b, c74g, c74c, c74d⟩ := xar (x35_2 : Int) 1 1 2
              have H' := Aside0.mk H
              clear H; have hcz76_0 := blkc10 BK160.out; have hcz77_0 := blkc3 BK159.out
              go_wp2
              repeat (go_quiet (fail); try go_wp2)
              go_roundg k2
              case measure => have := HJ2.out; have := HK2.out; omega
              case rel => exact ⟨(decide (a1_1 ≤ 100000000000)), (wrap64 (x35_2 + 1)), (xrf), (xrf), H', ⟨by have := HJ2.out; have := HK2.out; omega⟩, ⟨xK BK159⟩, ⟨xK BK160⟩, ⟨xW HB⟩⟩
             ·rw [if_neg c73] at H
              have c73b0 : decide (0 ≤ a1_1) = false := decide_eq_false c73
              clear c73
              have H' := Aside0.mk H
              clear H; have hcz79_0 := blkc10 BK160.out; have hcz80_0 := blkc3 BK159.out
              go_wp2
              repeat (go_quiet (fail); try go_wp2)
              go_roundg k2
              case measure => have := HJ2.out; have := HK2.out; omega
              case rel => exact ⟨(false), (wrap64 (x35_2 + 1)), (xrf), (xrf), H', ⟨by have := HJ2.out; have := HK2.out; omega⟩, ⟨xK BK159⟩, ⟨xK BK160⟩, ⟨xW HB⟩⟩
            ·rw [if_neg c71] at H
             have c71b0 : decide (a1_3 ≤ 400) = false := decide_eq_false c71
             clear c71
             have H' := Aside0.mk H
             clear H; have hcz82_0 := blkc10 BK160.out; have hcz83_0 := blkc3 BK159.out
             go_wp2
             repeat (go_quiet (fail); try go_wp2)
             go_roundg k2
             case measure => have := HJ2.out; have := HK2.out; omega
             case rel => exact ⟨(false), (wrap64 (x35_2 + 1)), (xrf), (xrf), H', ⟨by have := HJ2.out; have := HK2.out; omega⟩, ⟨xK BK159⟩, ⟨xK BK160⟩, ⟨xW HB⟩⟩
           ·rw [if_neg c69] at H
            have c69b0 : decide (0 ≤ a1_3) = false := decide_eq_false c69
            clear c69
            have H' := Aside0.mk H
            clear H; have hcz85_0 := blkc10 BK160.out; have hcz86_0 := blkc3 BK159.out
            go_wp2
            repeat (go_quiet (fail); try go_wp2)
            go_roundg k2
            case measure => have := HJ2.out; have := HK2.out; omega
            case rel => exact ⟨(false), (wrap64 (x35_2 + 1)), (xrf), (xrf), H', ⟨by have := HJ2.out; have := HK2.out; omega⟩, ⟨xK BK159⟩, ⟨xK BK160⟩, ⟨xW HB⟩⟩
          ·rw [if_neg c67] at H
           have c67b0 : decide (a1_5 < (l0_0.length : Int)) = false := decide_eq_false c67
           clear c67
           have H' := Aside0.mk H
           clear H; have hcz88_0 := blkc10 BK160.out; have hcz89_0 := blkc3 BK159.out
           go_wp2
           repeat (go_quiet (fail); try go_wp2)
           go_roundg k2
           case measure => have := HJ2.out; have := HK2.out; omega
           case rel => exact ⟨(false), (wrap64 (x35_2 + 1)), (xrf), (xrf), H', ⟨by have := HJ2.out; have := HK2.out; omega⟩, ⟨xK BK159⟩, ⟨xK BK160⟩, ⟨xW HB⟩⟩
         ·rw [if_neg c65] at H
          have c65b0 : decide (0 ≤ a1_5) = false := decide_eq_false c65
          clear c65
          have H' := Aside0.mk H
          clear H; have hcz91_0 := blkc10 BK160.out
          go_wp2
          repeat (go_quiet (fail); try go_wp2)
          go_roundg k2
          case measure => have := HJ2.out; have := HK2.out; omega
          case rel => exact ⟨(false), (wrap64 (x35_2 + 1)), (xrf), (xrf), H', ⟨by have := HJ2.out; have := HK2.out; omega⟩, ⟨xK BK159⟩, ⟨xK BK160⟩, ⟨xW HB⟩⟩
       ·rw [if_neg c34] at H
        exact absurd H (by simp)
      ·replace c33 := Bool.eq_false_iff.mpr c33
       subst c33
       rw [if_neg (show ¬ (false = true) by decide)] at H
       have H' := Aside0.mk H
       clear H
       go_wp2
       repeat (go_quiet (fail); try go_wp2)
       go_roundg k2
       case measure => have := HJ2.out; have := HK2.out; omega
       case rel => exact ⟨(false), (wrap64 (x35_2 + 1)), (xrf), (xrf), H', ⟨by have := HJ2.out; have := HK2.out; omega⟩, ⟨xK BK159⟩, ⟨xK BK160⟩, ⟨xW HB⟩⟩
     ·rw [if_neg c32] at H
      have c32b0 : decide (x35_2 < 2) = false := decide_eq_false c32
      clear c32
      obtain rfl := Option.some.inj H
      go_wp2
      repeat (go_quiet (fail); try go_wp2)
      go_ret
      exact ⟨xer, xW HB⟩

/-! ### clock_Go: function 26 -/
def clock_Go.f (k : Nat) (l0_0 : List (S91)) (a0_1 : Int) (a0_2 : Int) (a1_0 : Int) (a1_1 : Int) (a1_2 : Int) (a1_3 : Int) (a1_4 : Int) (a1_5 : Int) (a1_6 : Int) (a1_7 : Int) (a1_8 : Bool) (a1_9 : Int) (a2 : Int) : Option (Int × Int × Int × Int × Int × Int × Int × Int × Bool × Int × Int) := (clock_Look.f k l0_0 a0_1 a0_2 a1_0 a1_1 a1_2 a1_3 a1_4 a1_5 a1_6 a1_7 a1_8 a1_9 a2).bind fun bt164 => (if bt164.2.2.2.2.2.2.2.2.2.2 = 0 then (if bt164.2.2.2.2.2.2.2.2.2.1 ≥ 0 then (some (0, 0, 0, 0, 0, 0, 0, 0, false, 0, 14)) else (if bt164.2.2.2.2.2.2.2.2.1 = true then (some (bt164.1, bt164.2.1, bt164.2.2.1, bt164.2.2.2.1, bt164.2.2.2.2.1, bt164.2.2.2.2.2.1, bt164.2.2.2.2.2.2.1, a2, false, bt164.2.2.2.2.2.2.2.2.2.1, 0)) else (some (0, 0, 0, 0, 0, 0, 0, 0, false, 0, 10)))) else (some (0, 0, 0, 0, 0, 0, 0, 0, false, 0, bt164.2.2.2.2.2.2.2.2.2.2)))
theorem clock_Go.mono : ∀ a0 a1 a2 a3 a4 a5 a6 a7 a8 a9 a10 a11 a12 a13 k, LeO (clock_Go.f k a0 a1 a2 a3 a4 a5 a6 a7 a8 a9 a10 a11 a12 a13) (clock_Go.f (k + 1) a0 a1 a2 a3 a4 a5 a6 a7 a8 a9 a10 a11 a12 a13) := by
  intro a0 a1 a2 a3 a4 a5 a6 a7 a8 a9 a10 a11 a12 a13 k
  unfold clock_Go.f
  repeat' first
      | (with_reducible apply clock_Look.mono)
      | (with_reducible exact LeO.refl _)
      | (with_reducible exact LeO.none _)
      | (with_reducible refine LeO.ite ?_ ?_)
      | (with_reducible refine LeO.bind ?_ (fun _ => ?_))
      | apply clock_Look.mono
      | exact LeO.none _
      | refine LeO.ite ?_ ?_
      | refine LeO.bind ?_ (fun _ => ?_)
set_option maxHeartbeats 8000000 in
set_option maxRecDepth 100000 in
theorem clock_Go.calls (k : Nat) (A0_0 : Option Addr) (c0_0 : Nat) (l0_0 : List (S91)) (a0_1 : Int) (a0_2 : Int) (a1_0 : Int) (a1_1 : Int) (a1_2 : Int) (a1_3 : Int) (a1_4 : Int) (a1_5 : Int) (a1_6 : Int) (a1_7 : Int) (a1_8 : Bool) (a1_9 : Int) (a2 : Int) (r1 : Int) (r2 : Int) (r3 : Int) (r4 : Int) (r5 : Int) (r6 : Int) (r7 : Int) (r8 : Int) (r9 : Bool) (r10 : Int) (r11 : Int) (w : World) (hr0_0 : Kd.C k91 w A0_0 l0_0.length l0_0) (hc0_0 : l0_0.length ≤ c0_0) (h : clock_Go.f k l0_0 a0_1 a0_2 a1_0 a1_1 a1_2 a1_3 a1_4 a1_5 a1_6 a1_7 a1_8 a1_9 a2 = some (r1, r2, r3, r4, r5, r6, r7, r8, r9, r10, r11)) :
    Calls Try.prog 26 #[.agg #[.slice A0_0 l0_0.length c0_0, .int .i64 a0_1, .int .i64 a0_2], .agg #[.int .i64 a1_0, .int .i64 a1_1, .int .i64 a1_2, .int .i64 a1_3, .int .i64 a1_4, .int .i64 a1_5, .int .i64 a1_6, .int .i64 a1_7, .bool a1_8, .int .i64 a1_9], .int .i64 a2] w fun e w' => e = .returned (.tuple #[.agg #[.int .i64 r1, .int .i64 r2, .int .i64 r3, .int .i64 r4, .int .i64 r5, .int .i64 r6, .int .i64 r7, .int .i64 r8, .bool r9, .int .i64 r10], .int .i64 r11]) ∧ Below w.heap.size w w' := by
 have hu42 := Try.underlying42; have hu45 := Try.underlying45; have HR0_0 := Aside0.mk hr0_0; have HC0_0 := Aside0.mk hc0_0; clear hr0_0 hc0_0; have HB := Aside0.mk (Below.refl w.heap.size w); have hss_ := @isSome_setCell
 have H : ((clock_Look.f k l0_0 a0_1 a0_2 a1_0 a1_1 a1_2 a1_3 a1_4 a1_5 a1_6 a1_7 a1_8 a1_9 a2).bind fun bt164 => (if bt164.2.2.2.2.2.2.2.2.2.2 = 0 then (if bt164.2.2.2.2.2.2.2.2.2.1 ≥ 0 then (some (0, 0, 0, 0, 0, 0, 0, 0, false, 0, 14)) else (if bt164.2.2.2.2.2.2.2.2.1 = true then (some (bt164.1, bt164.2.1, bt164.2.2.1, bt164.2.2.2.1, bt164.2.2.2.2.1, bt164.2.2.2.2.2.1, bt164.2.2.2.2.2.2.1, a2, false, bt164.2.2.2.2.2.2.2.2.2.1, 0)) else (some (0, 0, 0, 0, 0, 0, 0, 0, false, 0, 10)))) else (some (0, 0, 0, 0, 0, 0, 0, 0, false, 0, bt164.2.2.2.2.2.2.2.2.2.2)))) = some (r1, r2, r3, r4, r5, r6, r7, r8, r9, r10, r11) := h
 clear h; replace H := Option.bind_eq_some_iff.mp H
 obtain ⟨⟨t164, t165, t166, t167, t168, t169, t170, t171, t172, t173, t174⟩, A40, H⟩ := H
 try dsimp only at H
 have A4 := Aside0.mk A40; clear A40
 by_cases c5 : t174 = 0
 ·rw [if_pos c5] at H
  have c5b0 : (t174 == 0) = true := beq_iff_eq.mpr c5
  have c5b1 : (t174 != 0) = false := bne_eq_false_iff_eq.mpr c5
  clear c5
  by_cases c6 : t173 ≥ 0
  ·rw [if_pos c6] at H
   have c6b0 : decide (0 ≤ t173) = true := decide_eq_true c6
   clear c6
   simp only [Option.some.injEq, Prod.mk.injEq] at H
   obtain ⟨rfl, rfl, rfl, rfl, rfl, rfl, rfl, rfl, rfl, rfl, rfl⟩ := H
   go_enter Try.func26, Try.ntmps26
   go_wp2_with (first | ((with_reducible refine gate_dst (N := 3) rfl ?_); refine box_event ?hg (N := 3) ?hd (cs := #[.slice A0_0 l0_0.length c0_0, .int .i64 a0_1, .int .i64 a0_2]) (t := 42) ?hr ?_; (case hd => rfl); (case hg => rfl); (case hr => first | (go_simp; done) | (go_simp; rfl)); intro gb161 hg w7 hbox hb; have BK161 := Aside0.mk (hbox); have GW161 := Aside0.mk (xZ HB hg); have GE161 := Aside0.mk (xZ HB hg); replace HB := Aside0.mk (xS HB hb); clear hb hbox hg) | ((with_reducible refine gate_dst (N := 4) rfl ?_); refine box_event ?hg (N := 4) ?hd (cs := #[.int .i64 a1_0, .int .i64 a1_1, .int .i64 a1_2, .int .i64 a1_3, .int .i64 a1_4, .int .i64 a1_5, .int .i64 a1_6, .int .i64 a1_7, .bool a1_8, .int .i64 a1_9]) (t := 45) ?hr ?_; (case hd => rfl); (case hg => rfl); (case hr => first | (go_simp; done) | (go_simp; rfl)); intro gb162 hg w8 hbox hb; have BK162 := Aside0.mk (hbox); have GW162 := Aside0.mk (xZ HB hg); have GE162 := Aside0.mk (xZ HB hg); have NB161_162 := Aside0.mk (xN BK161 hg); have NB162_161 := Aside0.mk (xM BK161 hg); replace BK161 := Aside0.mk (xB BK161 hb); replace HB := Aside0.mk (xS HB hb); clear hb hbox hg) | ((with_reducible refine gate_dst (N := 6) rfl ?_); refine box_event ?hg (N := 6) ?hd (cs := #[.int .i64 0, .int .i64 0, .int .i64 0, .int .i64 0, .int .i64 0, .int .i64 0, .int .i64 0, .int .i64 0, .bool false, .int .i64 0]) (t := 45) ?hr ?_; (case hd => rfl); (case hg => rfl); (case hr => first | (go_simp; done) | (go_simp; rfl)); intro gb163 hg w9 hbox hb; have BK163 := Aside0.mk (hbox); have GW163 := Aside0.mk (xZ HB hg); have GE163 := Aside0.mk (xZ HB hg); have NB161_163 := Aside0.mk (xN BK161 hg); have NB163_161 := Aside0.mk (xM BK161 hg); have NB162_163 := Aside0.mk (xN BK162 hg); have NB163_162 := Aside0.mk (xM BK162 hg); replace BK161 := Aside0.mk (xB BK161 hb); replace BK162 := Aside0.mk (xB BK162 hb); replace HB := Aside0.mk (xS HB hb); clear hb hbox hg; have hnb10 := NB161_162.out; have hnc10 := NB162_161.out; have hnb11 := NB161_163.out; have hnc11 := NB163_161.out; have hcz12_0 := blkc3 BK161.out; have hnb13 := NB162_163.out; have hnc13 := NB163_162.out; have hcz14_0 := blkc10 BK162.out) | ((with_reducible refine gate_callee (f := 28) rfl ?_); refine goesL_ (some 14) rfl rfl Try.func28 (by kernel_rfl) rfl #[.agg #[.slice A0_0 l0_0.length c0_0, .int .i64 a0_1, .int .i64 a0_2], .agg #[.int .i64 a1_0, .int .i64 a1_1, .int .i64 a1_2, .int .i64 a1_3, .int .i64 a1_4, .int .i64 a1_5, .int .i64 a1_6, .int .i64 a1_7, .bool a1_8, .int .i64 a1_9], .int .i64 a2] rfl (by (try simp only [List.map_toArray, List.map_cons, List.map_nil]); first | done | rfl | (simp only [List.length_drop, List.length_take]; rfl)) ?_; (with_reducible refine (clock_Look.calls k _ _ l0_0 a0_1 a0_2 a1_0 a1_1 a1_2 a1_3 a1_4 a1_5 a1_6 a1_7 a1_8 a1_9 a2 t164 t165 t166 t167 t168 t169 t170 t171 t172 t173 t174 _ ?side1 ?side2 A4.out).mono ?_); (case side1 => exact xC (Kd.C_below HR0_0.out HB.out)); (case side2 => exact HC0_0.out); rintro e w15 ⟨rfl, hb⟩; refine ⟨_, rfl, ?_⟩; replace BK161 := Aside0.mk (xB BK161 hb); replace BK162 := Aside0.mk (xB BK162 hb); replace BK163 := Aside0.mk (xB BK163 hb); replace HB := Aside0.mk (xS HB hb); (try clear hb); (try clear hb2); (try clear hk); (try clear hi)) | ((with_reducible refine gate_dst (N := 8) rfl ?_); refine box_event ?hg (N := 8) ?hd (cs := #[.int .i64 0, .int .i64 0, .int .i64 0, .int .i64 0, .int .i64 0, .int .i64 0, .int .i64 0, .int .i64 0, .bool false, .int .i64 0]) (t := 45) ?hr ?_; (case hd => rfl); (case hg => rfl); (case hr => first | (go_simp; done) | (go_simp; rfl)); intro gb175 hg w16 hbox hb; have BK175 := Aside0.mk (hbox); have GW175 := Aside0.mk (xZ HB hg); have GE175 := Aside0.mk (xZ HB hg); have NB161_175 := Aside0.mk (xN BK161 hg); have NB175_161 := Aside0.mk (xM BK161 hg); have NB162_175 := Aside0.mk (xN BK162 hg); have NB175_162 := Aside0.mk (xM BK162 hg); have NB163_175 := Aside0.mk (xN BK163 hg); have NB175_163 := Aside0.mk (xM BK163 hg); replace BK161 := Aside0.mk (xB BK161 hb); replace BK162 := Aside0.mk (xB BK162 hb); replace BK163 := Aside0.mk (xB BK163 hb); replace HB := Aside0.mk (xS HB hb); clear hb hbox hg; have hnb17 := NB175_161.out; have hnc17 := NB161_175.out; have hnb18 := NB175_162.out; have hnc18 := NB162_175.out; have hnb19 := NB175_163.out; have hnc19 := NB163_175.out; have hcz20_0 := blkc10 BK175.out; have hcz21_0 := blkc10 BK163.out))
   refine bodyPost_ret (results_ct rfl _ _ gb163 45 #[.int .i64 0, .int .i64 0, .int .i64 0, .int .i64 0, .int .i64 0, .int .i64 0, .int .i64 0, .int .i64 0, .bool false, .int .i64 0] (0, 0) _ rfl (xQ BK163) Try.underlying45 rfl (by kernel_rfl)) rfl ?_
   exact ⟨xer, xW HB⟩
  ·rw [if_neg c6] at H
   have c6b0 : decide (0 ≤ t173) = false := decide_eq_false c6
   clear c6
   by_cases c22 : t172 = true
   ·subst c22
    rw [if_pos rfl] at H
    simp only [Option.some.injEq, Prod.mk.injEq] at H
    obtain ⟨rfl, rfl, rfl, rfl, rfl, rfl, rfl, rfl, rfl, rfl, rfl⟩ := H
    go_enter Try.func26, Try.ntmps26
    go_wp2_with (first | ((with_reducible refine gate_dst (N := 3) rfl ?_); refine box_event ?hg (N := 3) ?hd (cs := #[.slice A0_0 l0_0.length c0_0, .int .i64 a0_1, .int .i64 a0_2]) (t := 42) ?hr ?_; (case hd => rfl); (case hg => rfl); (case hr => first | (go_simp; done) | (go_simp; rfl)); intro gb161 hg w23 hbox hb; have BK161 := Aside0.mk (hbox); have GW161 := Aside0.mk (xZ HB hg); have GE161 := Aside0.mk (xZ HB hg); replace HB := Aside0.mk (xS HB hb); clear hb hbox hg) | ((with_reducible refine gate_dst (N := 4) rfl ?_); refine box_event ?hg (N := 4) ?hd (cs := #[.int .i64 a1_0, .int .i64 a1_1, .int .i64 a1_2, .int .i64 a1_3, .int .i64 a1_4, .int .i64 a1_5, .int .i64 a1_6, .int .i64 a1_7, .bool a1_8, .int .i64 a1_9]) (t := 45) ?hr ?_; (case hd => rfl); (case hg => rfl); (case hr => first | (go_simp; done) | (go_simp; rfl)); intro gb162 hg w24 hbox hb; have BK162 := Aside0.mk (hbox); have GW162 := Aside0.mk (xZ HB hg); have GE162 := Aside0.mk (xZ HB hg); have NB161_162 := Aside0.mk (xN BK161 hg); have NB162_161 := Aside0.mk (xM BK161 hg); replace BK161 := Aside0.mk (xB BK161 hb); replace HB := Aside0.mk (xS HB hb); clear hb hbox hg) | ((with_reducible refine gate_dst (N := 6) rfl ?_); refine box_event ?hg (N := 6) ?hd (cs := #[.int .i64 0, .int .i64 0, .int .i64 0, .int .i64 0, .int .i64 0, .int .i64 0, .int .i64 0, .int .i64 0, .bool false, .int .i64 0]) (t := 45) ?hr ?_; (case hd => rfl); (case hg => rfl); (case hr => first | (go_simp; done) | (go_simp; rfl)); intro gb163 hg w25 hbox hb; have BK163 := Aside0.mk (hbox); have GW163 := Aside0.mk (xZ HB hg); have GE163 := Aside0.mk (xZ HB hg); have NB161_163 := Aside0.mk (xN BK161 hg); have NB163_161 := Aside0.mk (xM BK161 hg); have NB162_163 := Aside0.mk (xN BK162 hg); have NB163_162 := Aside0.mk (xM BK162 hg); replace BK161 := Aside0.mk (xB BK161 hb); replace BK162 := Aside0.mk (xB BK162 hb); replace HB := Aside0.mk (xS HB hb); clear hb hbox hg; have hnb26 := NB161_162.out; have hnc26 := NB162_161.out; have hnb27 := NB161_163.out; have hnc27 := NB163_161.out; have hcz28_0 := blkc3 BK161.out; have hnb29 := NB162_163.out; have hnc29 := NB163_162.out; have hcz30_0 := blkc10 BK162.out) | ((with_reducible refine gate_callee (f := 28) rfl ?_); refine goesL_ (some 14) rfl rfl Try.func28 (by kernel_rfl) rfl #[.agg #[.slice A0_0 l0_0.length c0_0, .int .i64 a0_1, .int .i64 a0_2], .agg #[.int .i64 a1_0, .int .i64 a1_1, .int .i64 a1_2, .int .i64 a1_3, .int .i64 a1_4, .int .i64 a1_5, .int .i64 a1_6, .int .i64 a1_7, .bool a1_8, .int .i64 a1_9], .int .i64 a2] rfl (by (try simp only [List.map_toArray, List.map_cons, List.map_nil]); first | done | rfl | (simp only [List.length_drop, List.length_take]; rfl)) ?_; (with_reducible refine (clock_Look.calls k _ _ l0_0 a0_1 a0_2 a1_0 a1_1 a1_2 a1_3 a1_4 a1_5 a1_6 a1_7 a1_8 a1_9 a2 t164 t165 t166 t167 t168 t169 t170 t171 true t173 t174 _ ?side1 ?side2 A4.out).mono ?_); (case side1 => exact xC (Kd.C_below HR0_0.out HB.out)); (case side2 => exact HC0_0.out); rintro e w31 ⟨rfl, hb⟩; refine ⟨_, rfl, ?_⟩; replace BK161 := Aside0.mk (xB BK161 hb); replace BK162 := Aside0.mk (xB BK162 hb); replace BK163 := Aside0.mk (xB BK163 hb); replace HB := Aside0.mk (xS HB hb); (try clear hb); (try clear hb2); (try clear hk); (try clear hi)) | ((with_reducible refine gate_dst (N := 8) rfl ?_); refine box_event ?hg (N := 8) ?hd (cs := #[.int .i64 0, .int .i64 0, .int .i64 0, .int .i64 0, .int .i64 0, .int .i64 0, .int .i64 0, .int .i64 0, .bool false, .int .i64 0]) (t := 45) ?hr ?_; (case hd => rfl); (case hg => rfl); (case hr => first | (go_simp; done) | (go_simp; rfl)); intro gb175 hg w32 hbox hb; have BK175 := Aside0.mk (hbox); have GW175 := Aside0.mk (xZ HB hg); have GE175 := Aside0.mk (xZ HB hg); have NB161_175 := Aside0.mk (xN BK161 hg); have NB175_161 := Aside0.mk (xM BK161 hg); have NB162_175 := Aside0.mk (xN BK162 hg); have NB175_162 := Aside0.mk (xM BK162 hg); have NB163_175 := Aside0.mk (xN BK163 hg); have NB175_163 := Aside0.mk (xM BK163 hg); replace BK161 := Aside0.mk (xB BK161 hb); replace BK162 := Aside0.mk (xB BK162 hb); replace BK163 := Aside0.mk (xB BK163 hb); replace HB := Aside0.mk (xS HB hb); clear hb hbox hg; have hnb33 := NB175_161.out; have hnc33 := NB161_175.out; have hnb34 := NB175_162.out; have hnc34 := NB162_175.out; have hnb35 := NB175_163.out; have hnc35 := NB163_175.out; have hcz36_0 := blkc10 BK175.out; have hcz37_0 := blkc10 BK163.out))
    refine bodyPost_ret (results_ct rfl _ _ gb163 45 #[.int .i64 t164, .int .i64 t165, .int .i64 t166, .int .i64 t167, .int .i64 t168, .int .i64 t169, .int .i64 t170, .int .i64 a2, .bool false, .int .i64 t173] (0, 0) _ rfl (xQ BK163) Try.underlying45 rfl (by kernel_rfl)) rfl ?_
    exact ⟨xer, xW HB⟩
   ·replace c22 := Bool.eq_false_iff.mpr c22
    subst c22
    rw [if_neg (show ¬ (false = true) by decide)] at H
    simp only [Option.some.injEq, Prod.mk.injEq] at H
    obtain ⟨rfl, rfl, rfl, rfl, rfl, rfl, rfl, rfl, rfl, rfl, rfl⟩ := H
    go_enter Try.func26, Try.ntmps26
    go_wp2_with (first | ((with_reducible refine gate_dst (N := 3) rfl ?_); refine box_event ?hg (N := 3) ?hd (cs := #[.slice A0_0 l0_0.length c0_0, .int .i64 a0_1, .int .i64 a0_2]) (t := 42) ?hr ?_; (case hd => rfl); (case hg => rfl); (case hr => first | (go_simp; done) | (go_simp; rfl)); intro gb161 hg w38 hbox hb; have BK161 := Aside0.mk (hbox); have GW161 := Aside0.mk (xZ HB hg); have GE161 := Aside0.mk (xZ HB hg); replace HB := Aside0.mk (xS HB hb); clear hb hbox hg) | ((with_reducible refine gate_dst (N := 4) rfl ?_); refine box_event ?hg (N := 4) ?hd (cs := #[.int .i64 a1_0, .int .i64 a1_1, .int .i64 a1_2, .int .i64 a1_3, .int .i64 a1_4, .int .i64 a1_5, .int .i64 a1_6, .int .i64 a1_7, .bool a1_8, .int .i64 a1_9]) (t := 45) ?hr ?_; (case hd => rfl); (case hg => rfl); (case hr => first | (go_simp; done) | (go_simp; rfl)); intro gb162 hg w39 hbox hb; have BK162 := Aside0.mk (hbox); have GW162 := Aside0.mk (xZ HB hg); have GE162 := Aside0.mk (xZ HB hg); have NB161_162 := Aside0.mk (xN BK161 hg); have NB162_161 := Aside0.mk (xM BK161 hg); replace BK161 := Aside0.mk (xB BK161 hb); replace HB := Aside0.mk (xS HB hb); clear hb hbox hg) | ((with_reducible refine gate_dst (N := 6) rfl ?_); refine box_event ?hg (N := 6) ?hd (cs := #[.int .i64 0, .int .i64 0, .int .i64 0, .int .i64 0, .int .i64 0, .int .i64 0, .int .i64 0, .int .i64 0, .bool false, .int .i64 0]) (t := 45) ?hr ?_; (case hd => rfl); (case hg => rfl); (case hr => first | (go_simp; done) | (go_simp; rfl)); intro gb163 hg w40 hbox hb; have BK163 := Aside0.mk (hbox); have GW163 := Aside0.mk (xZ HB hg); have GE163 := Aside0.mk (xZ HB hg); have NB161_163 := Aside0.mk (xN BK161 hg); have NB163_161 := Aside0.mk (xM BK161 hg); have NB162_163 := Aside0.mk (xN BK162 hg); have NB163_162 := Aside0.mk (xM BK162 hg); replace BK161 := Aside0.mk (xB BK161 hb); replace BK162 := Aside0.mk (xB BK162 hb); replace HB := Aside0.mk (xS HB hb); clear hb hbox hg; have hnb41 := NB161_162.out; have hnc41 := NB162_161.out; have hnb42 := NB161_163.out; have hnc42 := NB163_161.out; have hcz43_0 := blkc3 BK161.out; have hnb44 := NB162_163.out; have hnc44 := NB163_162.out; have hcz45_0 := blkc10 BK162.out) | ((with_reducible refine gate_callee (f := 28) rfl ?_); refine goesL_ (some 14) rfl rfl Try.func28 (by kernel_rfl) rfl #[.agg #[.slice A0_0 l0_0.length c0_0, .int .i64 a0_1, .int .i64 a0_2], .agg #[.int .i64 a1_0, .int .i64 a1_1, .int .i64 a1_2, .int .i64 a1_3, .int .i64 a1_4, .int .i64 a1_5, .int .i64 a1_6, .int .i64 a1_7, .bool a1_8, .int .i64 a1_9], .int .i64 a2] rfl (by (try simp only [List.map_toArray, List.map_cons, List.map_nil]); first | done | rfl | (simp only [List.length_drop, List.length_take]; rfl)) ?_; (with_reducible refine (clock_Look.calls k _ _ l0_0 a0_1 a0_2 a1_0 a1_1 a1_2 a1_3 a1_4 a1_5 a1_6 a1_7 a1_8 a1_9 a2 t164 t165 t166 t167 t168 t169 t170 t171 false t173 t174 _ ?side1 ?side2 A4.out).mono ?_); (case side1 => exact xC (Kd.C_below HR0_0.out HB.out)); (case side2 => exact HC0_0.out); rintro e w46 ⟨rfl, hb⟩; refine ⟨_, rfl, ?_⟩; replace BK161 := Aside0.mk (xB BK161 hb); replace BK162 := Aside0.mk (xB BK162 hb); replace BK163 := Aside0.mk (xB BK163 hb); replace HB := Aside0.mk (xS HB hb); (try clear hb); (try clear hb2); (try clear hk); (try clear hi)) | ((with_reducible refine gate_dst (N := 8) rfl ?_); refine box_event ?hg (N := 8) ?hd (cs := #[.int .i64 0, .int .i64 0, .int .i64 0, .int .i64 0, .int .i64 0, .int .i64 0, .int .i64 0, .int .i64 0, .bool false, .int .i64 0]) (t := 45) ?hr ?_; (case hd => rfl); (case hg => rfl); (case hr => first | (go_simp; done) | (go_simp; rfl)); intro gb175 hg w47 hbox hb; have BK175 := Aside0.mk (hbox); have GW175 := Aside0.mk (xZ HB hg); have GE175 := Aside0.mk (xZ HB hg); have NB161_175 := Aside0.mk (xN BK161 hg); have NB175_161 := Aside0.mk (xM BK161 hg); have NB162_175 := Aside0.mk (xN BK162 hg); have NB175_162 := Aside0.mk (xM BK162 hg); have NB163_175 := Aside0.mk (xN BK163 hg); have NB175_163 := Aside0.mk (xM BK163 hg); replace BK161 := Aside0.mk (xB BK161 hb); replace BK162 := Aside0.mk (xB BK162 hb); replace BK163 := Aside0.mk (xB BK163 hb); replace HB := Aside0.mk (xS HB hb); clear hb hbox hg; have hnb48 := NB175_161.out; have hnc48 := NB161_175.out; have hnb49 := NB175_162.out; have hnc49 := NB162_175.out; have hnb50 := NB175_163.out; have hnc50 := NB163_175.out; have hcz51_0 := blkc10 BK175.out; have hcz52_0 := blkc10 BK163.out))
    refine bodyPost_ret (results_ct rfl _ _ gb163 45 #[.int .i64 0, .int .i64 0, .int .i64 0, .int .i64 0, .int .i64 0, .int .i64 0, .int .i64 0, .int .i64 0, .bool false, .int .i64 0] (0, 0) _ rfl (xQ BK163) Try.underlying45 rfl (by kernel_rfl)) rfl ?_
    exact ⟨xer, xW HB⟩
 ·rw [if_neg c5] at H
  have c5b0 : (t174 == 0) = false := beq_eq_false_iff_ne.mpr c5
  have c5b1 : (t174 != 0) = true := bne_iff_ne.mpr c5
  simp only [Option.some.injEq, Prod.mk.injEq] at H
  obtain ⟨rfl, rfl, rfl, rfl, rfl, rfl, rfl, rfl, rfl, rfl, rfl⟩ := H
  go_enter Try.func26, Try.ntmps26
  go_wp2_with (first | ((with_reducible refine gate_dst (N := 3) rfl ?_); refine box_event ?hg (N := 3) ?hd (cs := #[.slice A0_0 l0_0.length c0_0, .int .i64 a0_1, .int .i64 a0_2]) (t := 42) ?hr ?_; (case hd => rfl); (case hg => rfl); (case hr => first | (go_simp; done) | (go_simp; rfl)); intro gb161 hg w53 hbox hb; have BK161 := Aside0.mk (hbox); have GW161 := Aside0.mk (xZ HB hg); have GE161 := Aside0.mk (xZ HB hg); replace HB := Aside0.mk (xS HB hb); clear hb hbox hg) | ((with_reducible refine gate_dst (N := 4) rfl ?_); refine box_event ?hg (N := 4) ?hd (cs := #[.int .i64 a1_0, .int .i64 a1_1, .int .i64 a1_2, .int .i64 a1_3, .int .i64 a1_4, .int .i64 a1_5, .int .i64 a1_6, .int .i64 a1_7, .bool a1_8, .int .i64 a1_9]) (t := 45) ?hr ?_; (case hd => rfl); (case hg => rfl); (case hr => first | (go_simp; done) | (go_simp; rfl)); intro gb162 hg w54 hbox hb; have BK162 := Aside0.mk (hbox); have GW162 := Aside0.mk (xZ HB hg); have GE162 := Aside0.mk (xZ HB hg); have NB161_162 := Aside0.mk (xN BK161 hg); have NB162_161 := Aside0.mk (xM BK161 hg); replace BK161 := Aside0.mk (xB BK161 hb); replace HB := Aside0.mk (xS HB hb); clear hb hbox hg) | ((with_reducible refine gate_dst (N := 6) rfl ?_); refine box_event ?hg (N := 6) ?hd (cs := #[.int .i64 0, .int .i64 0, .int .i64 0, .int .i64 0, .int .i64 0, .int .i64 0, .int .i64 0, .int .i64 0, .bool false, .int .i64 0]) (t := 45) ?hr ?_; (case hd => rfl); (case hg => rfl); (case hr => first | (go_simp; done) | (go_simp; rfl)); intro gb163 hg w55 hbox hb; have BK163 := Aside0.mk (hbox); have GW163 := Aside0.mk (xZ HB hg); have GE163 := Aside0.mk (xZ HB hg); have NB161_163 := Aside0.mk (xN BK161 hg); have NB163_161 := Aside0.mk (xM BK161 hg); have NB162_163 := Aside0.mk (xN BK162 hg); have NB163_162 := Aside0.mk (xM BK162 hg); replace BK161 := Aside0.mk (xB BK161 hb); replace BK162 := Aside0.mk (xB BK162 hb); replace HB := Aside0.mk (xS HB hb); clear hb hbox hg; have hnb56 := NB161_162.out; have hnc56 := NB162_161.out; have hnb57 := NB161_163.out; have hnc57 := NB163_161.out; have hcz58_0 := blkc3 BK161.out; have hnb59 := NB162_163.out; have hnc59 := NB163_162.out; have hcz60_0 := blkc10 BK162.out) | ((with_reducible refine gate_callee (f := 28) rfl ?_); refine goesL_ (some 14) rfl rfl Try.func28 (by kernel_rfl) rfl #[.agg #[.slice A0_0 l0_0.length c0_0, .int .i64 a0_1, .int .i64 a0_2], .agg #[.int .i64 a1_0, .int .i64 a1_1, .int .i64 a1_2, .int .i64 a1_3, .int .i64 a1_4, .int .i64 a1_5, .int .i64 a1_6, .int .i64 a1_7, .bool a1_8, .int .i64 a1_9], .int .i64 a2] rfl (by (try simp only [List.map_toArray, List.map_cons, List.map_nil]); first | done | rfl | (simp only [List.length_drop, List.length_take]; rfl)) ?_; (with_reducible refine (clock_Look.calls k _ _ l0_0 a0_1 a0_2 a1_0 a1_1 a1_2 a1_3 a1_4 a1_5 a1_6 a1_7 a1_8 a1_9 a2 t164 t165 t166 t167 t168 t169 t170 t171 t172 t173 t174 _ ?side1 ?side2 A4.out).mono ?_); (case side1 => exact xC (Kd.C_below HR0_0.out HB.out)); (case side2 => exact HC0_0.out); rintro e w61 ⟨rfl, hb⟩; refine ⟨_, rfl, ?_⟩; replace BK161 := Aside0.mk (xB BK161 hb); replace BK162 := Aside0.mk (xB BK162 hb); replace BK163 := Aside0.mk (xB BK163 hb); replace HB := Aside0.mk (xS HB hb); (try clear hb); (try clear hb2); (try clear hk); (try clear hi)) | ((with_reducible refine gate_dst (N := 8) rfl ?_); refine box_event ?hg (N := 8) ?hd (cs := #[.int .i64 0, .int .i64 0, .int .i64 0, .int .i64 0, .int .i64 0, .int .i64 0, .int .i64 0, .int .i64 0, .bool false, .int .i64 0]) (t := 45) ?hr ?_; (case hd => rfl); (case hg => rfl); (case hr => first | (go_simp; done) | (go_simp; rfl)); intro gb175 hg w62 hbox hb; have BK175 := Aside0.mk (hbox); have GW175 := Aside0.mk (xZ HB hg); have GE175 := Aside0.mk (xZ HB hg); have NB161_175 := Aside0.mk (xN BK161 hg); have NB175_161 := Aside0.mk (xM BK161 hg); have NB162_175 := Aside0.mk (xN BK162 hg); have NB175_162 := Aside0.mk (xM BK162 hg); have NB163_175 := Aside0.mk (xN BK163 hg); have NB175_163 := Aside0.mk (xM BK163 hg); replace BK161 := Aside0.mk (xB BK161 hb); replace BK162 := Aside0.mk (xB BK162 hb); replace BK163 := Aside0.mk (xB BK163 hb); replace HB := Aside0.mk (xS HB hb); clear hb hbox hg; have hnb63 := NB175_161.out; have hnc63 := NB161_175.out; have hnb64 := NB175_162.out; have hnc64 := NB162_175.out; have hnb65 := NB175_163.out; have hnc65 := NB163_175.out; have hcz66_0 := blkc10 BK175.out; have hcz67_0 := blkc10 BK163.out))
  refine bodyPost_ret (results_ct rfl _ _ gb163 45 #[.int .i64 0, .int .i64 0, .int .i64 0, .int .i64 0, .int .i64 0, .int .i64 0, .int .i64 0, .int .i64 0, .bool false, .int .i64 0] (0, 0) _ rfl (xQ BK163) Try.underlying45 rfl (by kernel_rfl)) rfl ?_
  exact ⟨xer, xW HB⟩

end Go.Proofs.Ytcncilipmekfhaa.PClockStops
