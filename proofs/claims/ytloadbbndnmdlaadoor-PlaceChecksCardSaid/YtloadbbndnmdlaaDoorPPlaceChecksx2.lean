-- Printed by a program of this claim's writer (wip/ext): an extension of the kit's print.
import Derived.Test.YtloadbbndnmdlaaDoorPPlaceChecksx0
import Derived.Test.YtloadbbndnmdlaaDoorPPlaceChecksx1
namespace Go.Proofs.YtloadbbndnmdlaaDoor.PPlaceChecks
open Go.RowKit Go.Proofs.YtloadbbndnmdlaaDoorW.PrintWords Go.Proofs.YtloadbbndnmdlaaDoorW.PrintLast Go.Proofs.YtloadbbndnmdlaaDoorW.PrintMore
set_option maxHeartbeats 8000000
set_option maxRecDepth 100000
attribute [local go_sem] max2_int min2_int max_two min_two max_three min_three max_four min_four   -- for this text's walks alone
set_option linter.unusedVariables false
set_option linter.unusedSimpArgs false

/-! ### rules_pieces: function 26 -/
mutual
def rules_pieces.l0 : Nat → List (S44) → List (S44) → Int → Int → Option (Int)
  | 0, _, _, _, _ => none
  | k + 1, x0, x18, x19, x20 => if x20 < x19 then (if 0 ≤ x20 then (if x20 < (x18.length : Int) then (if ((rd_T44 x18 x20).f0) < 65 then (rules_pieces.j1 k x0 x20 x18 x19 x20 true ((rd_T44 x18 x20).f0) ((rd_T44 x18 x20).f1) ((rd_T44 x18 x20).f2) ((rd_T44 x18 x20).f3)) else (rules_pieces.j1 k x0 x20 x18 x19 x20 (decide (((rd_T44 x18 x20).f0) > 90)) ((rd_T44 x18 x20).f0) ((rd_T44 x18 x20).f1) ((rd_T44 x18 x20).f2) ((rd_T44 x18 x20).f3))) else (none)) else (none)) else (some 0)
def rules_pieces.j1 : Nat → List (S44) → Int → List (S44) → Int → Int → Bool → Int → Int → Int → List (S72) → Option (Int)
  | 0, _, _, _, _, _, _, _, _, _, _ => none
  | k + 1, x0, x3, x18, x19, x20, x32, z104a, z104b, z104c, z104d => if x32 = true then (some 6) else (if 0 ≤ x3 then (if x3 ≤ (x0.length : Int) then ((some (x0.take (x3 : Int).toNat : List (S44))).bind fun y104 => (rules_pieces.l1 k x0 x18 x19 x20 y104 (y104.length : Int) 0 z104a z104b z104c z104d)) else (none)) else (none))
def rules_pieces.l1 : Nat → List (S44) → List (S44) → Int → Int → List (S44) → Int → Int → Int → Int → Int → List (S72) → Option (Int)
  | 0, _, _, _, _, _, _, _, _, _, _, _ => none
  | k + 1, x0, x18, x19, x20, x35, x36, x37, z104a, z104b, z104c, z104d => if x37 < x36 then (if 0 ≤ x37 then (if x37 < (x35.length : Int) then (if ((rd_T44 x35 x37).f0) = z104a then (some 7) else (rules_pieces.l1 k x0 x18 x19 x20 x35 x36 (wrap64 (x37 + 1)) z104a z104b z104c z104d)) else (none)) else (none)) else (if z104b < 0 then (rules_pieces.j3 k x0 x18 x19 x20 true z104a z104b z104c z104d) else (if z104b > 64 then (rules_pieces.j3 k x0 x18 x19 x20 true z104a z104b z104c z104d) else (if z104c < 0 then (rules_pieces.j3 k x0 x18 x19 x20 true z104a z104b z104c z104d) else (rules_pieces.j3 k x0 x18 x19 x20 (decide (z104c > (x0.length : Int))) z104a z104b z104c z104d))))
def rules_pieces.j3 : Nat → List (S44) → List (S44) → Int → Int → Bool → Int → Int → Int → List (S72) → Option (Int)
  | 0, _, _, _, _, _, _, _, _, _ => none
  | k + 1, x0, x18, x19, x20, x66, z104a, z104b, z104c, z104d => if x66 = true then (some 4) else (if (z104d.length : Int) > 16 then (some 2) else (rules_pieces.l2 k x0 x18 x19 x20 z104d (z104d.length : Int) 0))
def rules_pieces.l2 : Nat → List (S44) → List (S44) → Int → Int → List (S72) → Int → Int → Option (Int)
  | 0, _, _, _, _, _, _, _ => none
  | k + 1, x0, x18, x19, x20, x72, x73, x74 => if x74 < x73 then (if 0 ≤ x74 then (if x74 < (x72.length : Int) then ((rules_way.f ((rd_T72 x72 x74).f0) ((rd_T72 x72 x74).f1) ((rd_T72 x72 x74).f2) ((rd_T72 x72 x74).f3)).bind fun t112 => (if t112 = 0 then (rules_pieces.l2 k x0 x18 x19 x20 x72 x73 (wrap64 (x74 + 1))) else (some t112))) else (none)) else (none)) else (rules_pieces.l0 k x0 x18 x19 (wrap64 (x20 + 1)))
end
def rules_pieces.f (k : Nat) (l0 : List (S44)) : Option (Int) := if (l0.length : Int) = 0 then (some 8) else (if (l0.length : Int) > 6 then (some 2) else (rules_pieces.l0 k l0 l0 (l0.length : Int) 0))
theorem rules_pieces.mono_l : ∀ k, LM (LM (LM (LM (LeO)))) (rules_pieces.l0 k) (rules_pieces.l0 (k + 1)) ∧ L10 (LeO) (rules_pieces.j1 k) (rules_pieces.j1 (k + 1)) ∧ L10 (LM (LeO)) (rules_pieces.l1 k) (rules_pieces.l1 (k + 1)) ∧ L5 (LM (LM (LM (LM (LeO))))) (rules_pieces.j3 k) (rules_pieces.j3 (k + 1)) ∧ L5 (LM (LM (LeO))) (rules_pieces.l2 k) (rules_pieces.l2 (k + 1))
  | 0 => by refine ⟨?_, ?_, ?_, ?_, ?_⟩ <;> (repeat (first | exact LeO.none _ | intro _))
  | k + 1 => by
    obtain ⟨ih0, ih1, ih2, ih3, ih4⟩ := rules_pieces.mono_l k; refine ⟨?_, ?_, ?_, ?_, ?_⟩ <;> ((repeat (first | (with_reducible refine LeO.st ?_) | intro _)); constructor; (first | unfold rules_pieces.l0 | unfold rules_pieces.j1 | unfold rules_pieces.l1 | unfold rules_pieces.j3 | unfold rules_pieces.l2); repeat' first | (with_reducible first | apply ih0 | apply ih1 | apply ih2 | apply ih3 | apply ih4 | exact LeO.refl _ | exact LeO.none _ | refine LeO.ite ?_ ?_ | refine LeO.bind ?_ (fun _ => ?_)) | apply ih0 | apply ih1 | apply ih2 | apply ih3 | apply ih4 | exact LeO.none _ | refine LeO.ite ?_ ?_ | refine LeO.bind ?_ (fun _ => ?_))
theorem rules_pieces.mono : ∀ a0 k, LeO (rules_pieces.f k a0) (rules_pieces.f (k + 1) a0) := by
  intros; rename_i k; obtain ⟨ih0, ih1, ih2, ih3, ih4⟩ := rules_pieces.mono_l k
  unfold rules_pieces.f
  repeat' first | (with_reducible first | apply ih0 | apply ih1 | apply ih2 | apply ih3 | apply ih4 | exact LeO.refl _ | exact LeO.none _ | refine LeO.ite ?_ ?_ | refine LeO.bind ?_ (fun _ => ?_)) | apply ih0 | apply ih1 | apply ih2 | apply ih3 | apply ih4 | exact LeO.none _ | refine LeO.ite ?_ ?_ | refine LeO.bind ?_ (fun _ => ?_)
theorem rules_pieces.calls (k : Nat) (A0 : Option Addr) (c0 : Nat) (l0 : List (S44)) (r : Int) (w : World) (hr0 : Kd.C k44 w A0 l0.length l0) (hc0 : l0.length ≤ c0) (h : rules_pieces.f k l0 = some r) :
    Calls Tryd.prog 26 #[.slice A0 l0.length c0] w fun e w' => e = .returned (.int .i64 r) ∧ Below w.heap.size w w' := by
 have hu44 := Tryd.underlying44; have hu72 := Tryd.underlying72; have HR0 := xm hr0; have HC0 := xm hc0; clear hr0 hc0; have HB := xm (Below.refl w.heap.size w); have hss_ := @isSome_setCell; have H : (if (l0.length : Int) = 0 then (some 8) else (if (l0.length : Int) > 6 then (some 2) else (rules_pieces.l0 k l0 l0 (l0.length : Int) 0))) = some r := h; clear h
 by_cases c2 : (l0.length : Int) = 0
 ·rw [if_pos c2] at H; have c2b0 := beq_iff_eq.mpr c2; have c2b1 := bne_eq_false_iff_eq.mpr c2; clear c2; obtain rfl := Option.some.inj H; go_enter Tryd.func26, Tryd.ntmps26
  go_wp2
  go_ret; exact ⟨xer, xW HB⟩
 ·rw [if_neg c2] at H; have c2b0 := beq_eq_false_iff_ne.mpr c2; have c2b1 := bne_iff_ne.mpr c2; have c2b2 : ¬ (l0 = []) := fun h_ => c2 (by rw [h_]; rfl)
  by_cases c3 : (l0.length : Int) > 6
  ·rw [if_pos c3] at H; have c3b0 := decide_eq_true c3; have c3b1 : decide (6 < l0.length) = true := decide_eq_true (by omega); clear c3; obtain rfl := Option.some.inj H; go_enter Tryd.func26, Tryd.ntmps26
   go_wp2
   go_ret; exact ⟨xer, xW HB⟩
  ·rw [if_neg c3] at H; have c3b0 := decide_eq_false c3; have c3b1 : decide (6 < l0.length) = false := decide_eq_false (by omega); clear c3; have H' := xm H; clear H; go_enter Tryd.func26, Tryd.ntmps26
   go_wp2
   go_loopg [20] k (fun kq vs20 w' => ∃ (x20_1 : Int), vs20 = .int .i64 x20_1 ∧ Aside0 (rules_pieces.l0 kq l0 l0 (l0.length : Int) x20_1 = some r) ∧ Aside0 (kq ≤ k) ∧ Aside0 (Below w.heap.size w w'))
   case atStart => exact ⟨(0), (xrf), H', ⟨Nat.le_refl _⟩, ⟨xW HB⟩⟩
   case round =>
    clear H'; (try clear p2); obtain ⟨x20_1, rfl, HA, HK1, HB⟩ := hrel
    cases gk with
    | zero => exact absurd HA.out (by simp [rules_pieces.l0])
    | succ k1 =>
     have H := HA.out; clear HA; simp only [rules_pieces.l0] at H
     by_cases c4 : x20_1 < (l0.length : Int)
     ·rw [if_pos c4] at H; have c4b0 := decide_eq_true c4; clear c4; obtain ⟨c5b0, H⟩ := xJ H; obtain ⟨c6b0, H⟩ := xJ H; have HC7 := xm H; clear H; have p102 : 0 ≤ (x20_1 : Int) := xO; have q102 : x20_1 < (l0.length : Int) := xO; obtain ⟨ad102, A102_3, c102_3, e102, hx102_0, hx102_1, hx102_2, hx102_3, hl102_3, hi102_3⟩ := at_T44 HR0.out x20_1 p102 q102
      cases e102
      (first | replace hx102_0 := xR HB hx102_0 | skip); (first | replace hx102_1 := xR HB hx102_1 | skip); (first | replace hx102_2 := xR HB hx102_2 | skip); (first | replace hx102_3 := xR HB hx102_3 | skip); have HR102_3 := xm hi102_3; have HC102_3 := xm hl102_3; clear hi102_3 hl102_3; replace p102 := eq_true p102; replace q102 := eq_true q102
      go_upto_region 8 with (first | ((with_reducible refine gate_dst (N := 4) rfl ?_); (try (refine gate_guard (by rfl) ?_; dsimp only)); refine xG (cs := #[.int .u8 0, .int .i64 0, .int .i64 0, .slice none 0 0]) (t := 44) ?_; intro gb103 hg w8 hbox hb; have BK103 := xm (hbox); have GW103 := xZ HB hg; have GE103 := xZ HB hg; replace HB := xS HB hb; clear hb hbox hg; have hcz9_0 := blkc4 BK103.out))
      (try simp only [Act.put, List.setIfInBounds_toArray, List.set_cons_zero, List.set_cons_succ])
      go_cut [32] (fun vs32 wc => ∃ (kq : Nat) (x32_6 : Bool), vs32 = .bool x32_6 ∧ Aside0 (rules_pieces.j1 kq l0 x20_1 l0 (l0.length : Int) x20_1 x32_6 ((rd_T44 l0 x20_1).f0) ((rd_T44 l0 x20_1).f1) ((rd_T44 l0 x20_1).f2) ((rd_T44 l0 x20_1).f3) = some r) ∧ Aside0 (kq ≤ k1) ∧ Aside0 (wc.heap[gb103]? = some (.cells #[.int .u8 ((rd_T44 l0 x20_1).f0), .int .i64 ((rd_T44 l0 x20_1).f1), .int .i64 ((rd_T44 l0 x20_1).f2), (.slice A102_3 ((rd_T44 l0 x20_1).f3).length c102_3)] 44 (0, 0))) ∧ Aside0 (Below w.heap.size w wc))
      case first =>
       have H := HC7.out; clear HC7
       by_cases c10 : ((rd_T44 l0 x20_1).f0) < 65
       ·rw [if_pos c10] at H; have c10b0 := decide_eq_true c10; clear c10
        (first | rw [c10b0] | (simp only [i64_w, i32_w]; rw [c10b0]) | skip)
        have H' := xm H; clear H; have hcz11_0 := blkc4 BK103.out
        go_wp2
        go_meet
        case rel => exact ⟨_, (true), (xrf), H', ⟨by have := HK1.out; first | omega | exact Nat.le_refl _⟩, ⟨xQ BK103⟩, ⟨xW HB⟩⟩
       ·rw [if_neg c10] at H; have c10b0 := decide_eq_false c10; clear c10
        (first | rw [c10b0] | (simp only [i64_w, i32_w]; rw [c10b0]) | skip)
        have H' := xm H; clear H; have hcz12_0 := blkc4 BK103.out
        go_wp2
        go_meet
        case rel => exact ⟨_, (decide (((rd_T44 l0 x20_1).f0) > 90)), (xrf), H', ⟨by have := HK1.out; first | omega | exact Nat.le_refl _⟩, ⟨xQ BK103⟩, ⟨xW HB⟩⟩
      case rest =>
       clear HC7; (try clear p1); (try clear q1); (try clear hx1); (try clear p2); (try clear p10); (try clear q10); (try clear hx10); (try clear hx102_0); (try clear hx102_1); (try clear hx102_2); (try clear hx102_3); (try clear p102); (try clear q102); obtain ⟨kq, x32_6, rfl, HA, HJ6, BK103, HB⟩ := hcut
       cases kq with
       | zero => exact absurd HA.out (by simp [rules_pieces.j1])
       | succ kj6 =>
        have H := HA.out; clear HA; simp only [rules_pieces.j1] at H
        by_cases c13 : x32_6 = true
        ·subst c13; rw [if_pos rfl] at H; obtain rfl := Option.some.inj H
         go_wp2
         go_ret; exact ⟨xer, xW HB⟩
        ·obtain rfl := Bool.eq_false_iff.mpr c13; rw [if_neg xF] at H; obtain ⟨c14, H⟩ := xI H; have c14b0 := eq_true c14; have c14b1 := decide_eq_true c14; clear c14; obtain ⟨c15, H⟩ := xI H; have c15b0 := eq_true c15; have c15b1 := decide_eq_true c15; clear c15; obtain ⟨y104, hy104⟩ : ∃ y_ : List (S44), y_ = (l0.take (x20_1 : Int).toNat) := ⟨_, rfl⟩
         replace H : (rules_pieces.l1 kj6 l0 l0 (l0.length : Int) x20_1 y104 (y104.length : Int) 0 ((rd_T44 l0 x20_1).f0) ((rd_T44 l0 x20_1).f1) ((rd_T44 l0 x20_1).f2) ((rd_T44 l0 x20_1).f3)) = some r := by first | (rw [hy104]; with_reducible exact H) | (have H2_ := (Option.bind_some _ _).symm.trans H; rw [hy104]; with_reducible exact H2_) | (have H2_ := (Option.bind_some _ _).symm.trans H; with_reducible exact H2_) | with_reducible exact H | (rw [hy104]; exact H) | exact H
         have Ny104 := xm hy104; clear hy104; have H' := xm H; clear H; have q16 : (x20_1 : Int) ≤ ((l0.length : Int) : Int) := xO; obtain ⟨i016, hi016, _, hsz16, _⟩ := info_parts info44; have hroom16 : l0.length ≤ c0 := HC0.out; have hC16 : Kd.C k44 _ (some ad102) l0.length l0 := HR0.out; have hcut16 := cut_to (P := Tryd.prog) 22 44 .i64 Tryd.underlying22 hi016 (some ad102) l0.length c0 x20_1 (xO) q16 hroom16; have hr16 := Kd.C_take (m := (x20_1 : Int).toNat) hC16 (by omega); have hy16 : y104.length = (x20_1 : Int).toNat := (by rw [Ny104.out, List.length_take]; omega)
         rw [← Ny104.out] at hr16; rw [← hy16] at hcut16; have HR107 := xm hr16; have HC107 := xm (show y104.length ≤ c0 from by omega); clear hr16 hC16 hroom16 hi016 hsz16; have KY16 := xm hy16; clear hy16; replace q16 := eq_true q16
         go_wp2
         go_loopg [37] kj6 (fun kq vs37 w' => ∃ (x37_3 : Int), vs37 = .int .i64 x37_3 ∧ Aside0 (rules_pieces.l1 kq l0 l0 (l0.length : Int) x20_1 y104 (y104.length : Int) x37_3 ((rd_T44 l0 x20_1).f0) ((rd_T44 l0 x20_1).f1) ((rd_T44 l0 x20_1).f2) ((rd_T44 l0 x20_1).f3) = some r) ∧ Aside0 (kq ≤ kj6) ∧ Aside0 (w'.heap[gb103]? = some (.cells #[.int .u8 ((rd_T44 l0 x20_1).f0), .int .i64 ((rd_T44 l0 x20_1).f1), .int .i64 ((rd_T44 l0 x20_1).f2), (.slice A102_3 ((rd_T44 l0 x20_1).f3).length c102_3)] 44 (0, 0))) ∧ Aside0 (Below w.heap.size w w'))
         case atStart => exact ⟨(0), (xrf), H', ⟨Nat.le_refl _⟩, ⟨xK BK103⟩, ⟨xW HB⟩⟩
         case round =>
          clear H'; (try clear p1); (try clear q1); (try clear hx1); (try clear p2); (try clear p10); (try clear q10); (try clear hx10); (try clear q16); (try clear hx102_0); (try clear hx102_1); (try clear hx102_2); (try clear hx102_3); (try clear p102); (try clear q102); obtain ⟨x37_3, rfl, HA, HK3, BK103, HB⟩ := hrel
          cases gk with
          | zero => exact absurd HA.out (by simp [rules_pieces.l1])
          | succ k3 =>
           have H := HA.out; clear HA; simp only [rules_pieces.l1] at H
           by_cases c17 : x37_3 < (y104.length : Int)
           ·rw [if_pos c17] at H; have c17b0 := decide_eq_true c17; clear c17; obtain ⟨c18b0, H⟩ := xJ H; obtain ⟨c19b0, H⟩ := xJ H
            by_cases c20 : ((rd_T44 y104 x37_3).f0) = ((rd_T44 l0 x20_1).f0)
            ·rw [if_pos c20] at H; have c20b0 := beq_iff_eq.mpr c20; have c20b1 := bne_eq_false_iff_eq.mpr c20; clear c20; obtain rfl := Option.some.inj H; have p108 : 0 ≤ (x37_3 : Int) := xO; have q108 : x37_3 < (y104.length : Int) := xO; obtain ⟨ad108, A108_3, c108_3, e108, hx108_0, hx108_1, hx108_2, hx108_3, hl108_3, hi108_3⟩ := at_T44 HR107.out x37_3 p108 q108; obtain rfl : ad102 = ad108 := (by injection e108)
             (first | replace hx108_0 := xR HB hx108_0 | skip); (first | replace hx108_1 := xR HB hx108_1 | skip); (first | replace hx108_2 := xR HB hx108_2 | skip); (first | replace hx108_3 := xR HB hx108_3 | skip); have HR108_3 := xm hi108_3; have HC108_3 := xm hl108_3; clear hi108_3 hl108_3; replace p108 := eq_true p108; replace q108 := eq_true q108
             go_wp2_with (first | ((with_reducible refine gate_dst (N := 6) rfl ?_); (try (refine gate_guard (by rfl) ?_; dsimp only)); refine xG (cs := #[.int .u8 0, .int .i64 0, .int .i64 0, .slice none 0 0]) (t := 44) ?_; intro gb109 hg w21 hbox hb; have BK109 := xm (hbox); have GW109 := xZ HB hg; have GE109 := xZ HB hg; have NB103_109 := xN BK103 hg; have NB109_103 := xM BK103 hg; replace BK103 := xB BK103 hb; replace HB := xS HB hb; clear hb hbox hg; have hnb22 := NB109_103.out; have hnc22 := NB103_109.out; have hcz23_0 := blkc4 BK109.out; have hcz24_0 := blkc4 BK103.out)); go_ret; exact ⟨xer, xW HB⟩
            ·rw [if_neg c20] at H; have c20b0 := beq_eq_false_iff_ne.mpr c20; have c20b1 := bne_iff_ne.mpr c20; have H' := xm H; clear H; have p108 : 0 ≤ (x37_3 : Int) := xO; have q108 : x37_3 < (y104.length : Int) := xO; obtain ⟨ad108, A108_3, c108_3, e108, hx108_0, hx108_1, hx108_2, hx108_3, hl108_3, hi108_3⟩ := at_T44 HR107.out x37_3 p108 q108; obtain rfl : ad102 = ad108 := (by injection e108)
             (first | replace hx108_0 := xR HB hx108_0 | skip); (first | replace hx108_1 := xR HB hx108_1 | skip); (first | replace hx108_2 := xR HB hx108_2 | skip); (first | replace hx108_3 := xR HB hx108_3 | skip); have HR108_3 := xm hi108_3; have HC108_3 := xm hl108_3; clear hi108_3 hl108_3; replace p108 := eq_true p108; replace q108 := eq_true q108
             go_wp2_with (first | ((with_reducible refine gate_dst (N := 6) rfl ?_); (try (refine gate_guard (by rfl) ?_; dsimp only)); refine xG (cs := #[.int .u8 0, .int .i64 0, .int .i64 0, .slice none 0 0]) (t := 44) ?_; intro gb109 hg w25 hbox hb; have BK109 := xm (hbox); have GW109 := xZ HB hg; have GE109 := xZ HB hg; have NB103_109 := xN BK103 hg; have NB109_103 := xM BK103 hg; replace BK103 := xB BK103 hb; replace HB := xS HB hb; clear hb hbox hg; have hnb26 := NB109_103.out; have hnc26 := NB103_109.out; have hcz27_0 := blkc4 BK109.out; have hcz28_0 := blkc4 BK103.out)); go_roundg k3
             case measure => have := HK1.out; have := HJ6.out; have := HK3.out; omega
             case rel => exact ⟨(wrap64 (x37_3 + 1)), (xrf), H', ⟨by have := HK1.out; have := HJ6.out; have := HK3.out; omega⟩, ⟨xK BK103⟩, ⟨xW HB⟩⟩
           ·rw [if_neg c17] at H; have c17b0 := decide_eq_false c17; clear c17; have HC29 := xm H; clear H
            go_upto_region 16 with (fail)
            go_cut [66] (fun vs66 wc => ∃ (kq : Nat) (x66_28 : Bool), vs66 = .bool x66_28 ∧ Aside0 (rules_pieces.j3 kq l0 l0 (l0.length : Int) x20_1 x66_28 ((rd_T44 l0 x20_1).f0) ((rd_T44 l0 x20_1).f1) ((rd_T44 l0 x20_1).f2) ((rd_T44 l0 x20_1).f3) = some r) ∧ Aside0 (kq ≤ k3) ∧ Aside0 (wc.heap[gb103]? = some (.cells #[.int .u8 ((rd_T44 l0 x20_1).f0), .int .i64 ((rd_T44 l0 x20_1).f1), .int .i64 ((rd_T44 l0 x20_1).f2), (.slice A102_3 ((rd_T44 l0 x20_1).f3).length c102_3)] 44 (0, 0))) ∧ Aside0 (Below w.heap.size w wc))
            case first =>
             have H := HC29.out; clear HC29
             by_cases c30 : ((rd_T44 l0 x20_1).f1) < 0
             ·rw [if_pos c30] at H; have c30b0 := decide_eq_true c30; clear c30
              (first | rw [c30b0] | (simp only [i64_w, i32_w]; rw [c30b0]) | skip)
              have H' := xm H; clear H; have hcz31_0 := blkc4 BK103.out
              go_wp2
              go_meet
              case rel => exact ⟨_, (true), (xrf), H', ⟨by have := HK1.out; have := HJ6.out; have := HK3.out; first | omega | exact Nat.le_refl _⟩, ⟨xK BK103⟩, ⟨xW HB⟩⟩
             ·rw [if_neg c30] at H; have c30b0 := decide_eq_false c30; clear c30
              (first | rw [c30b0] | (simp only [i64_w, i32_w]; rw [c30b0]) | skip)
              by_cases c32 : ((rd_T44 l0 x20_1).f1) > 64
              ·rw [if_pos c32] at H; have c32b0 := decide_eq_true c32; clear c32; have H' := xm H; clear H; have hcz33_0 := blkc4 BK103.out
               go_wp2
               go_meet
               case rel => exact ⟨_, (true), (xrf), H', ⟨by have := HK1.out; have := HJ6.out; have := HK3.out; first | omega | exact Nat.le_refl _⟩, ⟨xK BK103⟩, ⟨xW HB⟩⟩
              ·rw [if_neg c32] at H; have c32b0 := decide_eq_false c32; clear c32
               by_cases c34 : ((rd_T44 l0 x20_1).f2) < 0
               ·rw [if_pos c34] at H; have c34b0 := decide_eq_true c34; clear c34; have H' := xm H; clear H; have hcz35_0 := blkc4 BK103.out
                go_wp2
                go_meet
                case rel => exact ⟨_, (true), (xrf), H', ⟨by have := HK1.out; have := HJ6.out; have := HK3.out; first | omega | exact Nat.le_refl _⟩, ⟨xK BK103⟩, ⟨xW HB⟩⟩
               ·rw [if_neg c34] at H; have c34b0 := decide_eq_false c34; clear c34; have H' := xm H; clear H; have hcz36_0 := blkc4 BK103.out
                go_wp2
                go_meet
                case rel => exact ⟨_, (decide (((rd_T44 l0 x20_1).f2) > (l0.length : Int))), (xrf), H', ⟨by have := HK1.out; have := HJ6.out; have := HK3.out; first | omega | exact Nat.le_refl _⟩, ⟨xK BK103⟩, ⟨xW HB⟩⟩
            case rest =>
             clear HC29; (try clear p1); (try clear q1); (try clear hx1); (try clear p2); (try clear p6); (try clear p10); (try clear q10); (try clear hx10); (try clear q16); (try clear hx102_0); (try clear hx102_1); (try clear hx102_2); (try clear hx102_3); (try clear hx108_0); (try clear hx108_1); (try clear hx108_2); (try clear hx108_3); (try clear p102); (try clear p108); (try clear q102); (try clear q108); obtain ⟨kq, x66_28, rfl, HA, HJ28, BK103, HB⟩ := hcut
             cases kq with
             | zero => exact absurd HA.out (by simp [rules_pieces.j3])
             | succ kj28 =>
              have H := HA.out; clear HA; simp only [rules_pieces.j3] at H
              by_cases c37 : x66_28 = true
              ·subst c37; rw [if_pos rfl] at H; obtain rfl := Option.some.inj H
               go_wp2
               go_ret; exact ⟨xer, xW HB⟩
              ·obtain rfl := Bool.eq_false_iff.mpr c37; rw [if_neg xF] at H
               by_cases c38 : (((rd_T44 l0 x20_1).f3).length : Int) > 16
               ·rw [if_pos c38] at H; have c38b0 := decide_eq_true c38; have c38b1 : decide (16 < ((rd_T44 l0 x20_1).f3).length) = true := decide_eq_true (by omega); clear c38; obtain rfl := Option.some.inj H; have hcz39_0 := blkc4 BK103.out
                go_wp2
                go_ret; exact ⟨xer, xW HB⟩
               ·rw [if_neg c38] at H; have c38b0 := decide_eq_false c38; have c38b1 : decide (16 < ((rd_T44 l0 x20_1).f3).length) = false := decide_eq_false (by omega); clear c38; have H' := xm H; clear H; have hcz40_0 := blkc4 BK103.out
                go_wp2
                go_loopg [74] kj28 (fun kq vs74 w' => ∃ (x74_5 : Int), vs74 = .int .i64 x74_5 ∧ Aside0 (rules_pieces.l2 kq l0 l0 (l0.length : Int) x20_1 ((rd_T44 l0 x20_1).f3) (((rd_T44 l0 x20_1).f3).length : Int) x74_5 = some r) ∧ Aside0 (kq ≤ kj28) ∧ Aside0 (w'.heap[gb103]? = some (.cells #[.int .u8 ((rd_T44 l0 x20_1).f0), .int .i64 ((rd_T44 l0 x20_1).f1), .int .i64 ((rd_T44 l0 x20_1).f2), (.slice A102_3 ((rd_T44 l0 x20_1).f3).length c102_3)] 44 (0, 0))) ∧ Aside0 (Below w.heap.size w w'))
                case atStart => exact ⟨(0), (xrf), H', ⟨Nat.le_refl _⟩, ⟨xK BK103⟩, ⟨xW HB⟩⟩
                case round =>
                 clear H'; (try clear p1); (try clear q1); (try clear hx1); (try clear p2); (try clear p6); (try clear p10); (try clear q10); (try clear hx10); (try clear q16); (try clear hx102_0); (try clear hx102_1); (try clear hx102_2); (try clear hx102_3); (try clear hx108_0); (try clear hx108_1); (try clear hx108_2); (try clear hx108_3); (try clear p102); (try clear p108); (try clear q102); (try clear q108); obtain ⟨x74_5, rfl, HA, HK5, BK103, HB⟩ := hrel
                 cases gk with
                 | zero => exact absurd HA.out (by simp [rules_pieces.l2])
                 | succ k5 =>
                  have H := HA.out; clear HA; simp only [rules_pieces.l2] at H
                  by_cases c41 : x74_5 < (((rd_T44 l0 x20_1).f3).length : Int)
                  ·rw [if_pos c41] at H; have c41b0 := decide_eq_true c41; clear c41; obtain ⟨c42b0, H⟩ := xJ H; obtain ⟨c43b0, H⟩ := xJ H; obtain ⟨t112, A44, H⟩ := xH H; (try dsimp only at H)
                   by_cases c45 : t112 = 0
                   ·rw [if_pos c45] at H; have c45b0 := beq_iff_eq.mpr c45; have c45b1 := bne_eq_false_iff_eq.mpr c45; clear c45; have H' := xm H; clear H; have p110 : 0 ≤ (x74_5 : Int) := xO; have q110 : x74_5 < (((rd_T44 l0 x20_1).f3).length : Int) := xO; obtain ⟨ad110, e110, hx110_0, hx110_1, hx110_2, hx110_3⟩ := at_T72 HR102_3.out x74_5 p110 q110
                    cases e110
                    (first | replace hx110_0 := xR HB hx110_0 | skip); (first | replace hx110_1 := xR HB hx110_1 | skip); (first | replace hx110_2 := xR HB hx110_2 | skip); (first | replace hx110_3 := xR HB hx110_3 | skip); replace p110 := eq_true p110; replace q110 := eq_true q110
                    go_wp2_with (first | ((with_reducible refine gate_dst (N := 8) rfl ?_); (try (refine gate_guard (by rfl) ?_; dsimp only)); refine xG (cs := #[.int .i64 0, .int .i64 0, .int .i64 0, .int .i64 0]) (t := 72) ?_; intro gb111 hg w46 hbox hb; have BK111 := xm (hbox); have GW111 := xZ HB hg; have GE111 := xZ HB hg; have NB103_111 := xN BK103 hg; have NB111_103 := xM BK103 hg; replace BK103 := xB BK103 hb; replace HB := xS HB hb; clear hb hbox hg; have hnb47 := NB111_103.out; have hnc47 := NB103_111.out; have hcz48_0 := blkc4 BK111.out) | ((with_reducible refine gate_callee (f := 35) rfl ?_); refine xL (some 79) Tryd.func35 #[.agg #[.int .i64 ((rd_T72 ((rd_T44 l0 x20_1).f3) x74_5).f0), .int .i64 ((rd_T72 ((rd_T44 l0 x20_1).f3) x74_5).f1), .int .i64 ((rd_T72 ((rd_T44 l0 x20_1).f3) x74_5).f2), .int .i64 ((rd_T72 ((rd_T44 l0 x20_1).f3) x74_5).f3)]] rfl ?_; (with_reducible refine (rules_way.calls ((rd_T72 ((rd_T44 l0 x20_1).f3) x74_5).f0) ((rd_T72 ((rd_T44 l0 x20_1).f3) x74_5).f1) ((rd_T72 ((rd_T44 l0 x20_1).f3) x74_5).f2) ((rd_T72 ((rd_T44 l0 x20_1).f3) x74_5).f3) t112 _ A44.out).mono ?_); rintro e w49 ⟨rfl, hb⟩; refine ⟨_, rfl, ?_⟩; replace BK103 := xB BK103 hb; replace BK111 := xm (xP (l' := [.int .i64 ((rd_T72 ((rd_T44 l0 x20_1).f3) x74_5).f0), .int .i64 ((rd_T72 ((rd_T44 l0 x20_1).f3) x74_5).f1), .int .i64 ((rd_T72 ((rd_T44 l0 x20_1).f3) x74_5).f2), .int .i64 ((rd_T72 ((rd_T44 l0 x20_1).f3) x74_5).f3)]) BK111 hb); replace HB := xS HB hb; (try clear hb); (try clear hb2); (try clear hk); (try clear hi))); go_roundg k5
                    case measure => have := HK1.out; have := HJ6.out; have := HK3.out; have := HJ28.out; have := HK5.out; omega
                    case rel => exact ⟨(wrap64 (x74_5 + 1)), (xrf), H', ⟨by have := HK1.out; have := HJ6.out; have := HK3.out; have := HJ28.out; have := HK5.out; omega⟩, ⟨xK BK103⟩, ⟨xW HB⟩⟩
                   ·rw [if_neg c45] at H; have c45b0 := beq_eq_false_iff_ne.mpr c45; have c45b1 := bne_iff_ne.mpr c45; obtain rfl := Option.some.inj H; have p110 : 0 ≤ (x74_5 : Int) := xO; have q110 : x74_5 < (((rd_T44 l0 x20_1).f3).length : Int) := xO; obtain ⟨ad110, e110, hx110_0, hx110_1, hx110_2, hx110_3⟩ := at_T72 HR102_3.out x74_5 p110 q110
                    cases e110
                    (first | replace hx110_0 := xR HB hx110_0 | skip); (first | replace hx110_1 := xR HB hx110_1 | skip); (first | replace hx110_2 := xR HB hx110_2 | skip); (first | replace hx110_3 := xR HB hx110_3 | skip); replace p110 := eq_true p110; replace q110 := eq_true q110
                    go_wp2_with (first | ((with_reducible refine gate_dst (N := 8) rfl ?_); (try (refine gate_guard (by rfl) ?_; dsimp only)); refine xG (cs := #[.int .i64 0, .int .i64 0, .int .i64 0, .int .i64 0]) (t := 72) ?_; intro gb111 hg w50 hbox hb; have BK111 := xm (hbox); have GW111 := xZ HB hg; have GE111 := xZ HB hg; have NB103_111 := xN BK103 hg; have NB111_103 := xM BK103 hg; replace BK103 := xB BK103 hb; replace HB := xS HB hb; clear hb hbox hg; have hnb51 := NB111_103.out; have hnc51 := NB103_111.out; have hcz52_0 := blkc4 BK111.out) | ((with_reducible refine gate_callee (f := 35) rfl ?_); refine xL (some 79) Tryd.func35 #[.agg #[.int .i64 ((rd_T72 ((rd_T44 l0 x20_1).f3) x74_5).f0), .int .i64 ((rd_T72 ((rd_T44 l0 x20_1).f3) x74_5).f1), .int .i64 ((rd_T72 ((rd_T44 l0 x20_1).f3) x74_5).f2), .int .i64 ((rd_T72 ((rd_T44 l0 x20_1).f3) x74_5).f3)]] rfl ?_; (with_reducible refine (rules_way.calls ((rd_T72 ((rd_T44 l0 x20_1).f3) x74_5).f0) ((rd_T72 ((rd_T44 l0 x20_1).f3) x74_5).f1) ((rd_T72 ((rd_T44 l0 x20_1).f3) x74_5).f2) ((rd_T72 ((rd_T44 l0 x20_1).f3) x74_5).f3) t112 _ A44.out).mono ?_); rintro e w53 ⟨rfl, hb⟩; refine ⟨_, rfl, ?_⟩; replace BK103 := xB BK103 hb; replace BK111 := xm (xP (l' := [.int .i64 ((rd_T72 ((rd_T44 l0 x20_1).f3) x74_5).f0), .int .i64 ((rd_T72 ((rd_T44 l0 x20_1).f3) x74_5).f1), .int .i64 ((rd_T72 ((rd_T44 l0 x20_1).f3) x74_5).f2), .int .i64 ((rd_T72 ((rd_T44 l0 x20_1).f3) x74_5).f3)]) BK111 hb); replace HB := xS HB hb; (try clear hb); (try clear hb2); (try clear hk); (try clear hi))); go_ret; exact ⟨xer, xW HB⟩
                  ·rw [if_neg c41] at H; have c41b0 := decide_eq_false c41; clear c41; have H' := xm H; clear H
                   go_wp2
                   go_roundg k5
                   case measure => have := HK1.out; have := HJ6.out; have := HK3.out; have := HJ28.out; have := HK5.out; omega
                   case rel => exact ⟨(wrap64 (x20_1 + 1)), (xrf), H', ⟨by have := HK1.out; have := HJ6.out; have := HK3.out; have := HJ28.out; have := HK5.out; omega⟩, ⟨xW HB⟩⟩
     ·rw [if_neg c4] at H; have c4b0 := decide_eq_false c4; clear c4; obtain rfl := Option.some.inj H
      go_wp2
      go_ret; exact ⟨xer, xW HB⟩

/-! ### rules_end: function 27 -/
def rules_end.f (a0_0 : Int) (a0_1 : Int) (a0_2 : Int) (a0_3 : Bool) (a1 : Int) : Option (Int) := if a0_0 = 0 then (if a0_1 = 0 then (if a0_2 < 1 then (some 4) else (if a0_2 > 64 then (some 4) else (some 0))) else (some 4)) else (if a0_0 = 1 then (if a0_1 < 0 then (some 4) else (if a0_1 ≥ a1 then (some 4) else (if a0_2 = 0 then (some 0) else (some 4)))) else (if a0_0 = 2 then (if a0_1 < 0 then (some 4) else (if a0_1 ≥ a1 then (some 4) else (if a0_2 < 1 then (some 4) else (if a0_2 > 64 then (some 4) else (some 0))))) else (some 1)))
theorem rules_end.calls (a0_0 : Int) (a0_1 : Int) (a0_2 : Int) (a0_3 : Bool) (a1 : Int) (r : Int) (w : World) (h : rules_end.f a0_0 a0_1 a0_2 a0_3 a1 = some r) :
    Calls Tryd.prog 27 #[.agg #[.int .i64 a0_0, .int .i64 a0_1, .int .i64 a0_2, .bool a0_3], .int .i64 a1] w fun e w' => e = .returned (.int .i64 r) ∧ Below w.heap.size w w' := by
 have hu46 := Tryd.underlying46; have HB := xm (Below.refl w.heap.size w); have hss_ := @isSome_setCell; have H : (if a0_0 = 0 then (if a0_1 = 0 then (if a0_2 < 1 then (some 4) else (if a0_2 > 64 then (some 4) else (some 0))) else (some 4)) else (if a0_0 = 1 then (if a0_1 < 0 then (some 4) else (if a0_1 ≥ a1 then (some 4) else (if a0_2 = 0 then (some 0) else (some 4)))) else (if a0_0 = 2 then (if a0_1 < 0 then (some 4) else (if a0_1 ≥ a1 then (some 4) else (if a0_2 < 1 then (some 4) else (if a0_2 > 64 then (some 4) else (some 0))))) else (some 1)))) = some r := h; clear h
 by_cases c3 : a0_0 = 0
 ·rw [if_pos c3] at H; have c3b0 := beq_iff_eq.mpr c3; have c3b1 := bne_eq_false_iff_eq.mpr c3; clear c3
  by_cases c4 : a0_1 = 0
  ·rw [if_pos c4] at H; have c4b0 := beq_iff_eq.mpr c4; have c4b1 := bne_eq_false_iff_eq.mpr c4; clear c4
   by_cases c5 : a0_2 < 1
   ·rw [if_pos c5] at H; have c5b0 := decide_eq_true c5; clear c5; obtain rfl := Option.some.inj H; go_enter Tryd.func27, Tryd.ntmps27; go_wp2_with (first | ((with_reducible refine gate_dst (N := 2) rfl ?_); refine xG (cs := #[.int .i64 a0_0, .int .i64 a0_1, .int .i64 a0_2, .bool a0_3]) (t := 46) ?_; intro gb113 hg w6 hbox hb; have BK113 := xm (hbox); have GW113 := xZ HB hg; have GE113 := xZ HB hg; replace HB := xS HB hb; clear hb hbox hg; have hcz7_0 := blkc4 BK113.out)); go_ret; exact ⟨xer, xW HB⟩
   ·rw [if_neg c5] at H; have c5b0 := decide_eq_false c5; clear c5
    by_cases c8 : a0_2 > 64
    ·rw [if_pos c8] at H; have c8b0 := decide_eq_true c8; clear c8; obtain rfl := Option.some.inj H; go_enter Tryd.func27, Tryd.ntmps27; go_wp2_with (first | ((with_reducible refine gate_dst (N := 2) rfl ?_); refine xG (cs := #[.int .i64 a0_0, .int .i64 a0_1, .int .i64 a0_2, .bool a0_3]) (t := 46) ?_; intro gb113 hg w9 hbox hb; have BK113 := xm (hbox); have GW113 := xZ HB hg; have GE113 := xZ HB hg; replace HB := xS HB hb; clear hb hbox hg; have hcz10_0 := blkc4 BK113.out)); go_ret; exact ⟨xer, xW HB⟩
    ·rw [if_neg c8] at H; have c8b0 := decide_eq_false c8; clear c8; obtain rfl := Option.some.inj H; go_enter Tryd.func27, Tryd.ntmps27; go_wp2_with (first | ((with_reducible refine gate_dst (N := 2) rfl ?_); refine xG (cs := #[.int .i64 a0_0, .int .i64 a0_1, .int .i64 a0_2, .bool a0_3]) (t := 46) ?_; intro gb113 hg w11 hbox hb; have BK113 := xm (hbox); have GW113 := xZ HB hg; have GE113 := xZ HB hg; replace HB := xS HB hb; clear hb hbox hg; have hcz12_0 := blkc4 BK113.out)); go_ret; exact ⟨xer, xW HB⟩
  ·rw [if_neg c4] at H; have c4b0 := beq_eq_false_iff_ne.mpr c4; have c4b1 := bne_iff_ne.mpr c4; obtain rfl := Option.some.inj H; go_enter Tryd.func27, Tryd.ntmps27; go_wp2_with (first | ((with_reducible refine gate_dst (N := 2) rfl ?_); refine xG (cs := #[.int .i64 a0_0, .int .i64 a0_1, .int .i64 a0_2, .bool a0_3]) (t := 46) ?_; intro gb113 hg w13 hbox hb; have BK113 := xm (hbox); have GW113 := xZ HB hg; have GE113 := xZ HB hg; replace HB := xS HB hb; clear hb hbox hg; have hcz14_0 := blkc4 BK113.out)); go_ret; exact ⟨xer, xW HB⟩
 ·rw [if_neg c3] at H; have c3b0 := beq_eq_false_iff_ne.mpr c3; have c3b1 := bne_iff_ne.mpr c3
  by_cases c15 : a0_0 = 1
  ·rw [if_pos c15] at H; have c15b0 := beq_iff_eq.mpr c15; have c15b1 := bne_eq_false_iff_eq.mpr c15; clear c15
   by_cases c16 : a0_1 < 0
   ·rw [if_pos c16] at H; have c16b0 := decide_eq_true c16; clear c16; obtain rfl := Option.some.inj H; go_enter Tryd.func27, Tryd.ntmps27; go_wp2_with (first | ((with_reducible refine gate_dst (N := 2) rfl ?_); refine xG (cs := #[.int .i64 a0_0, .int .i64 a0_1, .int .i64 a0_2, .bool a0_3]) (t := 46) ?_; intro gb113 hg w17 hbox hb; have BK113 := xm (hbox); have GW113 := xZ HB hg; have GE113 := xZ HB hg; replace HB := xS HB hb; clear hb hbox hg; have hcz18_0 := blkc4 BK113.out)); go_ret; exact ⟨xer, xW HB⟩
   ·rw [if_neg c16] at H; have c16b0 := decide_eq_false c16; clear c16
    by_cases c19 : a0_1 ≥ a1
    ·rw [if_pos c19] at H; have c19b0 := decide_eq_true c19; clear c19; obtain rfl := Option.some.inj H; go_enter Tryd.func27, Tryd.ntmps27; go_wp2_with (first | ((with_reducible refine gate_dst (N := 2) rfl ?_); refine xG (cs := #[.int .i64 a0_0, .int .i64 a0_1, .int .i64 a0_2, .bool a0_3]) (t := 46) ?_; intro gb113 hg w20 hbox hb; have BK113 := xm (hbox); have GW113 := xZ HB hg; have GE113 := xZ HB hg; replace HB := xS HB hb; clear hb hbox hg; have hcz21_0 := blkc4 BK113.out)); go_ret; exact ⟨xer, xW HB⟩
    ·rw [if_neg c19] at H; have c19b0 := decide_eq_false c19; clear c19
     by_cases c22 : a0_2 = 0
     ·rw [if_pos c22] at H; have c22b0 := beq_iff_eq.mpr c22; have c22b1 := bne_eq_false_iff_eq.mpr c22; clear c22; obtain rfl := Option.some.inj H; go_enter Tryd.func27, Tryd.ntmps27; go_wp2_with (first | ((with_reducible refine gate_dst (N := 2) rfl ?_); refine xG (cs := #[.int .i64 a0_0, .int .i64 a0_1, .int .i64 a0_2, .bool a0_3]) (t := 46) ?_; intro gb113 hg w23 hbox hb; have BK113 := xm (hbox); have GW113 := xZ HB hg; have GE113 := xZ HB hg; replace HB := xS HB hb; clear hb hbox hg; have hcz24_0 := blkc4 BK113.out)); go_ret; exact ⟨xer, xW HB⟩
     ·rw [if_neg c22] at H; have c22b0 := beq_eq_false_iff_ne.mpr c22; have c22b1 := bne_iff_ne.mpr c22; obtain rfl := Option.some.inj H; go_enter Tryd.func27, Tryd.ntmps27; go_wp2_with (first | ((with_reducible refine gate_dst (N := 2) rfl ?_); refine xG (cs := #[.int .i64 a0_0, .int .i64 a0_1, .int .i64 a0_2, .bool a0_3]) (t := 46) ?_; intro gb113 hg w25 hbox hb; have BK113 := xm (hbox); have GW113 := xZ HB hg; have GE113 := xZ HB hg; replace HB := xS HB hb; clear hb hbox hg; have hcz26_0 := blkc4 BK113.out)); go_ret; exact ⟨xer, xW HB⟩
  ·rw [if_neg c15] at H; have c15b0 := beq_eq_false_iff_ne.mpr c15; have c15b1 := bne_iff_ne.mpr c15
   by_cases c27 : a0_0 = 2
   ·rw [if_pos c27] at H; have c27b0 := beq_iff_eq.mpr c27; have c27b1 := bne_eq_false_iff_eq.mpr c27; clear c27
    by_cases c28 : a0_1 < 0
    ·rw [if_pos c28] at H; have c28b0 := decide_eq_true c28; clear c28; obtain rfl := Option.some.inj H; go_enter Tryd.func27, Tryd.ntmps27; go_wp2_with (first | ((with_reducible refine gate_dst (N := 2) rfl ?_); refine xG (cs := #[.int .i64 a0_0, .int .i64 a0_1, .int .i64 a0_2, .bool a0_3]) (t := 46) ?_; intro gb113 hg w29 hbox hb; have BK113 := xm (hbox); have GW113 := xZ HB hg; have GE113 := xZ HB hg; replace HB := xS HB hb; clear hb hbox hg; have hcz30_0 := blkc4 BK113.out)); go_ret; exact ⟨xer, xW HB⟩
    ·rw [if_neg c28] at H; have c28b0 := decide_eq_false c28; clear c28
     by_cases c31 : a0_1 ≥ a1
     ·rw [if_pos c31] at H; have c31b0 := decide_eq_true c31; clear c31; obtain rfl := Option.some.inj H; go_enter Tryd.func27, Tryd.ntmps27; go_wp2_with (first | ((with_reducible refine gate_dst (N := 2) rfl ?_); refine xG (cs := #[.int .i64 a0_0, .int .i64 a0_1, .int .i64 a0_2, .bool a0_3]) (t := 46) ?_; intro gb113 hg w32 hbox hb; have BK113 := xm (hbox); have GW113 := xZ HB hg; have GE113 := xZ HB hg; replace HB := xS HB hb; clear hb hbox hg; have hcz33_0 := blkc4 BK113.out)); go_ret; exact ⟨xer, xW HB⟩
     ·rw [if_neg c31] at H; have c31b0 := decide_eq_false c31; clear c31
      by_cases c34 : a0_2 < 1
      ·rw [if_pos c34] at H; have c34b0 := decide_eq_true c34; clear c34; obtain rfl := Option.some.inj H; go_enter Tryd.func27, Tryd.ntmps27; go_wp2_with (first | ((with_reducible refine gate_dst (N := 2) rfl ?_); refine xG (cs := #[.int .i64 a0_0, .int .i64 a0_1, .int .i64 a0_2, .bool a0_3]) (t := 46) ?_; intro gb113 hg w35 hbox hb; have BK113 := xm (hbox); have GW113 := xZ HB hg; have GE113 := xZ HB hg; replace HB := xS HB hb; clear hb hbox hg; have hcz36_0 := blkc4 BK113.out)); go_ret; exact ⟨xer, xW HB⟩
      ·rw [if_neg c34] at H; have c34b0 := decide_eq_false c34; clear c34
       by_cases c37 : a0_2 > 64
       ·rw [if_pos c37] at H; have c37b0 := decide_eq_true c37; clear c37; obtain rfl := Option.some.inj H; go_enter Tryd.func27, Tryd.ntmps27; go_wp2_with (first | ((with_reducible refine gate_dst (N := 2) rfl ?_); refine xG (cs := #[.int .i64 a0_0, .int .i64 a0_1, .int .i64 a0_2, .bool a0_3]) (t := 46) ?_; intro gb113 hg w38 hbox hb; have BK113 := xm (hbox); have GW113 := xZ HB hg; have GE113 := xZ HB hg; replace HB := xS HB hb; clear hb hbox hg; have hcz39_0 := blkc4 BK113.out)); go_ret; exact ⟨xer, xW HB⟩
       ·rw [if_neg c37] at H; have c37b0 := decide_eq_false c37; clear c37; obtain rfl := Option.some.inj H; go_enter Tryd.func27, Tryd.ntmps27; go_wp2_with (first | ((with_reducible refine gate_dst (N := 2) rfl ?_); refine xG (cs := #[.int .i64 a0_0, .int .i64 a0_1, .int .i64 a0_2, .bool a0_3]) (t := 46) ?_; intro gb113 hg w40 hbox hb; have BK113 := xm (hbox); have GW113 := xZ HB hg; have GE113 := xZ HB hg; replace HB := xS HB hb; clear hb hbox hg; have hcz41_0 := blkc4 BK113.out)); go_ret; exact ⟨xer, xW HB⟩
   ·rw [if_neg c27] at H; have c27b0 := beq_eq_false_iff_ne.mpr c27; have c27b1 := bne_iff_ne.mpr c27; obtain rfl := Option.some.inj H; go_enter Tryd.func27, Tryd.ntmps27; go_wp2_with (first | ((with_reducible refine gate_dst (N := 2) rfl ?_); refine xG (cs := #[.int .i64 a0_0, .int .i64 a0_1, .int .i64 a0_2, .bool a0_3]) (t := 46) ?_; intro gb113 hg w42 hbox hb; have BK113 := xm (hbox); have GW113 := xZ HB hg; have GE113 := xZ HB hg; replace HB := xS HB hb; clear hb hbox hg; have hcz43_0 := blkc4 BK113.out)); go_ret; exact ⟨xer, xW HB⟩

end Go.Proofs.YtloadbbndnmdlaaDoor.PPlaceChecks
