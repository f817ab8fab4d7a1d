-- Printed by a program of this claim's writer (wip/ext): an extension of the kit's print.
import Derived.Test.YtolcbijcoafkpaaPMovetextReadsx0
import Derived.Test.YtolcbijcoafkpaaPMovetextReadsx2
import Derived.Test.YtolcbijcoafkpaaPMovetextReadsx3
namespace Go.Proofs.Ytolcbijcoafkpaa.PMovetextReads
open Go.RowKit Go.Proofs.YtolcbijcoafkpaaW.PrintWords Go.Proofs.YtolcbijcoafkpaaW.PrintLast Go.Proofs.YtolcbijcoafkpaaW.PrintMore
set_option maxHeartbeats 8000000
set_option maxRecDepth 100000
attribute [local go_sem] max2_int min2_int max_two min_two max_three min_three max_four min_four   -- for this text's walks alone
set_option linter.unusedVariables false
set_option linter.unusedSimpArgs false

/-! ### rules_Check: function 12 -/
mutual
def rules_Check.l0 : Nat → List Int → Int → Int → ByteArray → Int → Int → List (S62) → List Int → Bool → Bool → List (S67) → Int → Int → Int → Option (Int)
  | 0, _, _, _, _, _, _, _, _, _, _, _, _, _, _ => none
  | k + 1, x49, x50, x51, z115a, z115b, z115c, z115d, z115e, z115f, z115g, z115h, z115i, z115j, z115k => if x51 < x50 then (if 0 ≤ x51 then (if x51 < (x49.length : Int) then (if (rd x49 x51) < 0 then (some 4) else (if (rd x49 x51) > (wrap64 (2 * (z115d.length : Int))) then (some 4) else (rules_Check.l0 k x49 x50 (wrap64 (x51 + 1)) z115a z115b z115c z115d z115e z115f z115g z115h z115i z115j z115k))) else (none)) else (none)) else (if (z115h.length : Int) > 6 then (some 2) else (rules_Check.l1 k z115h (z115h.length : Int) 0 z115a z115b z115c z115d z115e z115f z115g z115h z115i z115j z115k))
def rules_Check.l1 : Nat → List (S67) → Int → Int → ByteArray → Int → Int → List (S62) → List Int → Bool → Bool → List (S67) → Int → Int → Int → Option (Int)
  | 0, _, _, _, _, _, _, _, _, _, _, _, _, _, _ => none
  | k + 1, x71, x72, x73, z115a, z115b, z115c, z115d, z115e, z115f, z115g, z115h, z115i, z115j, z115k => if x73 < x72 then (if 0 ≤ x73 then (if x73 < (x71.length : Int) then ((rules_end.f ((rd_T67 x71 x73).f0) ((rd_T67 x71 x73).f1) ((rd_T67 x71 x73).f2) ((rd_T67 x71 x73).f3) (z115d.length : Int)).bind fun t120 => (if t120 = 0 then (rules_Check.l1 k x71 x72 (wrap64 (x73 + 1)) z115a z115b z115c z115d z115e z115f z115g z115h z115i z115j z115k) else (some t120))) else (none)) else (none)) else (if z115i < 0 then (some 4) else (if z115i > 2 then (some 4) else (if z115j < 0 then (some 4) else (if z115j > 200 then (some 4) else (if z115k < 0 then (some 4) else (if z115k = 1 then (some 4) else (if z115k > 5 then (some 4) else (some 0))))))))
end
def rules_Check.f (k : Nat) (a0_0 : ByteArray) (a0_1 : Int) (a0_2 : Int) (l0_3 : List (S62)) (l0_4 : List Int) (a0_5 : Bool) (a0_6 : Bool) (l0_7 : List (S67)) (a0_8 : Int) (a0_9 : Int) (a0_10 : Int) : Option (Int) := (rules_Name.f k a0_0).bind fun t115 => (if t115 = true then (if a0_1 < 1 then (some 4) else (if a0_1 > 8 then (some 4) else (if a0_2 < 1 then (some 4) else (if a0_2 > 8 then (some 4) else ((rules_pieces.f k l0_3).bind fun t116 => (if t116 = 0 then (if (l0_4.length : Int) = (wrap64 (a0_1 * a0_2)) then (rules_Check.l0 k l0_4 (l0_4.length : Int) 0 a0_0 a0_1 a0_2 l0_3 l0_4 a0_5 a0_6 l0_7 a0_8 a0_9 a0_10) else (some 3)) else (some t116))))))) else (some 6))
theorem rules_Check.mono_l : ∀ k, L10 (LM (LM (LM (LM (LeO))))) (rules_Check.l0 k) (rules_Check.l0 (k + 1)) ∧ L10 (LM (LM (LM (LM (LeO))))) (rules_Check.l1 k) (rules_Check.l1 (k + 1))
  | 0 => by refine ⟨?_, ?_⟩ <;> (repeat (first | exact LeO.none _ | intro _))
  | k + 1 => by
    obtain ⟨ih0, ih1⟩ := rules_Check.mono_l k; refine ⟨?_, ?_⟩ <;> ((repeat (first | (with_reducible refine LeO.st ?_) | intro _)); constructor; (first | unfold rules_Check.l0 | unfold rules_Check.l1); repeat' first | (with_reducible first | apply ih0 | apply ih1 | apply rules_Name.mono | apply rules_pieces.mono | exact LeO.refl _ | exact LeO.none _ | refine LeO.ite ?_ ?_ | refine LeO.bind ?_ (fun _ => ?_)) | apply ih0 | apply ih1 | apply rules_Name.mono | apply rules_pieces.mono | exact LeO.none _ | refine LeO.ite ?_ ?_ | refine LeO.bind ?_ (fun _ => ?_))
theorem rules_Check.mono : ∀ a0 a1 a2 a3 a4 a5 a6 a7 a8 a9 a10 k, LeO (rules_Check.f k a0 a1 a2 a3 a4 a5 a6 a7 a8 a9 a10) (rules_Check.f (k + 1) a0 a1 a2 a3 a4 a5 a6 a7 a8 a9 a10) := by
  intros; rename_i k; obtain ⟨ih0, ih1⟩ := rules_Check.mono_l k
  unfold rules_Check.f
  repeat' first | (with_reducible first | apply ih0 | apply ih1 | apply rules_Name.mono | apply rules_pieces.mono | exact LeO.refl _ | exact LeO.none _ | refine LeO.ite ?_ ?_ | refine LeO.bind ?_ (fun _ => ?_)) | apply ih0 | apply ih1 | apply rules_Name.mono | apply rules_pieces.mono | exact LeO.none _ | refine LeO.ite ?_ ?_ | refine LeO.bind ?_ (fun _ => ?_)
theorem rules_Check.calls (k : Nat) (a0_0 : ByteArray) (a0_1 : Int) (a0_2 : Int) (A0_3 : Option Addr) (c0_3 : Nat) (l0_3 : List (S62)) (A0_4 : Option Addr) (c0_4 : Nat) (l0_4 : List Int) (a0_5 : Bool) (a0_6 : Bool) (A0_7 : Option Addr) (c0_7 : Nat) (l0_7 : List (S67)) (a0_8 : Int) (a0_9 : Int) (a0_10 : Int) (r : Int) (w : World) (hr0_3 : Kd.C k62 w A0_3 l0_3.length l0_3) (hc0_3 : l0_3.length ≤ c0_3) (hr0_4 : Kd.C (Kd.int .i64) w A0_4 l0_4.length l0_4) (hc0_4 : l0_4.length ≤ c0_4) (hr0_7 : Kd.C k67 w A0_7 l0_7.length l0_7) (hc0_7 : l0_7.length ≤ c0_7) (h : rules_Check.f k a0_0 a0_1 a0_2 l0_3 l0_4 a0_5 a0_6 l0_7 a0_8 a0_9 a0_10 = some r) :
    Calls Try.prog 12 #[.agg #[.string a0_0, .int .i64 a0_1, .int .i64 a0_2, .slice A0_3 l0_3.length c0_3, .slice A0_4 l0_4.length c0_4, .bool a0_5, .bool a0_6, .slice A0_7 l0_7.length c0_7, .int .i64 a0_8, .int .i64 a0_9, .int .i64 a0_10]] w fun e w' => e = .returned (.int .i64 r) ∧ Below w.heap.size w w' := by
 have hu26 := Try.underlying26; have hu67 := Try.underlying67; have HR0_3 := xm hr0_3; have HC0_3 := xm hc0_3; clear hr0_3 hc0_3; have HR0_4 := xm hr0_4; have HC0_4 := xm hc0_4; clear hr0_4 hc0_4; have HR0_7 := xm hr0_7; have HC0_7 := xm hc0_7; clear hr0_7 hc0_7; have HB := xm (Below.refl w.heap.size w); have hss_ := @isSome_setCell; have H : ((rules_Name.f k a0_0).bind fun t115 => (if t115 = true then (if a0_1 < 1 then (some 4) else (if a0_1 > 8 then (some 4) else (if a0_2 < 1 then (some 4) else (if a0_2 > 8 then (some 4) else ((rules_pieces.f k l0_3).bind fun t116 => (if t116 = 0 then (if (l0_4.length : Int) = (wrap64 (a0_1 * a0_2)) then (rules_Check.l0 k l0_4 (l0_4.length : Int) 0 a0_0 a0_1 a0_2 l0_3 l0_4 a0_5 a0_6 l0_7 a0_8 a0_9 a0_10) else (some 3)) else (some t116))))))) else (some 6))) = some r := h; clear h; obtain ⟨t115, A2, H⟩ := xH H; (try dsimp only at H)
 by_cases c3 : t115 = true
 ·subst c3; rw [if_pos rfl] at H
  by_cases c4 : a0_1 < 1
  ·rw [if_pos c4] at H; have c4b0 := decide_eq_true c4; clear c4; obtain rfl := Option.some.inj H; go_enter Try.func12, Try.ntmps12; go_wp2_with (first | ((with_reducible refine gate_dst (N := 1) rfl ?_); (try (refine gate_guard (by rfl) ?_; dsimp only)); refine xG (cs := #[.string a0_0, .int .i64 a0_1, .int .i64 a0_2, .slice A0_3 l0_3.length c0_3, .slice A0_4 l0_4.length c0_4, .bool a0_5, .bool a0_6, .slice A0_7 l0_7.length c0_7, .int .i64 a0_8, .int .i64 a0_9, .int .i64 a0_10]) (t := 26) ?_; intro gb114 hg w5 hbox hb; have BK114 := xm (hbox); have GW114 := xZ HB hg; have GE114 := xZ HB hg; replace HB := xS HB hb; clear hb hbox hg; have hcz6_0 := blkc11 BK114.out) | ((with_reducible refine gate_callee (f := 23) rfl ?_); refine xL (some 12) Try.func23 #[.string a0_0] rfl ?_; (with_reducible refine (rules_Name.calls k a0_0 true _ A2.out).mono ?_); rintro e w' ⟨rfl, ⟨nd, rfl⟩⟩; refine ⟨_, rfl, ?_⟩)); go_ret; exact ⟨xer, xW HB⟩
  ·rw [if_neg c4] at H; have c4b0 := decide_eq_false c4; clear c4
   by_cases c7 : a0_1 > 8
   ·rw [if_pos c7] at H; have c7b0 := decide_eq_true c7; clear c7; obtain rfl := Option.some.inj H; go_enter Try.func12, Try.ntmps12; go_wp2_with (first | ((with_reducible refine gate_dst (N := 1) rfl ?_); (try (refine gate_guard (by rfl) ?_; dsimp only)); refine xG (cs := #[.string a0_0, .int .i64 a0_1, .int .i64 a0_2, .slice A0_3 l0_3.length c0_3, .slice A0_4 l0_4.length c0_4, .bool a0_5, .bool a0_6, .slice A0_7 l0_7.length c0_7, .int .i64 a0_8, .int .i64 a0_9, .int .i64 a0_10]) (t := 26) ?_; intro gb114 hg w8 hbox hb; have BK114 := xm (hbox); have GW114 := xZ HB hg; have GE114 := xZ HB hg; replace HB := xS HB hb; clear hb hbox hg; have hcz9_0 := blkc11 BK114.out) | ((with_reducible refine gate_callee (f := 23) rfl ?_); refine xL (some 12) Try.func23 #[.string a0_0] rfl ?_; (with_reducible refine (rules_Name.calls k a0_0 true _ A2.out).mono ?_); rintro e w' ⟨rfl, ⟨nd, rfl⟩⟩; refine ⟨_, rfl, ?_⟩)); go_ret; exact ⟨xer, xW HB⟩
   ·rw [if_neg c7] at H; have c7b0 := decide_eq_false c7; clear c7
    by_cases c10 : a0_2 < 1
    ·rw [if_pos c10] at H; have c10b0 := decide_eq_true c10; clear c10; obtain rfl := Option.some.inj H; go_enter Try.func12, Try.ntmps12; go_wp2_with (first | ((with_reducible refine gate_dst (N := 1) rfl ?_); (try (refine gate_guard (by rfl) ?_; dsimp only)); refine xG (cs := #[.string a0_0, .int .i64 a0_1, .int .i64 a0_2, .slice A0_3 l0_3.length c0_3, .slice A0_4 l0_4.length c0_4, .bool a0_5, .bool a0_6, .slice A0_7 l0_7.length c0_7, .int .i64 a0_8, .int .i64 a0_9, .int .i64 a0_10]) (t := 26) ?_; intro gb114 hg w11 hbox hb; have BK114 := xm (hbox); have GW114 := xZ HB hg; have GE114 := xZ HB hg; replace HB := xS HB hb; clear hb hbox hg; have hcz12_0 := blkc11 BK114.out) | ((with_reducible refine gate_callee (f := 23) rfl ?_); refine xL (some 12) Try.func23 #[.string a0_0] rfl ?_; (with_reducible refine (rules_Name.calls k a0_0 true _ A2.out).mono ?_); rintro e w' ⟨rfl, ⟨nd, rfl⟩⟩; refine ⟨_, rfl, ?_⟩)); go_ret; exact ⟨xer, xW HB⟩
    ·rw [if_neg c10] at H; have c10b0 := decide_eq_false c10; clear c10
     by_cases c13 : a0_2 > 8
     ·rw [if_pos c13] at H; have c13b0 := decide_eq_true c13; clear c13; obtain rfl := Option.some.inj H; go_enter Try.func12, Try.ntmps12; go_wp2_with (first | ((with_reducible refine gate_dst (N := 1) rfl ?_); (try (refine gate_guard (by rfl) ?_; dsimp only)); refine xG (cs := #[.string a0_0, .int .i64 a0_1, .int .i64 a0_2, .slice A0_3 l0_3.length c0_3, .slice A0_4 l0_4.length c0_4, .bool a0_5, .bool a0_6, .slice A0_7 l0_7.length c0_7, .int .i64 a0_8, .int .i64 a0_9, .int .i64 a0_10]) (t := 26) ?_; intro gb114 hg w14 hbox hb; have BK114 := xm (hbox); have GW114 := xZ HB hg; have GE114 := xZ HB hg; replace HB := xS HB hb; clear hb hbox hg; have hcz15_0 := blkc11 BK114.out) | ((with_reducible refine gate_callee (f := 23) rfl ?_); refine xL (some 12) Try.func23 #[.string a0_0] rfl ?_; (with_reducible refine (rules_Name.calls k a0_0 true _ A2.out).mono ?_); rintro e w' ⟨rfl, ⟨nd, rfl⟩⟩; refine ⟨_, rfl, ?_⟩)); go_ret; exact ⟨xer, xW HB⟩
     ·rw [if_neg c13] at H; have c13b0 := decide_eq_false c13; clear c13; obtain ⟨t116, A16, H⟩ := xH H; (try dsimp only at H)
      by_cases c17 : t116 = 0
      ·rw [if_pos c17] at H; have c17b0 := beq_iff_eq.mpr c17; have c17b1 := bne_eq_false_iff_eq.mpr c17; clear c17
       by_cases c18 : (l0_4.length : Int) = (wrap64 (a0_1 * a0_2))
       ·rw [if_pos c18] at H; have c18b0 := beq_iff_eq.mpr c18; have c18b1 := bne_eq_false_iff_eq.mpr c18; clear c18; have H' := xm H; clear H; go_enter Try.func12, Try.ntmps12; go_wp2_with (first | ((with_reducible refine gate_dst (N := 1) rfl ?_); (try (refine gate_guard (by rfl) ?_; dsimp only)); refine xG (cs := #[.string a0_0, .int .i64 a0_1, .int .i64 a0_2, .slice A0_3 l0_3.length c0_3, .slice A0_4 l0_4.length c0_4, .bool a0_5, .bool a0_6, .slice A0_7 l0_7.length c0_7, .int .i64 a0_8, .int .i64 a0_9, .int .i64 a0_10]) (t := 26) ?_; intro gb114 hg w19 hbox hb; have BK114 := xm (hbox); have GW114 := xZ HB hg; have GE114 := xZ HB hg; replace HB := xS HB hb; clear hb hbox hg; have hcz20_0 := blkc11 BK114.out) | ((with_reducible refine gate_callee (f := 23) rfl ?_); refine xL (some 12) Try.func23 #[.string a0_0] rfl ?_; (with_reducible refine (rules_Name.calls k a0_0 true _ A2.out).mono ?_); rintro e w' ⟨rfl, ⟨nd, rfl⟩⟩; refine ⟨_, rfl, ?_⟩) | ((with_reducible refine gate_callee (f := 24) rfl ?_); refine xL (some 35) Try.func24 #[.slice A0_3 l0_3.length c0_3] rfl ?_; (with_reducible refine (rules_pieces.calls k _ _ l0_3 t116 _ ?side1 ?side2 A16.out).mono ?_); (case side1 => repeat (first | exact (Kd.C_below HR0_3.out (xW HB)) | (with_reducible refine Kd.C_alloc ?_ _) | (with_reducible refine Kd.C_drewN ?_ _) | (with_reducible refine Kd.C_drew ?_))); (case side2 => exact HC0_3.out); rintro e w21 ⟨rfl, hb⟩; refine ⟨_, rfl, ?_⟩; replace BK114 := xB BK114 hb; replace HB := xS HB hb; (try clear hb); (try clear hb2); (try clear hk); (try clear hi); have hcz22_0 := blkc11 BK114.out))
        go_loopg [51] k (fun kq vs51 w' => ∃ (x51_1 : Int), vs51 = .int .i64 x51_1 ∧ Aside0 (rules_Check.l0 kq l0_4 (l0_4.length : Int) x51_1 a0_0 a0_1 a0_2 l0_3 l0_4 a0_5 a0_6 l0_7 a0_8 a0_9 a0_10 = some r) ∧ Aside0 (kq ≤ k) ∧ Aside0 (w'.heap[gb114]? = some (.cells #[.string a0_0, .int .i64 a0_1, .int .i64 a0_2, (.slice A0_3 l0_3.length c0_3), (.slice A0_4 l0_4.length c0_4), .bool a0_5, .bool a0_6, (.slice A0_7 l0_7.length c0_7), .int .i64 a0_8, .int .i64 a0_9, .int .i64 a0_10] 26 (0, 0))) ∧ Aside0 (Below w.heap.size w w'))
        case atStart => exact ⟨(0), (xrf), H', ⟨Nat.le_refl _⟩, ⟨xK BK114⟩, ⟨xW HB⟩⟩
        case round =>
         clear H'; (try clear p2); (try clear p6); obtain ⟨x51_1, rfl, HA, HK1, BK114, HB⟩ := hrel
         cases gk with
         | zero => exact absurd HA.out (by simp [rules_Check.l0])
         | succ k1 =>
          have H := HA.out; clear HA; simp only [rules_Check.l0] at H
          by_cases c23 : x51_1 < (l0_4.length : Int)
          ·rw [if_pos c23] at H; have c23b0 := decide_eq_true c23; clear c23; obtain ⟨c24b0, H⟩ := xJ H; obtain ⟨c25b0, H⟩ := xJ H
           by_cases c26 : (rd l0_4 x51_1) < 0
           ·rw [if_pos c26] at H; have c26b0 := decide_eq_true c26; clear c26; obtain rfl := Option.some.inj H; have p117 : 0 ≤ (x51_1 : Int) := xO; have q117 : x51_1 < (l0_4.length : Int) := xO; obtain ⟨ad117, e117, hx117_0⟩ := Kd.at_int HR0_4.out x51_1 p117 q117
            cases e117
            replace hx117_0 := xR HB hx117_0; replace p117 := eq_true p117; replace q117 := eq_true q117
            go_wp2
            go_ret; exact ⟨xer, xW HB⟩
           ·rw [if_neg c26] at H; have c26b0 := decide_eq_false c26; clear c26
            by_cases c27 : (rd l0_4 x51_1) > (wrap64 (2 * (l0_3.length : Int)))
            ·rw [if_pos c27] at H; have c27b0 := decide_eq_true c27; clear c27; obtain rfl := Option.some.inj H; have p117 : 0 ≤ (x51_1 : Int) := xO; have q117 : x51_1 < (l0_4.length : Int) := xO; obtain ⟨ad117, e117, hx117_0⟩ := Kd.at_int HR0_4.out x51_1 p117 q117
             cases e117
             replace hx117_0 := xR HB hx117_0; replace p117 := eq_true p117; replace q117 := eq_true q117; have hcz28_0 := blkc11 BK114.out
             go_wp2
             go_ret; exact ⟨xer, xW HB⟩
            ·rw [if_neg c27] at H; have c27b0 := decide_eq_false c27; clear c27; have H' := xm H; clear H; have p117 : 0 ≤ (x51_1 : Int) := xO; have q117 : x51_1 < (l0_4.length : Int) := xO; obtain ⟨ad117, e117, hx117_0⟩ := Kd.at_int HR0_4.out x51_1 p117 q117
             cases e117
             replace hx117_0 := xR HB hx117_0; replace p117 := eq_true p117; replace q117 := eq_true q117; have hcz29_0 := blkc11 BK114.out
             go_wp2
             go_roundg k1
             case measure => have := HK1.out; omega
             case rel => exact ⟨(wrap64 (x51_1 + 1)), (xrf), H', ⟨by have := HK1.out; omega⟩, ⟨xK BK114⟩, ⟨xW HB⟩⟩
          ·rw [if_neg c23] at H; have c23b0 := decide_eq_false c23; clear c23
           by_cases c30 : (l0_7.length : Int) > 6
           ·rw [if_pos c30] at H; have c30b0 := decide_eq_true c30; have c30b1 : decide (6 < l0_7.length) = true := decide_eq_true (by omega); clear c30; obtain rfl := Option.some.inj H; have hcz31_0 := blkc11 BK114.out
            go_wp2
            go_ret; exact ⟨xer, xW HB⟩
           ·rw [if_neg c30] at H; have c30b0 := decide_eq_false c30; have c30b1 : decide (6 < l0_7.length) = false := decide_eq_false (by omega); clear c30; have H' := xm H; clear H; have hcz32_0 := blkc11 BK114.out
            go_wp2
            go_loopg [73] k1 (fun kq vs73 w' => ∃ (x73_2 : Int), vs73 = .int .i64 x73_2 ∧ Aside0 (rules_Check.l1 kq l0_7 (l0_7.length : Int) x73_2 a0_0 a0_1 a0_2 l0_3 l0_4 a0_5 a0_6 l0_7 a0_8 a0_9 a0_10 = some r) ∧ Aside0 (kq ≤ k1) ∧ Aside0 (w'.heap[gb114]? = some (.cells #[.string a0_0, .int .i64 a0_1, .int .i64 a0_2, (.slice A0_3 l0_3.length c0_3), (.slice A0_4 l0_4.length c0_4), .bool a0_5, .bool a0_6, (.slice A0_7 l0_7.length c0_7), .int .i64 a0_8, .int .i64 a0_9, .int .i64 a0_10] 26 (0, 0))) ∧ Aside0 (Below w.heap.size w w'))
            case atStart => exact ⟨(0), (xrf), H', ⟨Nat.le_refl _⟩, ⟨xK BK114⟩, ⟨xW HB⟩⟩
            case round =>
             clear H'; (try clear p1); (try clear q1); (try clear hx1); (try clear p2); (try clear p6); (try clear p11); (try clear q11); (try clear hx11); (try clear hx117_0); (try clear p117); (try clear q117); obtain ⟨x73_2, rfl, HA, HK2, BK114, HB⟩ := hrel
             cases gk with
             | zero => exact absurd HA.out (by simp [rules_Check.l1])
             | succ k2 =>
              have H := HA.out; clear HA; simp only [rules_Check.l1] at H
              by_cases c33 : x73_2 < (l0_7.length : Int)
              ·rw [if_pos c33] at H; have c33b0 := decide_eq_true c33; clear c33; obtain ⟨c34b0, H⟩ := xJ H; obtain ⟨c35b0, H⟩ := xJ H; obtain ⟨t120, A36, H⟩ := xH H; (try dsimp only at H)
               by_cases c37 : t120 = 0
               ·rw [if_pos c37] at H; have c37b0 := beq_iff_eq.mpr c37; have c37b1 := bne_eq_false_iff_eq.mpr c37; clear c37; have H' := xm H; clear H; have p118 : 0 ≤ (x73_2 : Int) := xO; have q118 : x73_2 < (l0_7.length : Int) := xO; obtain ⟨ad118, e118, hx118_0, hx118_1, hx118_2, hx118_3⟩ := at_T67 HR0_7.out x73_2 p118 q118
                cases e118
                replace hx118_0 := xR HB hx118_0; replace hx118_1 := xR HB hx118_1; replace hx118_2 := xR HB hx118_2; replace hx118_3 := xR HB hx118_3; replace p118 := eq_true p118; replace q118 := eq_true q118; go_wp2_with (first | ((with_reducible refine gate_dst (N := 7) rfl ?_); (try (refine gate_guard (by rfl) ?_; dsimp only)); refine xG (cs := #[.int .i64 0, .int .i64 0, .int .i64 0, .bool false]) (t := 67) ?_; intro gb119 hg w38 hbox hb; have BK119 := xm (hbox); have GW119 := xZ HB hg; have GE119 := xZ HB hg; have NB114_119 := xN BK114 hg; have NB119_114 := xM BK114 hg; replace BK114 := xB BK114 hb; replace HB := xS HB hb; clear hb hbox hg; have hnb39 := NB119_114.out; have hnc39 := NB114_119.out; have hcz40_0 := blkc4 BK119.out; have hcz41_0 := blkc11 BK114.out) | ((with_reducible refine gate_callee (f := 25) rfl ?_); refine xL (some 81) Try.func25 #[.agg #[.int .i64 ((rd_T67 l0_7 x73_2).f0), .int .i64 ((rd_T67 l0_7 x73_2).f1), .int .i64 ((rd_T67 l0_7 x73_2).f2), .bool ((rd_T67 l0_7 x73_2).f3)], .int .i64 (l0_3.length : Int)] rfl ?_; (with_reducible refine (rules_end.calls ((rd_T67 l0_7 x73_2).f0) ((rd_T67 l0_7 x73_2).f1) ((rd_T67 l0_7 x73_2).f2) ((rd_T67 l0_7 x73_2).f3) (l0_3.length : Int) t120 _ A36.out).mono ?_); rintro e w42 ⟨rfl, hb⟩; refine ⟨_, rfl, ?_⟩; replace BK114 := xB BK114 hb; replace BK119 := xm (xP (l' := [.int .i64 ((rd_T67 l0_7 x73_2).f0), .int .i64 ((rd_T67 l0_7 x73_2).f1), .int .i64 ((rd_T67 l0_7 x73_2).f2), .bool ((rd_T67 l0_7 x73_2).f3)]) BK119 hb); replace HB := xS HB hb; (try clear hb); (try clear hb2); (try clear hk); (try clear hi))); go_roundg k2
                case measure => have := HK1.out; have := HK2.out; omega
                case rel => exact ⟨(wrap64 (x73_2 + 1)), (xrf), H', ⟨by have := HK1.out; have := HK2.out; omega⟩, ⟨xK BK114⟩, ⟨xW HB⟩⟩
               ·rw [if_neg c37] at H; have c37b0 := beq_eq_false_iff_ne.mpr c37; have c37b1 := bne_iff_ne.mpr c37; obtain rfl := Option.some.inj H; have p118 : 0 ≤ (x73_2 : Int) := xO; have q118 : x73_2 < (l0_7.length : Int) := xO; obtain ⟨ad118, e118, hx118_0, hx118_1, hx118_2, hx118_3⟩ := at_T67 HR0_7.out x73_2 p118 q118
                cases e118
                replace hx118_0 := xR HB hx118_0; replace hx118_1 := xR HB hx118_1; replace hx118_2 := xR HB hx118_2; replace hx118_3 := xR HB hx118_3; replace p118 := eq_true p118; replace q118 := eq_true q118; go_wp2_with (first | ((with_reducible refine gate_dst (N := 7) rfl ?_); (try (refine gate_guard (by rfl) ?_; dsimp only)); refine xG (cs := #[.int .i64 0, .int .i64 0, .int .i64 0, .bool false]) (t := 67) ?_; intro gb119 hg w43 hbox hb; have BK119 := xm (hbox); have GW119 := xZ HB hg; have GE119 := xZ HB hg; have NB114_119 := xN BK114 hg; have NB119_114 := xM BK114 hg; replace BK114 := xB BK114 hb; replace HB := xS HB hb; clear hb hbox hg; have hnb44 := NB119_114.out; have hnc44 := NB114_119.out; have hcz45_0 := blkc4 BK119.out; have hcz46_0 := blkc11 BK114.out) | ((with_reducible refine gate_callee (f := 25) rfl ?_); refine xL (some 81) Try.func25 #[.agg #[.int .i64 ((rd_T67 l0_7 x73_2).f0), .int .i64 ((rd_T67 l0_7 x73_2).f1), .int .i64 ((rd_T67 l0_7 x73_2).f2), .bool ((rd_T67 l0_7 x73_2).f3)], .int .i64 (l0_3.length : Int)] rfl ?_; (with_reducible refine (rules_end.calls ((rd_T67 l0_7 x73_2).f0) ((rd_T67 l0_7 x73_2).f1) ((rd_T67 l0_7 x73_2).f2) ((rd_T67 l0_7 x73_2).f3) (l0_3.length : Int) t120 _ A36.out).mono ?_); rintro e w47 ⟨rfl, hb⟩; refine ⟨_, rfl, ?_⟩; replace BK114 := xB BK114 hb; replace BK119 := xm (xP (l' := [.int .i64 ((rd_T67 l0_7 x73_2).f0), .int .i64 ((rd_T67 l0_7 x73_2).f1), .int .i64 ((rd_T67 l0_7 x73_2).f2), .bool ((rd_T67 l0_7 x73_2).f3)]) BK119 hb); replace HB := xS HB hb; (try clear hb); (try clear hb2); (try clear hk); (try clear hi))); go_ret; exact ⟨xer, xW HB⟩
              ·rw [if_neg c33] at H; have c33b0 := decide_eq_false c33; clear c33
               by_cases c48 : a0_8 < 0
               ·rw [if_pos c48] at H; have c48b0 := decide_eq_true c48; clear c48; obtain rfl := Option.some.inj H; have hcz49_0 := blkc11 BK114.out
                go_wp2
                go_ret; exact ⟨xer, xW HB⟩
               ·rw [if_neg c48] at H; have c48b0 := decide_eq_false c48; clear c48
                by_cases c50 : a0_8 > 2
                ·rw [if_pos c50] at H; have c50b0 := decide_eq_true c50; clear c50; obtain rfl := Option.some.inj H; have hcz51_0 := blkc11 BK114.out
                 go_wp2
                 go_ret; exact ⟨xer, xW HB⟩
                ·rw [if_neg c50] at H; have c50b0 := decide_eq_false c50; clear c50
                 by_cases c52 : a0_9 < 0
                 ·rw [if_pos c52] at H; have c52b0 := decide_eq_true c52; clear c52; obtain rfl := Option.some.inj H; have hcz53_0 := blkc11 BK114.out
                  go_wp2
                  go_ret; exact ⟨xer, xW HB⟩
                 ·rw [if_neg c52] at H; have c52b0 := decide_eq_false c52; clear c52
                  by_cases c54 : a0_9 > 200
                  ·rw [if_pos c54] at H; have c54b0 := decide_eq_true c54; clear c54; obtain rfl := Option.some.inj H; have hcz55_0 := blkc11 BK114.out
                   go_wp2
                   go_ret; exact ⟨xer, xW HB⟩
                  ·rw [if_neg c54] at H; have c54b0 := decide_eq_false c54; clear c54
                   by_cases c56 : a0_10 < 0
                   ·rw [if_pos c56] at H; have c56b0 := decide_eq_true c56; clear c56; obtain rfl := Option.some.inj H; have hcz57_0 := blkc11 BK114.out
                    go_wp2
                    go_ret; exact ⟨xer, xW HB⟩
                   ·rw [if_neg c56] at H; have c56b0 := decide_eq_false c56; clear c56
                    by_cases c58 : a0_10 = 1
                    ·rw [if_pos c58] at H; have c58b0 := beq_iff_eq.mpr c58; have c58b1 := bne_eq_false_iff_eq.mpr c58; clear c58; obtain rfl := Option.some.inj H; have hcz59_0 := blkc11 BK114.out
                     go_wp2
                     go_ret; exact ⟨xer, xW HB⟩
                    ·rw [if_neg c58] at H; have c58b0 := beq_eq_false_iff_ne.mpr c58; have c58b1 := bne_iff_ne.mpr c58
                     by_cases c60 : a0_10 > 5
                     ·rw [if_pos c60] at H; have c60b0 := decide_eq_true c60; clear c60; obtain rfl := Option.some.inj H; have hcz61_0 := blkc11 BK114.out
                      go_wp2
                      go_ret; exact ⟨xer, xW HB⟩
                     ·rw [if_neg c60] at H; have c60b0 := decide_eq_false c60; clear c60; obtain rfl := Option.some.inj H; have hcz62_0 := blkc11 BK114.out
                      go_wp2
                      go_ret; exact ⟨xer, xW HB⟩
       ·rw [if_neg c18] at H; have c18b0 := beq_eq_false_iff_ne.mpr c18; have c18b1 := bne_iff_ne.mpr c18; obtain rfl := Option.some.inj H; go_enter Try.func12, Try.ntmps12; go_wp2_with (first | ((with_reducible refine gate_dst (N := 1) rfl ?_); (try (refine gate_guard (by rfl) ?_; dsimp only)); refine xG (cs := #[.string a0_0, .int .i64 a0_1, .int .i64 a0_2, .slice A0_3 l0_3.length c0_3, .slice A0_4 l0_4.length c0_4, .bool a0_5, .bool a0_6, .slice A0_7 l0_7.length c0_7, .int .i64 a0_8, .int .i64 a0_9, .int .i64 a0_10]) (t := 26) ?_; intro gb114 hg w63 hbox hb; have BK114 := xm (hbox); have GW114 := xZ HB hg; have GE114 := xZ HB hg; replace HB := xS HB hb; clear hb hbox hg; have hcz64_0 := blkc11 BK114.out) | ((with_reducible refine gate_callee (f := 23) rfl ?_); refine xL (some 12) Try.func23 #[.string a0_0] rfl ?_; (with_reducible refine (rules_Name.calls k a0_0 true _ A2.out).mono ?_); rintro e w' ⟨rfl, ⟨nd, rfl⟩⟩; refine ⟨_, rfl, ?_⟩) | ((with_reducible refine gate_callee (f := 24) rfl ?_); refine xL (some 35) Try.func24 #[.slice A0_3 l0_3.length c0_3] rfl ?_; (with_reducible refine (rules_pieces.calls k _ _ l0_3 t116 _ ?side1 ?side2 A16.out).mono ?_); (case side1 => repeat (first | exact (Kd.C_below HR0_3.out (xW HB)) | (with_reducible refine Kd.C_alloc ?_ _) | (with_reducible refine Kd.C_drewN ?_ _) | (with_reducible refine Kd.C_drew ?_))); (case side2 => exact HC0_3.out); rintro e w65 ⟨rfl, hb⟩; refine ⟨_, rfl, ?_⟩; replace BK114 := xB BK114 hb; replace HB := xS HB hb; (try clear hb); (try clear hb2); (try clear hk); (try clear hi); have hcz66_0 := blkc11 BK114.out)); go_ret; exact ⟨xer, xW HB⟩
      ·rw [if_neg c17] at H; have c17b0 := beq_eq_false_iff_ne.mpr c17; have c17b1 := bne_iff_ne.mpr c17; obtain rfl := Option.some.inj H; go_enter Try.func12, Try.ntmps12; go_wp2_with (first | ((with_reducible refine gate_dst (N := 1) rfl ?_); (try (refine gate_guard (by rfl) ?_; dsimp only)); refine xG (cs := #[.string a0_0, .int .i64 a0_1, .int .i64 a0_2, .slice A0_3 l0_3.length c0_3, .slice A0_4 l0_4.length c0_4, .bool a0_5, .bool a0_6, .slice A0_7 l0_7.length c0_7, .int .i64 a0_8, .int .i64 a0_9, .int .i64 a0_10]) (t := 26) ?_; intro gb114 hg w67 hbox hb; have BK114 := xm (hbox); have GW114 := xZ HB hg; have GE114 := xZ HB hg; replace HB := xS HB hb; clear hb hbox hg; have hcz68_0 := blkc11 BK114.out) | ((with_reducible refine gate_callee (f := 23) rfl ?_); refine xL (some 12) Try.func23 #[.string a0_0] rfl ?_; (with_reducible refine (rules_Name.calls k a0_0 true _ A2.out).mono ?_); rintro e w' ⟨rfl, ⟨nd, rfl⟩⟩; refine ⟨_, rfl, ?_⟩) | ((with_reducible refine gate_callee (f := 24) rfl ?_); refine xL (some 35) Try.func24 #[.slice A0_3 l0_3.length c0_3] rfl ?_; (with_reducible refine (rules_pieces.calls k _ _ l0_3 t116 _ ?side1 ?side2 A16.out).mono ?_); (case side1 => repeat (first | exact (Kd.C_below HR0_3.out (xW HB)) | (with_reducible refine Kd.C_alloc ?_ _) | (with_reducible refine Kd.C_drewN ?_ _) | (with_reducible refine Kd.C_drew ?_))); (case side2 => exact HC0_3.out); rintro e w69 ⟨rfl, hb⟩; refine ⟨_, rfl, ?_⟩; replace BK114 := xB BK114 hb; replace HB := xS HB hb; (try clear hb); (try clear hb2); (try clear hk); (try clear hi))); go_ret; exact ⟨xer, xW HB⟩
 ·obtain rfl := Bool.eq_false_iff.mpr c3; rw [if_neg xF] at H; obtain rfl := Option.some.inj H; go_enter Try.func12, Try.ntmps12; go_wp2_with (first | ((with_reducible refine gate_dst (N := 1) rfl ?_); (try (refine gate_guard (by rfl) ?_; dsimp only)); refine xG (cs := #[.string a0_0, .int .i64 a0_1, .int .i64 a0_2, .slice A0_3 l0_3.length c0_3, .slice A0_4 l0_4.length c0_4, .bool a0_5, .bool a0_6, .slice A0_7 l0_7.length c0_7, .int .i64 a0_8, .int .i64 a0_9, .int .i64 a0_10]) (t := 26) ?_; intro gb114 hg w70 hbox hb; have BK114 := xm (hbox); have GW114 := xZ HB hg; have GE114 := xZ HB hg; replace HB := xS HB hb; clear hb hbox hg; have hcz71_0 := blkc11 BK114.out) | ((with_reducible refine gate_callee (f := 23) rfl ?_); refine xL (some 12) Try.func23 #[.string a0_0] rfl ?_; (with_reducible refine (rules_Name.calls k a0_0 false _ A2.out).mono ?_); rintro e w' ⟨rfl, ⟨nd, rfl⟩⟩; refine ⟨_, rfl, ?_⟩)); go_ret; exact ⟨xer, xW HB⟩

end Go.Proofs.Ytolcbijcoafkpaa.PMovetextReads
