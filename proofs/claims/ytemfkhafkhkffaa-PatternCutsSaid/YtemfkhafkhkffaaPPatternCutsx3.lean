-- Printed by a program of this claim's writer (wip/ext): an extension of the kit's print.
import Derived.Test.YtemfkhafkhkffaaPPatternCutsx0
import Derived.Test.YtemfkhafkhkffaaPPatternCutsx1
import Derived.Test.YtemfkhafkhkffaaPPatternCutsx2
import Derived.Lib.SliceRun
namespace Go.Proofs.Ytemfkhafkhkffaa.PPatternCuts
open Go.RowKit Go.Proofs.YtemfkhafkhkffaaW.PrintWords Go.Proofs.YtemfkhafkhkffaaW.PrintLast Go.Proofs.YtemfkhafkhkffaaW.PrintMore
attribute [local go_sem] max2_int min2_int max_two min_two max_three min_three max_four min_four   -- for this text's walks alone
set_option linter.unusedVariables false
set_option linter.unusedSimpArgs false
theorem xne {a b : Nat} (h : Aside0 (a ≠ b)) : (a = b) = False := eq_false h.out

/-! ### rules_Check: function 36 -/
mutual
def rules_Check.l0 : Nat → List Int → Int → Int → ByteArray → Int → Int → List (S101) → List Int → Bool → Bool → List (S103) → Int → Int → Int → Option (Int)
  | 0, _, _, _, _, _, _, _, _, _, _, _, _, _, _ => none
  | k + 1, x49, x50, x51, z115a, z115b, z115c, z115d, z115e, z115f, z115g, z115h, z115i, z115j, z115k => if x51 < x50 then (if 0 ≤ x51 then (if x51 < (x49.length : Int) then (if (rd x49 x51) < 0 then (some 4) else (if (rd x49 x51) > (wrap64 (2 * (z115d.length : Int))) then (some 4) else (rules_Check.l0 k x49 x50 (wrap64 (x51 + 1)) z115a z115b z115c z115d z115e z115f z115g z115h z115i z115j z115k))) else (none)) else (none)) else (if (z115h.length : Int) > 6 then (some 2) else (rules_Check.l1 k z115h (z115h.length : Int) 0 z115a z115b z115c z115d z115e z115f z115g z115h z115i z115j z115k))
def rules_Check.l1 : Nat → List (S103) → Int → Int → ByteArray → Int → Int → List (S101) → List Int → Bool → Bool → List (S103) → Int → Int → Int → Option (Int)
  | 0, _, _, _, _, _, _, _, _, _, _, _, _, _, _ => none
  | k + 1, x71, x72, x73, z115a, z115b, z115c, z115d, z115e, z115f, z115g, z115h, z115i, z115j, z115k => if x73 < x72 then (if 0 ≤ x73 then (if x73 < (x71.length : Int) then ((rules_end.f ((rd_T103 x71 x73).f0) ((rd_T103 x71 x73).f1) ((rd_T103 x71 x73).f2) ((rd_T103 x71 x73).f3) (z115d.length : Int)).bind fun t120 => (if t120 = 0 then (rules_Check.l1 k x71 x72 (wrap64 (x73 + 1)) z115a z115b z115c z115d z115e z115f z115g z115h z115i z115j z115k) else (some t120))) else (none)) else (none)) else (if z115i < 0 then (some 4) else (if z115i > 2 then (some 4) else (if z115j < 0 then (some 4) else (if z115j > 200 then (some 4) else (if z115k < 0 then (some 4) else (if z115k = 1 then (some 4) else (if z115k > 5 then (some 4) else (some 0))))))))
end
def rules_Check.f (k : Nat) (a0_0 : ByteArray) (a0_1 : Int) (a0_2 : Int) (l0_3 : List (S101)) (l0_4 : List Int) (a0_5 : Bool) (a0_6 : Bool) (l0_7 : List (S103)) (a0_8 : Int) (a0_9 : Int) (a0_10 : Int) : Option (Int) := (rules_Name.f k a0_0).bind fun t115 => (if t115 = true then (if a0_1 < 1 then (some 4) else (if a0_1 > 8 then (some 4) else (if a0_2 < 1 then (some 4) else (if a0_2 > 8 then (some 4) else ((rules_pieces.f k l0_3).bind fun t116 => (if t116 = 0 then (if (l0_4.length : Int) = (wrap64 (a0_1 * a0_2)) then (rules_Check.l0 k l0_4 (l0_4.length : Int) 0 a0_0 a0_1 a0_2 l0_3 l0_4 a0_5 a0_6 l0_7 a0_8 a0_9 a0_10) else (some 3)) else (some t116))))))) else (some 6))
theorem rules_Check.mono_l : ∀ k, (∀ y0 y1 y2 y3 y4 y5 y6 y7 y8 y9 y10 y11 y12 y13, LeO (rules_Check.l0 k y0 y1 y2 y3 y4 y5 y6 y7 y8 y9 y10 y11 y12 y13) (rules_Check.l0 (k + 1) y0 y1 y2 y3 y4 y5 y6 y7 y8 y9 y10 y11 y12 y13)) ∧ (∀ y0 y1 y2 y3 y4 y5 y6 y7 y8 y9 y10 y11 y12 y13, LeO (rules_Check.l1 k y0 y1 y2 y3 y4 y5 y6 y7 y8 y9 y10 y11 y12 y13) (rules_Check.l1 (k + 1) y0 y1 y2 y3 y4 y5 y6 y7 y8 y9 y10 y11 y12 y13))
  | 0 => ⟨fun _ _ _ _ _ _ _ _ _ _ _ _ _ _ r h => by simp [rules_Check.l0] at h, fun _ _ _ _ _ _ _ _ _ _ _ _ _ _ r h => by simp [rules_Check.l1] at h⟩
  | k + 1 => by
    obtain ⟨ih0, ih1⟩ := rules_Check.mono_l k
    refine ⟨?_, ?_⟩
    · intros
      unfold rules_Check.l0
      repeat' first
      | (with_reducible apply ih0)
      | (with_reducible apply ih1)
      | (with_reducible apply rules_Name.mono)
      | (with_reducible apply rules_pieces.mono)
      | (with_reducible exact LeO.refl _)
      | (with_reducible exact LeO.none _)
      | (with_reducible refine LeO.ite ?_ ?_)
      | (with_reducible refine LeO.bind ?_ (fun _ => ?_))
      | apply ih0
      | apply ih1
      | apply rules_Name.mono
      | apply rules_pieces.mono
      | exact LeO.none _
      | refine LeO.ite ?_ ?_
      | refine LeO.bind ?_ (fun _ => ?_)
    · intros
      unfold rules_Check.l1
      repeat' first
      | (with_reducible apply ih0)
      | (with_reducible apply ih1)
      | (with_reducible apply rules_Name.mono)
      | (with_reducible apply rules_pieces.mono)
      | (with_reducible exact LeO.refl _)
      | (with_reducible exact LeO.none _)
      | (with_reducible refine LeO.ite ?_ ?_)
      | (with_reducible refine LeO.bind ?_ (fun _ => ?_))
      | apply ih0
      | apply ih1
      | apply rules_Name.mono
      | apply rules_pieces.mono
      | exact LeO.none _
      | refine LeO.ite ?_ ?_
      | refine LeO.bind ?_ (fun _ => ?_)
theorem rules_Check.mono : ∀ a0 a1 a2 a3 a4 a5 a6 a7 a8 a9 a10 k, LeO (rules_Check.f k a0 a1 a2 a3 a4 a5 a6 a7 a8 a9 a10) (rules_Check.f (k + 1) a0 a1 a2 a3 a4 a5 a6 a7 a8 a9 a10) := by
  intro a0 a1 a2 a3 a4 a5 a6 a7 a8 a9 a10 k
  obtain ⟨ih0, ih1⟩ := rules_Check.mono_l k
  unfold rules_Check.f
  repeat' first
      | (with_reducible apply ih0)
      | (with_reducible apply ih1)
      | (with_reducible apply rules_Name.mono)
      | (with_reducible apply rules_pieces.mono)
      | (with_reducible exact LeO.refl _)
      | (with_reducible exact LeO.none _)
      | (with_reducible refine LeO.ite ?_ ?_)
      | (with_reducible refine LeO.bind ?_ (fun _ => ?_))
      | apply ih0
      | apply ih1
      | apply rules_Name.mono
      | apply rules_pieces.mono
      | exact LeO.none _
      | refine LeO.ite ?_ ?_
      | refine LeO.bind ?_ (fun _ => ?_)
set_option maxHeartbeats 80000000 in
set_option maxRecDepth 100000 in
theorem rules_Check.calls (k : Nat) (a0_0 : ByteArray) (a0_1 : Int) (a0_2 : Int) (A0_3 : Option Addr) (c0_3 : Nat) (l0_3 : List (S101)) (A0_4 : Option Addr) (c0_4 : Nat) (l0_4 : List Int) (a0_5 : Bool) (a0_6 : Bool) (A0_7 : Option Addr) (c0_7 : Nat) (l0_7 : List (S103)) (a0_8 : Int) (a0_9 : Int) (a0_10 : Int) (r : Int) (w : World) (hr0_3 : Kd.C k101 w A0_3 l0_3.length l0_3) (hc0_3 : l0_3.length ≤ c0_3) (hr0_4 : Kd.C (Kd.int .i64) w A0_4 l0_4.length l0_4) (hc0_4 : l0_4.length ≤ c0_4) (hr0_7 : Kd.C k103 w A0_7 l0_7.length l0_7) (hc0_7 : l0_7.length ≤ c0_7) (h : rules_Check.f k a0_0 a0_1 a0_2 l0_3 l0_4 a0_5 a0_6 l0_7 a0_8 a0_9 a0_10 = some r) :
    Calls Try.prog 36 #[.agg #[.string a0_0, .int .i64 a0_1, .int .i64 a0_2, .slice A0_3 l0_3.length c0_3, .slice A0_4 l0_4.length c0_4, .bool a0_5, .bool a0_6, .slice A0_7 l0_7.length c0_7, .int .i64 a0_8, .int .i64 a0_9, .int .i64 a0_10]] w fun e w' => e = .returned (.int .i64 r) ∧ Below w.heap.size w w' := by
 have hu44 := Try.underlying44; have hu103 := Try.underlying103; have HR0_3 := Aside0.mk hr0_3; have HC0_3 := Aside0.mk hc0_3; clear hr0_3 hc0_3; have HR0_4 := Aside0.mk hr0_4; have HC0_4 := Aside0.mk hc0_4; clear hr0_4 hc0_4; have HR0_7 := Aside0.mk hr0_7; have HC0_7 := Aside0.mk hc0_7; clear hr0_7 hc0_7; have HB := Aside0.mk (Below.refl w.heap.size w); have hss_ := @isSome_setCell
 have H : ((rules_Name.f k a0_0).bind fun t115 => (if t115 = true then (if a0_1 < 1 then (some 4) else (if a0_1 > 8 then (some 4) else (if a0_2 < 1 then (some 4) else (if a0_2 > 8 then (some 4) else ((rules_pieces.f k l0_3).bind fun t116 => (if t116 = 0 then (if (l0_4.length : Int) = (wrap64 (a0_1 * a0_2)) then (rules_Check.l0 k l0_4 (l0_4.length : Int) 0 a0_0 a0_1 a0_2 l0_3 l0_4 a0_5 a0_6 l0_7 a0_8 a0_9 a0_10) else (some 3)) else (some t116))))))) else (some 6))) = some r := h
 clear h; replace H := Option.bind_eq_some_iff.mp H
 obtain ⟨t115, A20, H⟩ := H
 try dsimp only at H
 have A2 := Aside0.mk A20; clear A20
 by_cases c3 : t115 = true
 ·subst c3
  rw [if_pos rfl] at H
  by_cases c4 : a0_1 < 1
  ·rw [if_pos c4] at H
   have c4b0 : decide (a0_1 < 1) = true := decide_eq_true c4
   clear c4
   obtain rfl := Option.some.inj H
   go_enter Try.func36, Try.ntmps36
   go_wp2_with (first | ((with_reducible refine gate_dst (N := 1) rfl ?_); (try (refine gate_guard (by rfl) ?_; dsimp only)); refine box_event ?hg (N := 1) ?hd (cs := #[.string a0_0, .int .i64 a0_1, .int .i64 a0_2, .slice A0_3 l0_3.length c0_3, .slice A0_4 l0_4.length c0_4, .bool a0_5, .bool a0_6, .slice A0_7 l0_7.length c0_7, .int .i64 a0_8, .int .i64 a0_9, .int .i64 a0_10]) (t := 44) ?hr ?_; (case hd => rfl); (case hg => rfl); (case hr => first | (go_simp; done) | (go_simp; rfl)); intro gb114 hg w5 hbox hb; have BK114 := Aside0.mk (hbox); have GW114 := Aside0.mk (xZ HB hg); have GE114 := Aside0.mk (xZ HB hg); replace HB := Aside0.mk (xS HB hb); clear hb hbox hg; have hcz6_0 := blkc11 BK114.out) | ((with_reducible refine gate_callee (f := 47) rfl ?_); refine goesL_ (some 12) rfl rfl Try.func47 kr_ rfl #[.string a0_0] rfl (by (try simp only [List.map_toArray, List.map_cons, List.map_nil]); first | done | rfl | (simp only [List.length_drop, List.length_take]; rfl)) ?_; (with_reducible refine (rules_Name.calls k a0_0 true _ A2.out).mono ?_); rintro e w' ⟨rfl, ⟨nd, rfl⟩⟩; refine ⟨_, rfl, ?_⟩))
   go_ret
   exact ⟨xer, xW HB⟩
  ·refine box_ ?g1;letI i:type_of% ?g1:=⟨by
   rw [if_neg c4] at H
   have c4b0 : decide (a0_1 < 1) = false := decide_eq_false c4
   clear c4
   by_cases c7 : a0_1 > 8
   ·rw [if_pos c7] at H
    have c7b0 : decide (8 < a0_1) = true := decide_eq_true c7
    clear c7
    obtain rfl := Option.some.inj H
    go_enter Try.func36, Try.ntmps36
    go_wp2_with (first | ((with_reducible refine gate_dst (N := 1) rfl ?_); (try (refine gate_guard (by rfl) ?_; dsimp only)); refine box_event ?hg (N := 1) ?hd (cs := #[.string a0_0, .int .i64 a0_1, .int .i64 a0_2, .slice A0_3 l0_3.length c0_3, .slice A0_4 l0_4.length c0_4, .bool a0_5, .bool a0_6, .slice A0_7 l0_7.length c0_7, .int .i64 a0_8, .int .i64 a0_9, .int .i64 a0_10]) (t := 44) ?hr ?_; (case hd => rfl); (case hg => rfl); (case hr => first | (go_simp; done) | (go_simp; rfl)); intro gb114 hg w8 hbox hb; have BK114 := Aside0.mk (hbox); have GW114 := Aside0.mk (xZ HB hg); have GE114 := Aside0.mk (xZ HB hg); replace HB := Aside0.mk (xS HB hb); clear hb hbox hg; have hcz9_0 := blkc11 BK114.out) | ((with_reducible refine gate_callee (f := 47) rfl ?_); refine goesL_ (some 12) rfl rfl Try.func47 kr_ rfl #[.string a0_0] rfl (by (try simp only [List.map_toArray, List.map_cons, List.map_nil]); first | done | rfl | (simp only [List.length_drop, List.length_take]; rfl)) ?_; (with_reducible refine (rules_Name.calls k a0_0 true _ A2.out).mono ?_); rintro e w' ⟨rfl, ⟨nd, rfl⟩⟩; refine ⟨_, rfl, ?_⟩))
    go_ret
    exact ⟨xer, xW HB⟩
   ·refine box_ ?g2;letI i:type_of% ?g2:=⟨by
    rw [if_neg c7] at H
    have c7b0 : decide (8 < a0_1) = false := decide_eq_false c7
    clear c7
    by_cases c10 : a0_2 < 1
    ·rw [if_pos c10] at H
     have c10b0 : decide (a0_2 < 1) = true := decide_eq_true c10
     clear c10
     obtain rfl := Option.some.inj H
     go_enter Try.func36, Try.ntmps36
     go_wp2_with (first | ((with_reducible refine gate_dst (N := 1) rfl ?_); (try (refine gate_guard (by rfl) ?_; dsimp only)); refine box_event ?hg (N := 1) ?hd (cs := #[.string a0_0, .int .i64 a0_1, .int .i64 a0_2, .slice A0_3 l0_3.length c0_3, .slice A0_4 l0_4.length c0_4, .bool a0_5, .bool a0_6, .slice A0_7 l0_7.length c0_7, .int .i64 a0_8, .int .i64 a0_9, .int .i64 a0_10]) (t := 44) ?hr ?_; (case hd => rfl); (case hg => rfl); (case hr => first | (go_simp; done) | (go_simp; rfl)); intro gb114 hg w11 hbox hb; have BK114 := Aside0.mk (hbox); have GW114 := Aside0.mk (xZ HB hg); have GE114 := Aside0.mk (xZ HB hg); replace HB := Aside0.mk (xS HB hb); clear hb hbox hg; have hcz12_0 := blkc11 BK114.out) | ((with_reducible refine gate_callee (f := 47) rfl ?_); refine goesL_ (some 12) rfl rfl Try.func47 kr_ rfl #[.string a0_0] rfl (by (try simp only [List.map_toArray, List.map_cons, List.map_nil]); first | done | rfl | (simp only [List.length_drop, List.length_take]; rfl)) ?_; (with_reducible refine (rules_Name.calls k a0_0 true _ A2.out).mono ?_); rintro e w' ⟨rfl, ⟨nd, rfl⟩⟩; refine ⟨_, rfl, ?_⟩))
     go_ret
     exact ⟨xer, xW HB⟩
    ·refine box_ ?g3;letI i:type_of% ?g3:=⟨by
     rw [if_neg c10] at H
     have c10b0 : decide (a0_2 < 1) = false := decide_eq_false c10
     clear c10
     by_cases c13 : a0_2 > 8
     ·rw [if_pos c13] at H
      have c13b0 : decide (8 < a0_2) = true := decide_eq_true c13
      clear c13
      obtain rfl := Option.some.inj H
      go_enter Try.func36, Try.ntmps36
      go_wp2_with (first | ((with_reducible refine gate_dst (N := 1) rfl ?_); (try (refine gate_guard (by rfl) ?_; dsimp only)); refine box_event ?hg (N := 1) ?hd (cs := #[.string a0_0, .int .i64 a0_1, .int .i64 a0_2, .slice A0_3 l0_3.length c0_3, .slice A0_4 l0_4.length c0_4, .bool a0_5, .bool a0_6, .slice A0_7 l0_7.length c0_7, .int .i64 a0_8, .int .i64 a0_9, .int .i64 a0_10]) (t := 44) ?hr ?_; (case hd => rfl); (case hg => rfl); (case hr => first | (go_simp; done) | (go_simp; rfl)); intro gb114 hg w14 hbox hb; have BK114 := Aside0.mk (hbox); have GW114 := Aside0.mk (xZ HB hg); have GE114 := Aside0.mk (xZ HB hg); replace HB := Aside0.mk (xS HB hb); clear hb hbox hg; have hcz15_0 := blkc11 BK114.out) | ((with_reducible refine gate_callee (f := 47) rfl ?_); refine goesL_ (some 12) rfl rfl Try.func47 kr_ rfl #[.string a0_0] rfl (by (try simp only [List.map_toArray, List.map_cons, List.map_nil]); first | done | rfl | (simp only [List.length_drop, List.length_take]; rfl)) ?_; (with_reducible refine (rules_Name.calls k a0_0 true _ A2.out).mono ?_); rintro e w' ⟨rfl, ⟨nd, rfl⟩⟩; refine ⟨_, rfl, ?_⟩))
      go_ret
      exact ⟨xer, xW HB⟩
     ·refine box_ ?g4;letI i:type_of% ?g4:=⟨by
      rw [if_neg c13] at H
      have c13b0 : decide (8 < a0_2) = false := decide_eq_false c13
      clear c13; replace H := Option.bind_eq_some_iff.mp H
      obtain ⟨t116, A160, H⟩ := H
      try dsimp only at H
      have A16 := Aside0.mk A160; clear A160
      by_cases c17 : t116 = 0
      ·refine box_ ?g5;letI i:type_of% ?g5:=⟨by
       rw [if_pos c17] at H
       have c17b0 : (t116 == 0) = true := beq_iff_eq.mpr c17
       have c17b1 : (t116 != 0) = false := bne_eq_false_iff_eq.mpr c17
       clear c17
       by_cases c18 : (l0_4.length : Int) = (wrap64 (a0_1 * a0_2))
       ·refine box_ ?g6;letI i:type_of% ?g6:=⟨by
        rw [if_pos c18] at H
        have c18b0 : ((l0_4.length : Int) == (wrap64 (a0_1 * a0_2))) = true := beq_iff_eq.mpr c18
        have c18b1 : ((l0_4.length : Int) != (wrap64 (a0_1 * a0_2))) = false := bne_eq_false_iff_eq.mpr c18
        clear c18
        have H' := Aside0.mk H
        clear H
        go_enter Try.func36, Try.ntmps36
        go_wp2_with (first | ((with_reducible refine gate_dst (N := 1) rfl ?_); (try (refine gate_guard (by rfl) ?_; dsimp only)); refine box_event ?hg (N := 1) ?hd (cs := #[.string a0_0, .int .i64 a0_1, .int .i64 a0_2, .slice A0_3 l0_3.length c0_3, .slice A0_4 l0_4.length c0_4, .bool a0_5, .bool a0_6, .slice A0_7 l0_7.length c0_7, .int .i64 a0_8, .int .i64 a0_9, .int .i64 a0_10]) (t := 44) ?hr ?_; (case hd => rfl); (case hg => rfl); (case hr => first | (go_simp; done) | (go_simp; rfl)); intro gb114 hg w19 hbox hb; have BK114 := Aside0.mk (hbox); have GW114 := Aside0.mk (xZ HB hg); have GE114 := Aside0.mk (xZ HB hg); replace HB := Aside0.mk (xS HB hb); clear hb hbox hg; have hcz20_0 := blkc11 BK114.out) | ((with_reducible refine gate_callee (f := 47) rfl ?_); refine goesL_ (some 12) rfl rfl Try.func47 kr_ rfl #[.string a0_0] rfl (by (try simp only [List.map_toArray, List.map_cons, List.map_nil]); first | done | rfl | (simp only [List.length_drop, List.length_take]; rfl)) ?_; (with_reducible refine (rules_Name.calls k a0_0 true _ A2.out).mono ?_); rintro e w' ⟨rfl, ⟨nd, rfl⟩⟩; refine ⟨_, rfl, ?_⟩) | ((with_reducible refine gate_callee (f := 48) rfl ?_); refine goesL_ (some 35) rfl rfl Try.func48 kr_ rfl #[.slice A0_3 l0_3.length c0_3] rfl (by (try simp only [List.map_toArray, List.map_cons, List.map_nil]); first | done | rfl | (simp only [List.length_drop, List.length_take]; rfl)) ?_; (with_reducible refine (rules_pieces.calls k _ _ l0_3 t116 _ ?side1 ?side2 A16.out).mono ?_); (case side1 => repeat (first | exact (Kd.C_below HR0_3.out (xW HB)) | (with_reducible refine Kd.C_alloc ?_ _) | (with_reducible refine Kd.C_drewN ?_ _) | (with_reducible refine Kd.C_drew ?_))); (case side2 => exact HC0_3.out); rintro e w21 ⟨rfl, hb⟩; refine ⟨_, rfl, ?_⟩; replace BK114 := Aside0.mk (xB BK114 hb); replace HB := Aside0.mk (xS HB hb); (try clear hb); (try clear hb2); (try clear hk); (try clear hi); have hcz22_0 := blkc11 BK114.out))
        go_loopg [51] k (fun kq vs51 w' => ∃ (x51_1 : Int), vs51 = .int .i64 x51_1 ∧ Aside0 (rules_Check.l0 kq l0_4 (l0_4.length : Int) x51_1 a0_0 a0_1 a0_2 l0_3 l0_4 a0_5 a0_6 l0_7 a0_8 a0_9 a0_10 = some r) ∧ Aside0 (kq ≤ k) ∧ Aside0 (w'.heap[gb114]? = some (.cells #[.string a0_0, .int .i64 a0_1, .int .i64 a0_2, (.slice A0_3 l0_3.length c0_3), (.slice A0_4 l0_4.length c0_4), .bool a0_5, .bool a0_6, (.slice A0_7 l0_7.length c0_7), .int .i64 a0_8, .int .i64 a0_9, .int .i64 a0_10] 44 (0, 0))) ∧ Aside0 (Below w.heap.size w w'))
        case atStart => exact ⟨(0), (xrf), H', ⟨Nat.le_refl _⟩, ⟨xK BK114⟩, ⟨xW HB⟩⟩
        case round =>
         clear H'; (try clear p2); (try clear p6)
         obtain ⟨x51_1, rfl, HA, HK1, BK114, HB⟩ := hrel
         cases gk with
         | zero => exact absurd HA.out (by simp [rules_Check.l0])
         | succ k1 =>
          have H := HA.out; clear HA
          simp only [rules_Check.l0] at H
          by_cases c23 : x51_1 < (l0_4.length : Int)
          ·refine box_ ?g7;letI i:type_of% ?g7:=⟨by
           rw [if_pos c23] at H
           have c23b0 : decide (x51_1 < (l0_4.length : Int)) = true := decide_eq_true c23
           clear c23
           by_cases c24 : 0 ≤ x51_1
           ·refine box_ ?g8;letI i:type_of% ?g8:=⟨by
            rw [if_pos c24] at H
            have c24b0 : decide (0 ≤ x51_1) = true := decide_eq_true c24
            clear c24
            by_cases c25 : x51_1 < (l0_4.length : Int)
            ·refine box_ ?g9;letI i:type_of% ?g9:=⟨by
             rw [if_pos c25] at H
             have c25b0 : decide (x51_1 < (l0_4.length : Int)) = true := decide_eq_true c25
             clear c25
             by_cases c26 : (rd l0_4 x51_1) < 0
             ·rw [if_pos c26] at H
              have c26b0 : decide ((rd l0_4 x51_1) < 0) = true := decide_eq_true c26
              clear c26
              obtain rfl := Option.some.inj H
              have p117 : 0 ≤ (x51_1 : Int) := of_decide_eq_true (by first | (with_reducible assumption) | assumption)
              have q117 : x51_1 < (l0_4.length : Int) := of_decide_eq_true (by first | (with_reducible assumption) | assumption)
              obtain ⟨ad117, e117, hx117_0⟩ := Kd.at_int HR0_4.out x51_1 p117 q117
              cases e117
              replace hx117_0 := (HB.out.cell (World.block_lt_of_cell? w _ hx117_0)).trans hx117_0; replace p117 := eq_true p117; replace q117 := eq_true q117
              go_wp2
              go_ret
              exact ⟨xer, xW HB⟩
             ·refine box_ ?g10;letI i:type_of% ?g10:=⟨by
              rw [if_neg c26] at H
              have c26b0 : decide ((rd l0_4 x51_1) < 0) = false := decide_eq_false c26
              clear c26
              by_cases c27 : (rd l0_4 x51_1) > (wrap64 (2 * (l0_3.length : Int)))
              ·rw [if_pos c27] at H
               have c27b0 : decide ((wrap64 (2 * (l0_3.length : Int))) < (rd l0_4 x51_1)) = true := decide_eq_true c27
               clear c27
               obtain rfl := Option.some.inj H
               have p117 : 0 ≤ (x51_1 : Int) := of_decide_eq_true (by first | (with_reducible assumption) | assumption)
               have q117 : x51_1 < (l0_4.length : Int) := of_decide_eq_true (by first | (with_reducible assumption) | assumption)
               obtain ⟨ad117, e117, hx117_0⟩ := Kd.at_int HR0_4.out x51_1 p117 q117
               cases e117
               replace hx117_0 := (HB.out.cell (World.block_lt_of_cell? w _ hx117_0)).trans hx117_0; replace p117 := eq_true p117; replace q117 := eq_true q117; have hcz28_0 := blkc11 BK114.out
               go_wp2
               go_ret
               exact ⟨xer, xW HB⟩
              ·rw [if_neg c27] at H
               have c27b0 : decide ((wrap64 (2 * (l0_3.length : Int))) < (rd l0_4 x51_1)) = false := decide_eq_false c27
               clear c27
               have H' := Aside0.mk H
               clear H
               have p117 : 0 ≤ (x51_1 : Int) := of_decide_eq_true (by first | (with_reducible assumption) | assumption)
               have q117 : x51_1 < (l0_4.length : Int) := of_decide_eq_true (by first | (with_reducible assumption) | assumption)
               obtain ⟨ad117, e117, hx117_0⟩ := Kd.at_int HR0_4.out x51_1 p117 q117
               cases e117
               replace hx117_0 := (HB.out.cell (World.block_lt_of_cell? w _ hx117_0)).trans hx117_0; replace p117 := eq_true p117; replace q117 := eq_true q117; have hcz29_0 := blkc11 BK114.out
               go_wp2
               go_roundg k1
               case measure => have := HK1.out; omega
               case rel => exact ⟨(wrap64 (x51_1 + 1)), (xrf), H', ⟨by have := HK1.out; omega⟩, ⟨xK BK114⟩, ⟨xW HB⟩⟩⟩
              exact inferInstanceAs _⟩
             exact inferInstanceAs _
            ·rw [if_neg c25] at H
             exact absurd H (by simp)⟩
            exact inferInstanceAs _
           ·rw [if_neg c24] at H
            exact absurd H (by simp)⟩
           exact inferInstanceAs _
          ·refine box_ ?g11;letI i:type_of% ?g11:=⟨by
           rw [if_neg c23] at H
           have c23b0 : decide (x51_1 < (l0_4.length : Int)) = false := decide_eq_false c23
           clear c23
           by_cases c30 : (l0_7.length : Int) > 6
           ·rw [if_pos c30] at H
            have c30b0 : decide (6 < (l0_7.length : Int)) = true := decide_eq_true c30
            have c30b1 : decide (6 < l0_7.length) = true := decide_eq_true (by omega)
            clear c30
            obtain rfl := Option.some.inj H
            have hcz31_0 := blkc11 BK114.out
            go_wp2
            go_ret
            exact ⟨xer, xW HB⟩
           ·refine box_ ?g12;letI i:type_of% ?g12:=⟨by
            rw [if_neg c30] at H
            have c30b0 : decide (6 < (l0_7.length : Int)) = false := decide_eq_false c30
            have c30b1 : decide (6 < l0_7.length) = false := decide_eq_false (by omega)
            clear c30
            have H' := Aside0.mk H
            clear H; have hcz32_0 := blkc11 BK114.out
            go_wp2
            go_loopg [73] k1 (fun kq vs73 w' => ∃ (x73_2 : Int), vs73 = .int .i64 x73_2 ∧ Aside0 (rules_Check.l1 kq l0_7 (l0_7.length : Int) x73_2 a0_0 a0_1 a0_2 l0_3 l0_4 a0_5 a0_6 l0_7 a0_8 a0_9 a0_10 = some r) ∧ Aside0 (kq ≤ k1) ∧ Aside0 (w'.heap[gb114]? = some (.cells #[.string a0_0, .int .i64 a0_1, .int .i64 a0_2, (.slice A0_3 l0_3.length c0_3), (.slice A0_4 l0_4.length c0_4), .bool a0_5, .bool a0_6, (.slice A0_7 l0_7.length c0_7), .int .i64 a0_8, .int .i64 a0_9, .int .i64 a0_10] 44 (0, 0))) ∧ Aside0 (Below w.heap.size w w'))
            case atStart => exact ⟨(0), (xrf), H', ⟨Nat.le_refl _⟩, ⟨xK BK114⟩, ⟨xW HB⟩⟩
            case round =>
             clear H'; (try clear p1); (try clear q1); (try clear hx1); (try clear p2); (try clear p6); (try clear p11); (try clear q11); (try clear hx11); (try clear hx117_0); (try clear p117); (try clear p2); (try clear p6); (try clear q117)
             obtain ⟨x73_2, rfl, HA, HK2, BK114, HB⟩ := hrel
             cases gk with
             | zero => exact absurd HA.out (by simp [rules_Check.l1])
             | succ k2 =>
              have H := HA.out; clear HA
              simp only [rules_Check.l1] at H
              by_cases c33 : x73_2 < (l0_7.length : Int)
              ·refine box_ ?g13;letI i:type_of% ?g13:=⟨by
               rw [if_pos c33] at H
               have c33b0 : decide (x73_2 < (l0_7.length : Int)) = true := decide_eq_true c33
               clear c33
               by_cases c34 : 0 ≤ x73_2
               ·refine box_ ?g14;letI i:type_of% ?g14:=⟨by
                rw [if_pos c34] at H
                have c34b0 : decide (0 ≤ x73_2) = true := decide_eq_true c34
                clear c34
                by_cases c35 : x73_2 < (l0_7.length : Int)
                ·refine box_ ?g15;letI i:type_of% ?g15:=⟨by
                 rw [if_pos c35] at H
                 have c35b0 : decide (x73_2 < (l0_7.length : Int)) = true := decide_eq_true c35
                 clear c35; replace H := Option.bind_eq_some_iff.mp H
                 obtain ⟨t120, A360, H⟩ := H
                 try dsimp only at H
                 have A36 := Aside0.mk A360; clear A360
                 by_cases c37 : t120 = 0
                 ·rw [if_pos c37] at H
                  have c37b0 : (t120 == 0) = true := beq_iff_eq.mpr c37
                  have c37b1 : (t120 != 0) = false := bne_eq_false_iff_eq.mpr c37
                  clear c37
                  have H' := Aside0.mk H
                  clear H
                  have p118 : 0 ≤ (x73_2 : Int) := of_decide_eq_true (by first | (with_reducible assumption) | assumption)
                  have q118 : x73_2 < (l0_7.length : Int) := of_decide_eq_true (by first | (with_reducible assumption) | assumption)
                  obtain ⟨ad118, e118, hx118_0, hx118_1, hx118_2, hx118_3⟩ := at_T103 HR0_7.out x73_2 p118 q118
                  cases e118
                  replace hx118_0 := (HB.out.cell (World.block_lt_of_cell? w _ hx118_0)).trans hx118_0; replace hx118_1 := (HB.out.cell (World.block_lt_of_cell? w _ hx118_1)).trans hx118_1; replace hx118_2 := (HB.out.cell (World.block_lt_of_cell? w _ hx118_2)).trans hx118_2; replace hx118_3 := (HB.out.cell (World.block_lt_of_cell? w _ hx118_3)).trans hx118_3; replace p118 := eq_true p118; replace q118 := eq_true q118
                  go_wp2_with (first | ((with_reducible refine gate_dst (N := 7) rfl ?_); (try (refine gate_guard (by rfl) ?_; dsimp only)); refine box_event ?hg (N := 7) ?hd (cs := #[.int .i64 0, .int .i64 0, .int .i64 0, .bool false]) (t := 103) ?hr ?_; (case hd => rfl); (case hg => rfl); (case hr => first | (go_simp; done) | (go_simp; rfl)); intro gb119 hg w38 hbox hb; have BK119 := Aside0.mk (hbox); have GW119 := Aside0.mk (xZ HB hg); have GE119 := Aside0.mk (xZ HB hg); have NB114_119 := Aside0.mk (xN BK114 hg); have NB119_114 := Aside0.mk (xM BK114 hg); replace BK114 := Aside0.mk (xB BK114 hb); replace HB := Aside0.mk (xS HB hb); clear hb hbox hg; have hnb39 := xne NB119_114; have hnc39 := xne NB114_119; have hcz40_0 := blkc4 BK119.out; have hcz41_0 := blkc11 BK114.out) | ((with_reducible refine gate_callee (f := 49) rfl ?_); refine goesL_ (some 81) rfl rfl Try.func49 kr_ rfl #[.agg #[.int .i64 ((rd_T103 l0_7 x73_2).f0), .int .i64 ((rd_T103 l0_7 x73_2).f1), .int .i64 ((rd_T103 l0_7 x73_2).f2), .bool ((rd_T103 l0_7 x73_2).f3)], .int .i64 (l0_3.length : Int)] rfl (by (try simp only [List.map_toArray, List.map_cons, List.map_nil]); first | done | rfl | (simp only [List.length_drop, List.length_take]; rfl)) ?_; (with_reducible refine (rules_end.calls ((rd_T103 l0_7 x73_2).f0) ((rd_T103 l0_7 x73_2).f1) ((rd_T103 l0_7 x73_2).f2) ((rd_T103 l0_7 x73_2).f3) (l0_3.length : Int) t120 _ A36.out).mono ?_); rintro e w42 ⟨rfl, hb⟩; refine ⟨_, rfl, ?_⟩; replace BK114 := Aside0.mk (xB BK114 hb); replace BK119 := Aside0.mk (xP (l' := [.int .i64 ((rd_T103 l0_7 x73_2).f0), .int .i64 ((rd_T103 l0_7 x73_2).f1), .int .i64 ((rd_T103 l0_7 x73_2).f2), .bool ((rd_T103 l0_7 x73_2).f3)]) BK119 hb); replace HB := Aside0.mk (xS HB hb); (try clear hb); (try clear hb2); (try clear hk); (try clear hi)))
                  go_roundg k2
                  case measure => have := HK1.out; have := HK2.out; omega
                  case rel => exact ⟨(wrap64 (x73_2 + 1)), (xrf), H', ⟨by have := HK1.out; have := HK2.out; omega⟩, ⟨xK BK114⟩, ⟨xW HB⟩⟩
                 ·rw [if_neg c37] at H
                  have c37b0 : (t120 == 0) = false := beq_eq_false_iff_ne.mpr c37
                  have c37b1 : (t120 != 0) = true := bne_iff_ne.mpr c37
                  obtain rfl := Option.some.inj H
                  have p118 : 0 ≤ (x73_2 : Int) := of_decide_eq_true (by first | (with_reducible assumption) | assumption)
                  have q118 : x73_2 < (l0_7.length : Int) := of_decide_eq_true (by first | (with_reducible assumption) | assumption)
                  obtain ⟨ad118, e118, hx118_0, hx118_1, hx118_2, hx118_3⟩ := at_T103 HR0_7.out x73_2 p118 q118
                  cases e118
                  replace hx118_0 := (HB.out.cell (World.block_lt_of_cell? w _ hx118_0)).trans hx118_0; replace hx118_1 := (HB.out.cell (World.block_lt_of_cell? w _ hx118_1)).trans hx118_1; replace hx118_2 := (HB.out.cell (World.block_lt_of_cell? w _ hx118_2)).trans hx118_2; replace hx118_3 := (HB.out.cell (World.block_lt_of_cell? w _ hx118_3)).trans hx118_3; replace p118 := eq_true p118; replace q118 := eq_true q118
                  go_wp2_with (first | ((with_reducible refine gate_dst (N := 7) rfl ?_); (try (refine gate_guard (by rfl) ?_; dsimp only)); refine box_event ?hg (N := 7) ?hd (cs := #[.int .i64 0, .int .i64 0, .int .i64 0, .bool false]) (t := 103) ?hr ?_; (case hd => rfl); (case hg => rfl); (case hr => first | (go_simp; done) | (go_simp; rfl)); intro gb119 hg w43 hbox hb; have BK119 := Aside0.mk (hbox); have GW119 := Aside0.mk (xZ HB hg); have GE119 := Aside0.mk (xZ HB hg); have NB114_119 := Aside0.mk (xN BK114 hg); have NB119_114 := Aside0.mk (xM BK114 hg); replace BK114 := Aside0.mk (xB BK114 hb); replace HB := Aside0.mk (xS HB hb); clear hb hbox hg; have hnb44 := xne NB119_114; have hnc44 := xne NB114_119; have hcz45_0 := blkc4 BK119.out; have hcz46_0 := blkc11 BK114.out) | ((with_reducible refine gate_callee (f := 49) rfl ?_); refine goesL_ (some 81) rfl rfl Try.func49 kr_ rfl #[.agg #[.int .i64 ((rd_T103 l0_7 x73_2).f0), .int .i64 ((rd_T103 l0_7 x73_2).f1), .int .i64 ((rd_T103 l0_7 x73_2).f2), .bool ((rd_T103 l0_7 x73_2).f3)], .int .i64 (l0_3.length : Int)] rfl (by (try simp only [List.map_toArray, List.map_cons, List.map_nil]); first | done | rfl | (simp only [List.length_drop, List.length_take]; rfl)) ?_; (with_reducible refine (rules_end.calls ((rd_T103 l0_7 x73_2).f0) ((rd_T103 l0_7 x73_2).f1) ((rd_T103 l0_7 x73_2).f2) ((rd_T103 l0_7 x73_2).f3) (l0_3.length : Int) t120 _ A36.out).mono ?_); rintro e w47 ⟨rfl, hb⟩; refine ⟨_, rfl, ?_⟩; replace BK114 := Aside0.mk (xB BK114 hb); replace BK119 := Aside0.mk (xP (l' := [.int .i64 ((rd_T103 l0_7 x73_2).f0), .int .i64 ((rd_T103 l0_7 x73_2).f1), .int .i64 ((rd_T103 l0_7 x73_2).f2), .bool ((rd_T103 l0_7 x73_2).f3)]) BK119 hb); replace HB := Aside0.mk (xS HB hb); (try clear hb); (try clear hb2); (try clear hk); (try clear hi)))
                  go_ret
                  exact ⟨xer, xW HB⟩⟩
                 exact inferInstanceAs _
                ·rw [if_neg c35] at H
                 exact absurd H (by simp)⟩
                exact inferInstanceAs _
               ·rw [if_neg c34] at H
                exact absurd H (by simp)⟩
               exact inferInstanceAs _
              ·refine box_ ?g16;letI i:type_of% ?g16:=⟨by
               rw [if_neg c33] at H
               have c33b0 : decide (x73_2 < (l0_7.length : Int)) = false := decide_eq_false c33
               clear c33
               by_cases c48 : a0_8 < 0
               ·rw [if_pos c48] at H
                have c48b0 : decide (a0_8 < 0) = true := decide_eq_true c48
                clear c48
                obtain rfl := Option.some.inj H
                have hcz49_0 := blkc11 BK114.out
                go_wp2
                go_ret
                exact ⟨xer, xW HB⟩
               ·refine box_ ?g17;letI i:type_of% ?g17:=⟨by
                rw [if_neg c48] at H
                have c48b0 : decide (a0_8 < 0) = false := decide_eq_false c48
                clear c48
                by_cases c50 : a0_8 > 2
                ·rw [if_pos c50] at H
                 have c50b0 : decide (2 < a0_8) = true := decide_eq_true c50
                 clear c50
                 obtain rfl := Option.some.inj H
                 have hcz51_0 := blkc11 BK114.out
                 go_wp2
                 go_ret
                 exact ⟨xer, xW HB⟩
                ·refine box_ ?g18;letI i:type_of% ?g18:=⟨by
                 rw [if_neg c50] at H
                 have c50b0 : decide (2 < a0_8) = false := decide_eq_false c50
                 clear c50
                 by_cases c52 : a0_9 < 0
                 ·rw [if_pos c52] at H
                  have c52b0 : decide (a0_9 < 0) = true := decide_eq_true c52
                  clear c52
                  obtain rfl := Option.some.inj H
                  have hcz53_0 := blkc11 BK114.out
                  go_wp2
                  go_ret
                  exact ⟨xer, xW HB⟩
                 ·refine box_ ?g19;letI i:type_of% ?g19:=⟨by
                  rw [if_neg c52] at H
                  have c52b0 : decide (a0_9 < 0) = false := decide_eq_false c52
                  clear c52
                  by_cases c54 : a0_9 > 200
                  ·rw [if_pos c54] at H
                   have c54b0 : decide (200 < a0_9) = true := decide_eq_true c54
                   clear c54
                   obtain rfl := Option.some.inj H
                   have hcz55_0 := blkc11 BK114.out
                   go_wp2
                   go_ret
                   exact ⟨xer, xW HB⟩
                  ·refine box_ ?g20;letI i:type_of% ?g20:=⟨by
                   rw [if_neg c54] at H
                   have c54b0 : decide (200 < a0_9) = false := decide_eq_false c54
                   clear c54
                   by_cases c56 : a0_10 < 0
                   ·rw [if_pos c56] at H
                    have c56b0 : decide (a0_10 < 0) = true := decide_eq_true c56
                    clear c56
                    obtain rfl := Option.some.inj H
                    have hcz57_0 := blkc11 BK114.out
                    go_wp2
                    go_ret
                    exact ⟨xer, xW HB⟩
                   ·refine box_ ?g21;letI i:type_of% ?g21:=⟨by
                    rw [if_neg c56] at H
                    have c56b0 : decide (a0_10 < 0) = false := decide_eq_false c56
                    clear c56
                    by_cases c58 : a0_10 = 1
                    ·rw [if_pos c58] at H
                     have c58b0 : (a0_10 == 1) = true := beq_iff_eq.mpr c58
                     have c58b1 : (a0_10 != 1) = false := bne_eq_false_iff_eq.mpr c58
                     clear c58
                     obtain rfl := Option.some.inj H
                     have hcz59_0 := blkc11 BK114.out
                     go_wp2
                     go_ret
                     exact ⟨xer, xW HB⟩
                    ·rw [if_neg c58] at H
                     have c58b0 : (a0_10 == 1) = false := beq_eq_false_iff_ne.mpr c58
                     have c58b1 : (a0_10 != 1) = true := bne_iff_ne.mpr c58
                     by_cases c60 : a0_10 > 5
                     ·rw [if_pos c60] at H
                      have c60b0 : decide (5 < a0_10) = true := decide_eq_true c60
                      clear c60
                      obtain rfl := Option.some.inj H
                      have hcz61_0 := blkc11 BK114.out
                      go_wp2
                      go_ret
                      exact ⟨xer, xW HB⟩
                     ·rw [if_neg c60] at H
                      have c60b0 : decide (5 < a0_10) = false := decide_eq_false c60
                      clear c60
                      obtain rfl := Option.some.inj H
                      have hcz62_0 := blkc11 BK114.out
                      go_wp2
                      go_ret
                      exact ⟨xer, xW HB⟩⟩
                    exact inferInstanceAs _⟩
                   exact inferInstanceAs _⟩
                  exact inferInstanceAs _⟩
                 exact inferInstanceAs _⟩
                exact inferInstanceAs _⟩
               exact inferInstanceAs _⟩
            exact inferInstanceAs _⟩
           exact inferInstanceAs _⟩
        exact inferInstanceAs _
       ·rw [if_neg c18] at H
        have c18b0 : ((l0_4.length : Int) == (wrap64 (a0_1 * a0_2))) = false := beq_eq_false_iff_ne.mpr c18
        have c18b1 : ((l0_4.length : Int) != (wrap64 (a0_1 * a0_2))) = true := bne_iff_ne.mpr c18
        obtain rfl := Option.some.inj H
        go_enter Try.func36, Try.ntmps36
        go_wp2_with (first | ((with_reducible refine gate_dst (N := 1) rfl ?_); (try (refine gate_guard (by rfl) ?_; dsimp only)); refine box_event ?hg (N := 1) ?hd (cs := #[.string a0_0, .int .i64 a0_1, .int .i64 a0_2, .slice A0_3 l0_3.length c0_3, .slice A0_4 l0_4.length c0_4, .bool a0_5, .bool a0_6, .slice A0_7 l0_7.length c0_7, .int .i64 a0_8, .int .i64 a0_9, .int .i64 a0_10]) (t := 44) ?hr ?_; (case hd => rfl); (case hg => rfl); (case hr => first | (go_simp; done) | (go_simp; rfl)); intro gb114 hg w63 hbox hb; have BK114 := Aside0.mk (hbox); have GW114 := Aside0.mk (xZ HB hg); have GE114 := Aside0.mk (xZ HB hg); replace HB := Aside0.mk (xS HB hb); clear hb hbox hg; have hcz64_0 := blkc11 BK114.out) | ((with_reducible refine gate_callee (f := 47) rfl ?_); refine goesL_ (some 12) rfl rfl Try.func47 kr_ rfl #[.string a0_0] rfl (by (try simp only [List.map_toArray, List.map_cons, List.map_nil]); first | done | rfl | (simp only [List.length_drop, List.length_take]; rfl)) ?_; (with_reducible refine (rules_Name.calls k a0_0 true _ A2.out).mono ?_); rintro e w' ⟨rfl, ⟨nd, rfl⟩⟩; refine ⟨_, rfl, ?_⟩) | ((with_reducible refine gate_callee (f := 48) rfl ?_); refine goesL_ (some 35) rfl rfl Try.func48 kr_ rfl #[.slice A0_3 l0_3.length c0_3] rfl (by (try simp only [List.map_toArray, List.map_cons, List.map_nil]); first | done | rfl | (simp only [List.length_drop, List.length_take]; rfl)) ?_; (with_reducible refine (rules_pieces.calls k _ _ l0_3 t116 _ ?side1 ?side2 A16.out).mono ?_); (case side1 => repeat (first | exact (Kd.C_below HR0_3.out (xW HB)) | (with_reducible refine Kd.C_alloc ?_ _) | (with_reducible refine Kd.C_drewN ?_ _) | (with_reducible refine Kd.C_drew ?_))); (case side2 => exact HC0_3.out); rintro e w65 ⟨rfl, hb⟩; refine ⟨_, rfl, ?_⟩; replace BK114 := Aside0.mk (xB BK114 hb); replace HB := Aside0.mk (xS HB hb); (try clear hb); (try clear hb2); (try clear hk); (try clear hi); have hcz66_0 := blkc11 BK114.out))
        go_ret
        exact ⟨xer, xW HB⟩⟩
       exact inferInstanceAs _
      ·rw [if_neg c17] at H
       have c17b0 : (t116 == 0) = false := beq_eq_false_iff_ne.mpr c17
       have c17b1 : (t116 != 0) = true := bne_iff_ne.mpr c17
       obtain rfl := Option.some.inj H
       go_enter Try.func36, Try.ntmps36
       go_wp2_with (first | ((with_reducible refine gate_dst (N := 1) rfl ?_); (try (refine gate_guard (by rfl) ?_; dsimp only)); refine box_event ?hg (N := 1) ?hd (cs := #[.string a0_0, .int .i64 a0_1, .int .i64 a0_2, .slice A0_3 l0_3.length c0_3, .slice A0_4 l0_4.length c0_4, .bool a0_5, .bool a0_6, .slice A0_7 l0_7.length c0_7, .int .i64 a0_8, .int .i64 a0_9, .int .i64 a0_10]) (t := 44) ?hr ?_; (case hd => rfl); (case hg => rfl); (case hr => first | (go_simp; done) | (go_simp; rfl)); intro gb114 hg w67 hbox hb; have BK114 := Aside0.mk (hbox); have GW114 := Aside0.mk (xZ HB hg); have GE114 := Aside0.mk (xZ HB hg); replace HB := Aside0.mk (xS HB hb); clear hb hbox hg; have hcz68_0 := blkc11 BK114.out) | ((with_reducible refine gate_callee (f := 47) rfl ?_); refine goesL_ (some 12) rfl rfl Try.func47 kr_ rfl #[.string a0_0] rfl (by (try simp only [List.map_toArray, List.map_cons, List.map_nil]); first | done | rfl | (simp only [List.length_drop, List.length_take]; rfl)) ?_; (with_reducible refine (rules_Name.calls k a0_0 true _ A2.out).mono ?_); rintro e w' ⟨rfl, ⟨nd, rfl⟩⟩; refine ⟨_, rfl, ?_⟩) | ((with_reducible refine gate_callee (f := 48) rfl ?_); refine goesL_ (some 35) rfl rfl Try.func48 kr_ rfl #[.slice A0_3 l0_3.length c0_3] rfl (by (try simp only [List.map_toArray, List.map_cons, List.map_nil]); first | done | rfl | (simp only [List.length_drop, List.length_take]; rfl)) ?_; (with_reducible refine (rules_pieces.calls k _ _ l0_3 t116 _ ?side1 ?side2 A16.out).mono ?_); (case side1 => repeat (first | exact (Kd.C_below HR0_3.out (xW HB)) | (with_reducible refine Kd.C_alloc ?_ _) | (with_reducible refine Kd.C_drewN ?_ _) | (with_reducible refine Kd.C_drew ?_))); (case side2 => exact HC0_3.out); rintro e w69 ⟨rfl, hb⟩; refine ⟨_, rfl, ?_⟩; replace BK114 := Aside0.mk (xB BK114 hb); replace HB := Aside0.mk (xS HB hb); (try clear hb); (try clear hb2); (try clear hk); (try clear hi)))
       go_ret
       exact ⟨xer, xW HB⟩⟩
      exact inferInstanceAs _⟩
     exact inferInstanceAs _⟩
    exact inferInstanceAs _⟩
   exact inferInstanceAs _
 ·replace c3 := Bool.eq_false_iff.mpr c3
  subst c3
  rw [if_neg (show ¬ (false = true) by decide)] at H
  obtain rfl := Option.some.inj H
  go_enter Try.func36, Try.ntmps36
  go_wp2_with (first | ((with_reducible refine gate_dst (N := 1) rfl ?_); (try (refine gate_guard (by rfl) ?_; dsimp only)); refine box_event ?hg (N := 1) ?hd (cs := #[.string a0_0, .int .i64 a0_1, .int .i64 a0_2, .slice A0_3 l0_3.length c0_3, .slice A0_4 l0_4.length c0_4, .bool a0_5, .bool a0_6, .slice A0_7 l0_7.length c0_7, .int .i64 a0_8, .int .i64 a0_9, .int .i64 a0_10]) (t := 44) ?hr ?_; (case hd => rfl); (case hg => rfl); (case hr => first | (go_simp; done) | (go_simp; rfl)); intro gb114 hg w70 hbox hb; have BK114 := Aside0.mk (hbox); have GW114 := Aside0.mk (xZ HB hg); have GE114 := Aside0.mk (xZ HB hg); replace HB := Aside0.mk (xS HB hb); clear hb hbox hg; have hcz71_0 := blkc11 BK114.out) | ((with_reducible refine gate_callee (f := 47) rfl ?_); refine goesL_ (some 12) rfl rfl Try.func47 kr_ rfl #[.string a0_0] rfl (by (try simp only [List.map_toArray, List.map_cons, List.map_nil]); first | done | rfl | (simp only [List.length_drop, List.length_take]; rfl)) ?_; (with_reducible refine (rules_Name.calls k a0_0 false _ A2.out).mono ?_); rintro e w' ⟨rfl, ⟨nd, rfl⟩⟩; refine ⟨_, rfl, ?_⟩))
  go_ret
  exact ⟨xer, xW HB⟩

/-! ### slices_Clone_int_int: function 52 -/
def slices_Clone_int_int.f (l0 : List Int) : Option (List Int) := (some (([] : List Int) : List Int)).bind fun y121 => (if y121.length + l0.length < 17592186044416 then (some (y121 ++ l0)) else (none))
set_option maxHeartbeats 80000000 in
set_option maxRecDepth 100000 in
theorem slices_Clone_int_int.calls (A0 : Option Addr) (c0 : Nat) (l0 : List Int) (r : List Int) (w : World) (hr0 : Kd.C (Kd.int .i64) w A0 l0.length l0) (hc0 : l0.length ≤ c0) (h : slices_Clone_int_int.f l0 = some r) :
    Calls Try.prog 52 #[.slice A0 l0.length c0] w fun e w' => ∃ v0_ : Value, e = .returned (v0_) ∧ Kd.R (Kd.int .i64) 3 w' w.heap.size (fun _ => True) v0_ r ∧ Below w.heap.size w w' := by
 have HR0 := Aside0.mk hr0; have HC0 := Aside0.mk hc0; clear hr0 hc0; have HB := Aside0.mk (Below.refl w.heap.size w); have hss_ := @isSome_setCell
 have H : ((some (([] : List Int) : List Int)).bind fun y121 => (if y121.length + l0.length < 17592186044416 then (some (y121 ++ l0)) else (none))) = some r := h
 clear h
 obtain ⟨y121, hy121⟩ : ∃ y_ : List Int, y_ = (([] : List Int)) := ⟨_, rfl⟩
 replace H : (if y121.length + l0.length < 17592186044416 then (some (y121 ++ l0)) else (none)) = some r := by first | (rw [hy121]; with_reducible exact H) | (have H2_ := (Option.bind_some _ _).symm.trans H; rw [hy121]; with_reducible exact H2_) | (have H2_ := (Option.bind_some _ _).symm.trans H; with_reducible exact H2_) | with_reducible exact H | (rw [hy121]; exact H) | exact H
 have Ny121 := Aside0.mk hy121; clear hy121
 by_cases c2 : y121.length + l0.length < 17592186044416
 ·rw [if_pos c2] at H
  have LMc2 := Aside0.mk c2; clear c2
  obtain ⟨y124, hy124⟩ : ∃ y_ : List Int, y_ = (y121 ++ l0) := ⟨_, rfl⟩
  replace H : (some y124) = some r := by first | (rw [hy124]; with_reducible exact H) | (have H2_ := (Option.bind_some _ _).symm.trans H; rw [hy124]; with_reducible exact H2_) | (have H2_ := (Option.bind_some _ _).symm.trans H; with_reducible exact H2_) | with_reducible exact H | (rw [hy124]; exact H) | exact H
  have Ny124 := Aside0.mk hy124; clear hy124
  obtain rfl := Option.some.inj H
  have hnil_ : ∀ (w_ : World) (a_ : Option Addr) (n_ c_ : Nat), (binOp .eql 31 (.slice a_ n_ c_) (.slice none 0 0)).run Try.prog w_ = .ok (.bool a_.isNone) w_ := fun w_ a_ n_ c_ => Lib.run_eql_slice_nil w_ 31 3 a_ n_ c_ 0 0 Try.underlying31
  rcases A0 with _ | A0
  ·obtain rfl : l0 = [] := by
    cases l0 with
    | nil => rfl
    | cons a_ b_ => obtain ⟨ad_, h_, _⟩ := (HR0.out).2.2 (by simp); cases h_
   obtain rfl : y124 = [] := by rw [Ny124.out, Ny121.out]; rfl
   go_enter Try.func52, Try.ntmps52
   go_wp2
   go_ret
   exact ⟨_, xer, Kd.R_nil _ _ _ _ _, xW HB⟩
  ·go_enter Try.func52, Try.ntmps52
   go_wp2_with (first | ((with_reducible refine gate_dst (N := 5) rfl ?_); refine Kd.R_lit (Kd.int .i64) _ 3 ?hg (N := 5) ?hd (xs := ([] : List Int)) (inner := []) (ok := fun _ => True) (okp := fun _ => True) ?hr ?hp (fun _ hk => hk) trivial (Below.refl _ _) (Nat.le_refl _) (by simp) ?_; (case hd => rfl); (case hg => rfl); (case hr => first | (go_simp; done) | (go_simp; rfl)); (case hp => exact (Reps.none _ _)); intro v122 w3 ho4 hb hg_ hnew_; clear hg_ hnew_; (first | rw [← Ny121.out] at ho4 | (simp only [Int.reduceToNat] at ho4; rw [← Ny121.out] at ho4)); have HO123 := Aside0.mk (Kd.R_lower ho4 (below_size (xW HB))); replace HB := Aside0.mk (xS HB hb); clear hb ho4) | ((with_reducible refine gate_builtin (b := .append) (xs := #[.tmp 5, .tmp 6]) rfl ?_); at_builtin; refine Kd.R_append_rows (Kd.int .i64) (w0 := w) w.heap.size rfl (.tmp 5) (.tmp 6) 31 3 (.int .i64 0) 8 rfl Try.underlying31 info3 rfl (by decide) (by omega) v122 y121 l0 _ _ _ (fun _ => True) (fun _ => False) rfl rfl ?aO ?aR (fun _ _ h => h) (fun _ h => h.elim) ?aF ?aB ?aS ?aL ?_; (case aR => exact xC (Kd.C_below HR0.out HB.out)); (case aB => exact (xW HB)); (case aF => exact (fun _ _ => trivial)); (case aO => exact (by (with_reducible repeat (first | apply Kd.R_alloc | apply Kd.R_drewN | apply Kd.R_drew)); exact HO123.out)); (case aS => exact (below_size (xW HB))); (case aL => have := LMc2.out; omega); intro v125 w5 ho hb hg hat; rw [← Ny124.out] at ho; have HO126 := Aside0.mk (ho); replace HB := Aside0.mk (hb); clear HO123; clear ho hb hg hat))
   go_ret
   exact ⟨_, xer, by (with_reducible repeat (first | apply Kd.R_alloc | apply Kd.R_drewN | apply Kd.R_drew)); exact HO126.out, xW HB⟩
 ·rw [if_neg c2] at H
  exact absurd H (by simp)

/-! ### place_Fresh: function 45 -/
mutual
def place_Fresh.l0 : Nat → Int → ByteArray → Int → Int → List (S101) → List Int → Bool → Bool → List (S103) → Int → Int → Int → List Int → List Int → List Int → Int → Int → Option (List Int × List Int × List Int × Int × Int)
  | 0, _, _, _, _, _, _, _, _, _, _, _, _, _, _, _, _, _ => none
  | k + 1, x11, z128a, z128b, z128c, z128d, z128e, z128f, z128g, z128h, z128i, z128j, z128k, z133a, z133b, z133c, z133d, z133e => if x11 < 2 then (place_Fresh.l1 k x11 x11 z128d (z128d.length : Int) 0 z128a z128b z128c z128d z128e z128f z128g z128h z128i z128j z128k z133a z133b z133c z133d z133e) else (some (z133a, z133b, z133c, z133d, z133e))
def place_Fresh.l1 : Nat → Int → Int → List (S101) → Int → Int → ByteArray → Int → Int → List (S101) → List Int → Bool → Bool → List (S103) → Int → Int → Int → List Int → List Int → List Int → Int → Int → Option (List Int × List Int × List Int × Int × Int)
  | 0, _, _, _, _, _, _, _, _, _, _, _, _, _, _, _, _, _, _, _, _, _ => none
  | k + 1, x4, x11, x15, x16, x17, z128a, z128b, z128c, z128d, z128e, z128f, z128g, z128h, z128i, z128j, z128k, z133a, z133b, z133c, z133d, z133e => if x17 < x16 then (if 0 ≤ x17 then (if x17 < (x15.length : Int) then (if 0 ≤ x4 then (if x4 < 2 then (if x4 = 0 then (if z133b.length < 17592186044416 then (place_Fresh.l1 k x4 x11 x15 x16 (wrap64 (x17 + 1)) z128a z128b z128c z128d z128e z128f z128g z128h z128i z128j z128k z133a (z133b ++ [(rd_T101 x15 x17).f1]) z133c z133d z133e) else (none)) else (if z133c.length < 17592186044416 then (place_Fresh.l1 k x4 x11 x15 x16 (wrap64 (x17 + 1)) z128a z128b z128c z128d z128e z128f z128g z128h z128i z128j z128k z133a z133b (z133c ++ [(rd_T101 x15 x17).f1]) z133d z133e) else (none))) else (none)) else (none)) else (none)) else (none)) else (place_Fresh.l0 k (wrap64 (x11 + 1)) z128a z128b z128c z128d z128e z128f z128g z128h z128i z128j z128k z133a z133b z133c z133d z133e)
end
def place_Fresh.f (k : Nat) (a0_0 : ByteArray) (a0_1 : Int) (a0_2 : Int) (l0_3 : List (S101)) (l0_4 : List Int) (a0_5 : Bool) (a0_6 : Bool) (l0_7 : List (S103)) (a0_8 : Int) (a0_9 : Int) (a0_10 : Int) : Option (List Int × List Int × List Int × Int × Int) := (slices_Clone_int_int.f l0_4).bind fun t129 => (place_Fresh.l0 k 0 a0_0 a0_1 a0_2 l0_3 l0_4 a0_5 a0_6 l0_7 a0_8 a0_9 a0_10 t129 ([] : List Int) ([] : List Int) 0 0)
theorem place_Fresh.mono_l : ∀ k, (∀ y0 y1 y2 y3 y4 y5 y6 y7 y8 y9 y10 y11 y12 y13 y14 y15 y16, LeO (place_Fresh.l0 k y0 y1 y2 y3 y4 y5 y6 y7 y8 y9 y10 y11 y12 y13 y14 y15 y16) (place_Fresh.l0 (k + 1) y0 y1 y2 y3 y4 y5 y6 y7 y8 y9 y10 y11 y12 y13 y14 y15 y16)) ∧ (∀ y0 y1 y2 y3 y4 y5 y6 y7 y8 y9 y10 y11 y12 y13 y14 y15 y16 y17 y18 y19 y20, LeO (place_Fresh.l1 k y0 y1 y2 y3 y4 y5 y6 y7 y8 y9 y10 y11 y12 y13 y14 y15 y16 y17 y18 y19 y20) (place_Fresh.l1 (k + 1) y0 y1 y2 y3 y4 y5 y6 y7 y8 y9 y10 y11 y12 y13 y14 y15 y16 y17 y18 y19 y20))
  | 0 => ⟨fun _ _ _ _ _ _ _ _ _ _ _ _ _ _ _ _ _ r h => by simp [place_Fresh.l0] at h, fun _ _ _ _ _ _ _ _ _ _ _ _ _ _ _ _ _ _ _ _ _ r h => by simp [place_Fresh.l1] at h⟩
  | k + 1 => by
    obtain ⟨ih0, ih1⟩ := place_Fresh.mono_l k
    refine ⟨?_, ?_⟩
    · intros
      unfold place_Fresh.l0
      repeat' first
      | (with_reducible apply ih0)
      | (with_reducible apply ih1)
      | (with_reducible exact LeO.refl _)
      | (with_reducible exact LeO.none _)
      | (with_reducible refine LeO.ite ?_ ?_)
      | (with_reducible refine LeO.bind ?_ (fun _ => ?_))
      | apply ih0
      | apply ih1
      | exact LeO.none _
      | refine LeO.ite ?_ ?_
      | refine LeO.bind ?_ (fun _ => ?_)
    · intros
      unfold place_Fresh.l1
      repeat' first
      | (with_reducible apply ih0)
      | (with_reducible apply ih1)
      | (with_reducible exact LeO.refl _)
      | (with_reducible exact LeO.none _)
      | (with_reducible refine LeO.ite ?_ ?_)
      | (with_reducible refine LeO.bind ?_ (fun _ => ?_))
      | apply ih0
      | apply ih1
      | exact LeO.none _
      | refine LeO.ite ?_ ?_
      | refine LeO.bind ?_ (fun _ => ?_)
theorem place_Fresh.mono : ∀ a0 a1 a2 a3 a4 a5 a6 a7 a8 a9 a10 k, LeO (place_Fresh.f k a0 a1 a2 a3 a4 a5 a6 a7 a8 a9 a10) (place_Fresh.f (k + 1) a0 a1 a2 a3 a4 a5 a6 a7 a8 a9 a10) := by
  intro a0 a1 a2 a3 a4 a5 a6 a7 a8 a9 a10 k
  obtain ⟨ih0, ih1⟩ := place_Fresh.mono_l k
  unfold place_Fresh.f
  repeat' first
      | (with_reducible apply ih0)
      | (with_reducible apply ih1)
      | (with_reducible exact LeO.refl _)
      | (with_reducible exact LeO.none _)
      | (with_reducible refine LeO.ite ?_ ?_)
      | (with_reducible refine LeO.bind ?_ (fun _ => ?_))
      | apply ih0
      | apply ih1
      | exact LeO.none _
      | refine LeO.ite ?_ ?_
      | refine LeO.bind ?_ (fun _ => ?_)
def place_Fresh.T8 : Bool × List (List Nat × List Nat) := (true, [([], []), ([], []), ([], []), ([2, 1], [1, 2]), ([3], [3]), ([], []), ([5], [5]), ([6], [6]), ([4, 7], [4, 7]), ([], []), ([9, 0, 0, 1, 2, 3, 4, 5, 6, 7, 8], [0, 9]), ([10, 8, 8, 0, 1, 2, 3, 4, 5, 6, 7, 8], [8, 10])])
def place_Fresh.B8 : List Nat := [0, 0, 0, 6, 14, 0, 32, 96, 254, 0, 1023, 2047]
theorem place_Fresh.tab8 : rtab .any (opsOf Try.f45 8) = place_Fresh.T8 := by as_aux_lemma => kernel_rfl
theorem place_Fresh.bits8 : waitsOk place_Fresh.T8.2 place_Fresh.B8 = true := by as_aux_lemma => kernel_rfl
set_option maxHeartbeats 80000000 in
set_option maxRecDepth 100000 in
theorem place_Fresh.calls (k : Nat) (a0_0 : ByteArray) (a0_1 : Int) (a0_2 : Int) (A0_3 : Option Addr) (c0_3 : Nat) (l0_3 : List (S101)) (A0_4 : Option Addr) (c0_4 : Nat) (l0_4 : List Int) (a0_5 : Bool) (a0_6 : Bool) (A0_7 : Option Addr) (c0_7 : Nat) (l0_7 : List (S103)) (a0_8 : Int) (a0_9 : Int) (a0_10 : Int) (r1 : List Int) (r2 : List Int) (r3 : List Int) (r4 : Int) (r5 : Int) (w : World) (hr0_3 : Kd.C k101 w A0_3 l0_3.length l0_3) (hc0_3 : l0_3.length ≤ c0_3) (hr0_4 : Kd.C (Kd.int .i64) w A0_4 l0_4.length l0_4) (hc0_4 : l0_4.length ≤ c0_4) (hr0_7 : Kd.C k103 w A0_7 l0_7.length l0_7) (hc0_7 : l0_7.length ≤ c0_7) (h : place_Fresh.f k a0_0 a0_1 a0_2 l0_3 l0_4 a0_5 a0_6 l0_7 a0_8 a0_9 a0_10 = some (r1, r2, r3, r4, r5)) :
    Calls Try.prog 45 #[.agg #[.string a0_0, .int .i64 a0_1, .int .i64 a0_2, .slice A0_3 l0_3.length c0_3, .slice A0_4 l0_4.length c0_4, .bool a0_5, .bool a0_6, .slice A0_7 l0_7.length c0_7, .int .i64 a0_8, .int .i64 a0_9, .int .i64 a0_10]] w fun e w' => ∃ v0_ v1_ v2_ : Value, e = .returned (.agg #[v0_, v1_, v2_, .int .i64 r4, .int .i64 r5]) ∧ Kd.R (Kd.int .i64) 3 w' w.heap.size (fun k_ => some k_ ≠ (v1_ : Value).ownBlock ∧ some k_ ≠ (v2_ : Value).ownBlock) v0_ r1 ∧ Kd.R (Kd.int .i64) 3 w' w.heap.size (fun k_ => some k_ ≠ (v0_ : Value).ownBlock ∧ some k_ ≠ (v2_ : Value).ownBlock) v1_ r2 ∧ Kd.R (Kd.int .i64) 3 w' w.heap.size (fun k_ => some k_ ≠ (v0_ : Value).ownBlock ∧ some k_ ≠ (v1_ : Value).ownBlock) v2_ r3 ∧ Below w.heap.size w w' := by
 have hu44 := Try.underlying44; have hu47 := Try.underlying47; have hu101 := Try.underlying101; have HR0_3 := Aside0.mk hr0_3; have HC0_3 := Aside0.mk hc0_3; clear hr0_3 hc0_3; have HR0_4 := Aside0.mk hr0_4; have HC0_4 := Aside0.mk hc0_4; clear hr0_4 hc0_4; have HR0_7 := Aside0.mk hr0_7; have HC0_7 := Aside0.mk hc0_7; clear hr0_7 hc0_7; have HB := Aside0.mk (Below.refl w.heap.size w); have hss_ := @isSome_setCell
 have H : ((slices_Clone_int_int.f l0_4).bind fun t129 => (place_Fresh.l0 k 0 a0_0 a0_1 a0_2 l0_3 l0_4 a0_5 a0_6 l0_7 a0_8 a0_9 a0_10 t129 ([] : List Int) ([] : List Int) 0 0)) = some (r1, r2, r3, r4, r5) := h
 clear h; replace H := Option.bind_eq_some_iff.mp H
 obtain ⟨t129, A20, H⟩ := H
 try dsimp only at H
 have A2 := Aside0.mk A20; clear A20
 have H' := Aside0.mk H
 clear H
 go_enter Try.func45, Try.ntmps45
 go_wp2_with (first | ((with_reducible refine gate_dst (N := 1) rfl ?_); refine box_event ?hg (N := 1) ?hd (cs := #[.string a0_0, .int .i64 a0_1, .int .i64 a0_2, .slice A0_3 l0_3.length c0_3, .slice A0_4 l0_4.length c0_4, .bool a0_5, .bool a0_6, .slice A0_7 l0_7.length c0_7, .int .i64 a0_8, .int .i64 a0_9, .int .i64 a0_10]) (t := 44) ?hr ?_; (case hd => rfl); (case hg => rfl); (case hr => first | (go_simp; done) | (go_simp; rfl)); intro gb127 hg w3 hbox hb; have BK127 := Aside0.mk (hbox); have GW127 := Aside0.mk (xZ HB hg); have GE127 := Aside0.mk (xZ HB hg); replace HB := Aside0.mk (xS HB hb); clear hb hbox hg) | ((with_reducible refine gate_dst (N := 2) rfl ?_); refine box_event ?hg (N := 2) ?hd (cs := #[.slice none 0 0, .slice none 0 0, .slice none 0 0, .int .i64 0, .int .i64 0]) (t := 47) ?hr ?_; (case hd => rfl); (case hg => rfl); (case hr => first | (go_simp; done) | (go_simp; rfl)); intro gb128 hg w4 hbox hb; have BK128 := Aside0.mk (hbox); have GW128 := Aside0.mk (xZ HB hg); have GE128 := Aside0.mk (xZ HB hg); have NB127_128 := Aside0.mk (xN BK127 hg); have NB128_127 := Aside0.mk (xM BK127 hg); replace BK127 := Aside0.mk (xB BK127 hb); replace HB := Aside0.mk (xS HB hb); clear hb hbox hg; have hnb5 := xne NB127_128; have hnc5 := xne NB128_127; have hcz6_0 := blkc11 BK127.out) | ((with_reducible refine gate_callee (f := 52) rfl ?_); refine goesL_ (some 9) rfl rfl Try.func52 kr_ rfl #[.slice A0_4 l0_4.length c0_4] rfl (by (try simp only [List.map_toArray, List.map_cons, List.map_nil]); first | done | rfl | (simp only [List.length_drop, List.length_take]; rfl)) ?_; (with_reducible refine (slices_Clone_int_int.calls _ _ l0_4 t129 _ ?side1 ?side2 A2.out).mono ?_); (case side1 => exact xC (Kd.C_below HR0_4.out HB.out)); (case side2 => exact HC0_4.out); rintro e w7 ⟨v130, rfl, ho0, hb⟩; refine ⟨_, rfl, ?_⟩; have HO131 := Aside0.mk (Kd.R_lower ho0 (below_size (xW HB))); replace BK127 := Aside0.mk (xB BK127 hb); replace BK128 := Aside0.mk (xB BK128 hb); replace HB := Aside0.mk (xS HB hb); (try clear hb); (try clear hb2); (try clear hk); (try clear hi); (try clear ho0); obtain ⟨Ao8, co8, eo8⟩ := Kd.R_slice HO131.out; subst eo8) | ((with_reducible refine gate_dst (N := 3) rfl ?_); refine box_event ?hg (N := 3) ?hd (cs := #[.slice none 0 0, .slice none 0 0, .slice none 0 0, .int .i64 0, .int .i64 0]) (t := 47) ?hr ?_; (case hd => rfl); (case hg => rfl); (case hr => first | (go_simp; done) | (go_simp; rfl)); intro gb132 hg w9 hbox hb; have BK132 := Aside0.mk (hbox); have GW132 := Aside0.mk (xZ HB hg); have GE132 := Aside0.mk (xZ HB hg); have NB127_132 := Aside0.mk (xN BK127 hg); have NB132_127 := Aside0.mk (xM BK127 hg); have NB128_132 := Aside0.mk (xN BK128 hg); have NB132_128 := Aside0.mk (xM BK128 hg); replace HO131 := Aside0.mk (Kd.R_below (by (with_reducible repeat (first | apply Kd.R_alloc | apply Kd.R_drewN | apply Kd.R_drew)); exact HO131.out) hb); replace BK127 := Aside0.mk (xB BK127 hb); replace BK128 := Aside0.mk (xB BK128 hb); replace HB := Aside0.mk (xS HB hb); clear hb hbox hg; have hnb10 := xne NB132_127; have hnc10 := xne NB127_132; have hnb11 := xne NB132_128; have hnc11 := xne NB128_132; have hcz12_0 := blkc5 BK132.out))
 (try have hq127_128 := xne NB127_128); (try have hq128_127 := xne NB128_127); (try have hq127_132 := xne NB127_132); (try have hq132_127 := xne NB132_127); (try have hq128_132 := xne NB128_132); (try have hq132_128 := xne NB132_128)
 go_loopg [11] k (fun kq vs11 w' => ∃ (x11_1 : Int) (z133b1 : List Int) (z133c1 : List Int) (u133001 : Value) (u133002 : Value), vs11 = .int .i64 x11_1 ∧ Aside0 (place_Fresh.l0 kq x11_1 a0_0 a0_1 a0_2 l0_3 l0_4 a0_5 a0_6 l0_7 a0_8 a0_9 a0_10 t129 z133b1 z133c1 0 0 = some (r1, r2, r3, r4, r5)) ∧ Aside0 (kq ≤ k) ∧ Aside0 (Kd.R (Kd.int .i64) 3 w' w.heap.size (fun k_ => some k_ ≠ (u133001 : Value).ownBlock ∧ some k_ ≠ (u133002 : Value).ownBlock) (.slice Ao8 t129.length co8) t129) ∧ Aside0 (Kd.R (Kd.int .i64) 3 w' w.heap.size (fun k_ => some k_ ≠ ((.slice Ao8 t129.length co8) : Value).ownBlock ∧ some k_ ≠ (u133002 : Value).ownBlock) u133001 z133b1) ∧ Aside0 (Kd.R (Kd.int .i64) 3 w' w.heap.size (fun k_ => some k_ ≠ ((.slice Ao8 t129.length co8) : Value).ownBlock ∧ some k_ ≠ (u133001 : Value).ownBlock) u133002 z133c1) ∧ Aside0 (w'.heap[gb127]? = some (.cells #[.string a0_0, .int .i64 a0_1, .int .i64 a0_2, (.slice A0_3 l0_3.length c0_3), (.slice A0_4 l0_4.length c0_4), .bool a0_5, .bool a0_6, (.slice A0_7 l0_7.length c0_7), .int .i64 a0_8, .int .i64 a0_9, .int .i64 a0_10] 44 (0, 0))) ∧ Aside0 (w'.heap[gb128]? = some (.cells #[(.slice none 0 0), (.slice none 0 0), (.slice none 0 0), .int .i64 0, .int .i64 0] 47 (0, 0))) ∧ Aside0 (w'.heap[gb132]? = some (.cells #[(.slice Ao8 t129.length co8), u133001, u133002, .int .i64 0, .int .i64 0] 47 (0, 0))) ∧ Aside0 (Below w.heap.size w w'))
 case atStart => exact ⟨(0), (([] : List Int)), (([] : List Int)), (.slice none 0 0), (.slice none 0 0), (xrf), H', ⟨Nat.le_refl _⟩, ⟨by (with_reducible repeat (first | apply Kd.R_alloc | apply Kd.R_drewN | apply Kd.R_drew)); exact Kd.R_mono (Kd.R_far (p := ⟨gb132, 4, none⟩) (Kd.R_far (p := ⟨gb132, 3, none⟩) (Kd.R_far (p := ⟨gb132, 2, none⟩) (Kd.R_far (p := ⟨gb132, 1, none⟩) (Kd.R_far (p := ⟨gb132, 0, none⟩) (Kd.R_types HO131.out BK132.out (by decide)) (fun _ hk => hk.2) (.slice Ao8 t129.length co8)) (fun _ hk => hk.2) (.slice none 0 0)) (fun _ hk => hk.2) (.slice none 0 0)) (fun _ hk => hk.2) (.int .i64 0)) (fun _ hk => hk.2) (.int .i64 0)) (fun _ hk => ⟨(by simp [Value.ownBlock]), (by simp [Value.ownBlock])⟩)⟩, ⟨by first | exact Kd.R_nil _ _ _ _ _ | exact Kd.N_nil _ _ _ _ _ | exact Kd.V_nil _ _ _ _ _ | exact Kd.Q_nil _ _ _ _ _ | exact Kd.S_nil _ _ _ _ _⟩, ⟨by first | exact Kd.R_nil _ _ _ _ _ | exact Kd.N_nil _ _ _ _ _ | exact Kd.V_nil _ _ _ _ _ | exact Kd.Q_nil _ _ _ _ _ | exact Kd.S_nil _ _ _ _ _⟩, ⟨xK BK127⟩, ⟨xK BK128⟩, ⟨xQ BK132⟩, ⟨xW HB⟩⟩
 case round =>
  clear H'; (try clear p2)
  obtain ⟨x11_1, z133b1, z133c1, u133001, u133002, rfl, HA, HK1, HO_133000, HO_133001, HO_133002, BK127, BK128, BK132, HB⟩ := hrel
  cases gk with
  | zero => exact absurd HA.out (by simp [place_Fresh.l0])
  | succ k1 =>
   have H := HA.out; clear HA
   simp only [place_Fresh.l0] at H
   by_cases c13 : x11_1 < 2
   ·refine box_ ?g22;letI i:type_of% ?g22:=⟨by
    rw [if_pos c13] at H
    have c13b0 : decide (x11_1 < 2) = true := decide_eq_true c13
    clear c13
    have H' := Aside0.mk H
    clear H; have hcz16_0 := blkc11 BK127.out
    go_wp2
    go_loopg [17] k1 (fun kq vs17 w' => ∃ (x17_2 : Int) (z133b2 : List Int) (z133c2 : List Int) (u133001 : Value) (u133002 : Value), vs17 = .int .i64 x17_2 ∧ Aside0 (place_Fresh.l1 kq x11_1 x11_1 l0_3 (l0_3.length : Int) x17_2 a0_0 a0_1 a0_2 l0_3 l0_4 a0_5 a0_6 l0_7 a0_8 a0_9 a0_10 t129 z133b2 z133c2 0 0 = some (r1, r2, r3, r4, r5)) ∧ Aside0 (kq ≤ k1) ∧ Aside0 (Kd.R (Kd.int .i64) 3 w' w.heap.size (fun k_ => some k_ ≠ (u133001 : Value).ownBlock ∧ some k_ ≠ (u133002 : Value).ownBlock) (.slice Ao8 t129.length co8) t129) ∧ Aside0 (Kd.R (Kd.int .i64) 3 w' w.heap.size (fun k_ => some k_ ≠ ((.slice Ao8 t129.length co8) : Value).ownBlock ∧ some k_ ≠ (u133002 : Value).ownBlock) u133001 z133b2) ∧ Aside0 (Kd.R (Kd.int .i64) 3 w' w.heap.size (fun k_ => some k_ ≠ ((.slice Ao8 t129.length co8) : Value).ownBlock ∧ some k_ ≠ (u133001 : Value).ownBlock) u133002 z133c2) ∧ Aside0 (w'.heap[gb127]? = some (.cells #[.string a0_0, .int .i64 a0_1, .int .i64 a0_2, (.slice A0_3 l0_3.length c0_3), (.slice A0_4 l0_4.length c0_4), .bool a0_5, .bool a0_6, (.slice A0_7 l0_7.length c0_7), .int .i64 a0_8, .int .i64 a0_9, .int .i64 a0_10] 44 (0, 0))) ∧ Aside0 (w'.heap[gb128]? = some (.cells #[(.slice none 0 0), (.slice none 0 0), (.slice none 0 0), .int .i64 0, .int .i64 0] 47 (0, 0))) ∧ Aside0 (w'.heap[gb132]? = some (.cells #[(.slice Ao8 t129.length co8), u133001, u133002, .int .i64 0, .int .i64 0] 47 (0, 0))) ∧ Aside0 (Below w.heap.size w w'))
    case atStart => exact ⟨(0), (z133b1), (z133c1), (u133001), (u133002), (xrf), H', ⟨Nat.le_refl _⟩, ⟨by (with_reducible repeat (first | apply Kd.R_alloc | apply Kd.R_drewN | apply Kd.R_drew)); exact HO_133000.out⟩, ⟨by (with_reducible repeat (first | apply Kd.R_alloc | apply Kd.R_drewN | apply Kd.R_drew)); exact HO_133001.out⟩, ⟨by (with_reducible repeat (first | apply Kd.R_alloc | apply Kd.R_drewN | apply Kd.R_drew)); exact HO_133002.out⟩, ⟨xK BK127⟩, ⟨xK BK128⟩, ⟨xK BK132⟩, ⟨xW HB⟩⟩
    case round =>
     clear H'; (try clear p2); (try clear p2)
     obtain ⟨x17_2, z133b2, z133c2, u133001, u133002, rfl, HA, HK2, HO_133000, HO_133001, HO_133002, BK127, BK128, BK132, HB⟩ := hrel
     cases gk with
     | zero => exact absurd HA.out (by simp [place_Fresh.l1])
     | succ k2 =>
      have H := HA.out; clear HA
      simp only [place_Fresh.l1] at H
      by_cases c17 : x17_2 < (l0_3.length : Int)
      ·refine box_ ?g23;letI i:type_of% ?g23:=⟨by
       rw [if_pos c17] at H
       have c17b0 : decide (x17_2 < (l0_3.length : Int)) = true := decide_eq_true c17
       clear c17
       by_cases c18 : 0 ≤ x17_2
       ·refine box_ ?g24;letI i:type_of% ?g24:=⟨by
        rw [if_pos c18] at H
        have c18b0 : decide (0 ≤ x17_2) = true := decide_eq_true c18
        clear c18
        by_cases c19 : x17_2 < (l0_3.length : Int)
        ·refine box_ ?g25;letI i:type_of% ?g25:=⟨by
         rw [if_pos c19] at H
         have c19b0 : decide (x17_2 < (l0_3.length : Int)) = true := decide_eq_true c19
         clear c19
         by_cases c20 : 0 ≤ x11_1
         ·refine box_ ?g26;letI i:type_of% ?g26:=⟨by
          rw [if_pos c20] at H
          have c20b0 : decide (0 ≤ x11_1) = true := decide_eq_true c20
          clear c20
          by_cases c21 : x11_1 < 2
          ·refine box_ ?g27;letI i:type_of% ?g27:=⟨by
           rw [if_pos c21] at H
           have c21b0 : decide (x11_1 < 2) = true := decide_eq_true c21
           clear c21
           by_cases c22 : x11_1 = 0
           ·refine box_ ?g28;letI i:type_of% ?g28:=⟨by
            rw [if_pos c22] at H
            have c22b0 : (x11_1 == 0) = true := beq_iff_eq.mpr c22
            have c22b1 : (x11_1 != 0) = false := bne_eq_false_iff_eq.mpr c22
            clear c22; obtain ⟨c23b, c23g, c23c, c23d⟩ := xar (x11_1 : Int) 0 0 2
            by_cases c24 : z133b2.length < 17592186044416
            ·refine box_ ?g29;letI i:type_of% ?g29:=⟨by
             rw [if_pos c24] at H
             have LMc24 := Aside0.mk c24; clear c24
             obtain ⟨y135, hy135⟩ : ∃ y_ : List Int, y_ = (z133b2 ++ [(rd_T101 l0_3 x17_2).f1]) := ⟨_, rfl⟩
             replace H : (place_Fresh.l1 k2 x11_1 x11_1 l0_3 (l0_3.length : Int) (wrap64 (x17_2 + 1)) a0_0 a0_1 a0_2 l0_3 l0_4 a0_5 a0_6 l0_7 a0_8 a0_9 a0_10 t129 y135 z133c2 0 0) = some (r1, r2, r3, r4, r5) := by first | (rw [hy135]; with_reducible exact H) | (have H2_ := (Option.bind_some _ _).symm.trans H; rw [hy135]; with_reducible exact H2_) | (have H2_ := (Option.bind_some _ _).symm.trans H; with_reducible exact H2_) | with_reducible exact H | (rw [hy135]; exact H) | exact H
             have Ny135 := Aside0.mk hy135; clear hy135; obtain ⟨c25b, c25g, c25c, c25d⟩ := xar (x11_1 : Int) 0 0 2
             have H' := Aside0.mk H
             clear H
             have p133 : 0 ≤ (x17_2 : Int) := of_decide_eq_true (by first | (with_reducible assumption) | assumption)
             have q133 : x17_2 < (l0_3.length : Int) := of_decide_eq_true (by first | (with_reducible assumption) | assumption)
             obtain ⟨ad133, A133_3, c133_3, e133, hx133_0, hx133_1, hx133_2, hx133_3, hl133_3, hi133_3⟩ := at_T101 HR0_3.out x17_2 p133 q133
             cases e133
             replace hx133_0 := (HB.out.cell (World.block_lt_of_cell? w _ hx133_0)).trans hx133_0; replace hx133_1 := (HB.out.cell (World.block_lt_of_cell? w _ hx133_1)).trans hx133_1; replace hx133_2 := (HB.out.cell (World.block_lt_of_cell? w _ hx133_2)).trans hx133_2; replace hx133_3 := (HB.out.cell (World.block_lt_of_cell? w _ hx133_3)).trans hx133_3; have HR133_3 := Aside0.mk hi133_3; have HC133_3 := Aside0.mk hl133_3; clear hi133_3 hl133_3; replace p133 := eq_true p133; replace q133 := eq_true q133
             try go_wp2_with (first | ((with_reducible refine gate_dst (N := 6) rfl ?_); refine box_event ?hg (N := 6) ?hd (cs := #[.int .u8 0, .int .i64 0, .int .i64 0, .slice none 0 0]) (t := 101) ?hr ?_; (case hd => rfl); (case hg => rfl); (case hr => first | (go_simp; done) | (go_simp; rfl)); intro gb134 hg w26 hbox hb; have BK134 := Aside0.mk (hbox); have GW134 := Aside0.mk (xZ HB hg); have GE134 := Aside0.mk (xZ HB hg); have NB127_134 := Aside0.mk (xN BK127 hg); have NB134_127 := Aside0.mk (xM BK127 hg); have NB128_134 := Aside0.mk (xN BK128 hg); have NB134_128 := Aside0.mk (xM BK128 hg); have NB132_134 := Aside0.mk (xN BK132 hg); have NB134_132 := Aside0.mk (xM BK132 hg); replace HO_133000 := Aside0.mk (Kd.R_below (by (with_reducible repeat (first | apply Kd.R_alloc | apply Kd.R_drewN | apply Kd.R_drew)); exact HO_133000.out) hb); replace HO_133001 := Aside0.mk (Kd.R_below (by (with_reducible repeat (first | apply Kd.R_alloc | apply Kd.R_drewN | apply Kd.R_drew)); exact HO_133001.out) hb); replace HO_133002 := Aside0.mk (Kd.R_below (by (with_reducible repeat (first | apply Kd.R_alloc | apply Kd.R_drewN | apply Kd.R_drew)); exact HO_133002.out) hb); replace BK127 := Aside0.mk (xB BK127 hb); replace BK128 := Aside0.mk (xB BK128 hb); replace BK132 := Aside0.mk (xB BK132 hb); replace HB := Aside0.mk (xS HB hb); clear hb hbox hg; have hnb27 := xne NB134_127; have hnc27 := xne NB127_134; have hnb28 := xne NB134_128; have hnc28 := xne NB128_134; have hnb29 := xne NB134_132; have hnc29 := xne NB132_134; have hcz30_0 := blkc4 BK134.out))
             (try have hq134_132 := xne NB134_132)
             have n0_ : Aside0 (Kd.R (Kd.int .i64) 3 ((((w26.setCell ⟨gb134, 0, none⟩ (.int .u8 ((rd_T101 l0_3 x17_2).f0))).setCell ⟨gb134, 1, none⟩ (.int .i64 ((rd_T101 l0_3 x17_2).f1))).setCell ⟨gb134, 2, none⟩ (.int .i64 ((rd_T101 l0_3 x17_2).f2))).setCell ⟨gb134, 3, none⟩ (.slice A133_3 ((rd_T101 l0_3 x17_2).f3).length c133_3)) w.heap.size (fun k_ => some k_ ≠ (u133001 : Value).ownBlock ∧ some k_ ≠ (u133002 : Value).ownBlock) (.slice Ao8 t129.length co8) t129) := ⟨by (with_reducible repeat (first | apply Kd.R_alloc | apply Kd.R_drewN | apply Kd.R_drew)); exact Kd.R_mono (Kd.R_far (p := ⟨gb134, 3, none⟩) (Kd.R_far (p := ⟨gb134, 2, none⟩) (Kd.R_far (p := ⟨gb134, 1, none⟩) (Kd.R_far (p := ⟨gb134, 0, none⟩) (Kd.R_types HO_133000.out BK134.out (by decide)) (fun _ hk => hk.2) (.int .u8 ((rd_T101 l0_3 x17_2).f0))) (fun _ hk => hk.2) (.int .i64 ((rd_T101 l0_3 x17_2).f1))) (fun _ hk => hk.2) (.int .i64 ((rd_T101 l0_3 x17_2).f2))) (fun _ hk => hk.2) (.slice A133_3 ((rd_T101 l0_3 x17_2).f3).length c133_3)) (fun _ hk => ⟨hk.1.1, hk.1.2⟩)⟩
             have n1_ : Aside0 (Kd.R (Kd.int .i64) 3 ((((w26.setCell ⟨gb134, 0, none⟩ (.int .u8 ((rd_T101 l0_3 x17_2).f0))).setCell ⟨gb134, 1, none⟩ (.int .i64 ((rd_T101 l0_3 x17_2).f1))).setCell ⟨gb134, 2, none⟩ (.int .i64 ((rd_T101 l0_3 x17_2).f2))).setCell ⟨gb134, 3, none⟩ (.slice A133_3 ((rd_T101 l0_3 x17_2).f3).length c133_3)) w.heap.size (fun k_ => some k_ ≠ (.slice Ao8 t129.length co8 : Value).ownBlock ∧ some k_ ≠ (u133002 : Value).ownBlock) u133001 z133b2) := ⟨by (with_reducible repeat (first | apply Kd.R_alloc | apply Kd.R_drewN | apply Kd.R_drew)); exact Kd.R_mono (Kd.R_far (p := ⟨gb134, 3, none⟩) (Kd.R_far (p := ⟨gb134, 2, none⟩) (Kd.R_far (p := ⟨gb134, 1, none⟩) (Kd.R_far (p := ⟨gb134, 0, none⟩) (Kd.R_types HO_133001.out BK134.out (by decide)) (fun _ hk => hk.2) (.int .u8 ((rd_T101 l0_3 x17_2).f0))) (fun _ hk => hk.2) (.int .i64 ((rd_T101 l0_3 x17_2).f1))) (fun _ hk => hk.2) (.int .i64 ((rd_T101 l0_3 x17_2).f2))) (fun _ hk => hk.2) (.slice A133_3 ((rd_T101 l0_3 x17_2).f3).length c133_3)) (fun _ hk => ⟨hk.1.1, hk.1.2⟩)⟩
             have n2_ : Aside0 (Kd.R (Kd.int .i64) 3 ((((w26.setCell ⟨gb134, 0, none⟩ (.int .u8 ((rd_T101 l0_3 x17_2).f0))).setCell ⟨gb134, 1, none⟩ (.int .i64 ((rd_T101 l0_3 x17_2).f1))).setCell ⟨gb134, 2, none⟩ (.int .i64 ((rd_T101 l0_3 x17_2).f2))).setCell ⟨gb134, 3, none⟩ (.slice A133_3 ((rd_T101 l0_3 x17_2).f3).length c133_3)) w.heap.size (fun k_ => some k_ ≠ (.slice Ao8 t129.length co8 : Value).ownBlock ∧ some k_ ≠ (u133001 : Value).ownBlock) u133002 z133c2) := ⟨by (with_reducible repeat (first | apply Kd.R_alloc | apply Kd.R_drewN | apply Kd.R_drew)); exact Kd.R_mono (Kd.R_far (p := ⟨gb134, 3, none⟩) (Kd.R_far (p := ⟨gb134, 2, none⟩) (Kd.R_far (p := ⟨gb134, 1, none⟩) (Kd.R_far (p := ⟨gb134, 0, none⟩) (Kd.R_types HO_133002.out BK134.out (by decide)) (fun _ hk => hk.2) (.int .u8 ((rd_T101 l0_3 x17_2).f0))) (fun _ hk => hk.2) (.int .i64 ((rd_T101 l0_3 x17_2).f1))) (fun _ hk => hk.2) (.int .i64 ((rd_T101 l0_3 x17_2).f2))) (fun _ hk => hk.2) (.slice A133_3 ((rd_T101 l0_3 x17_2).f3).length c133_3)) (fun _ hk => ⟨hk.1.1, hk.1.2⟩)⟩
             have n3_ : Aside0 (((((w26.setCell ⟨gb134, 0, none⟩ (.int .u8 ((rd_T101 l0_3 x17_2).f0))).setCell ⟨gb134, 1, none⟩ (.int .i64 ((rd_T101 l0_3 x17_2).f1))).setCell ⟨gb134, 2, none⟩ (.int .i64 ((rd_T101 l0_3 x17_2).f2))).setCell ⟨gb134, 3, none⟩ (.slice A133_3 ((rd_T101 l0_3 x17_2).f3).length c133_3)).heap[gb127]? = some (.cells #[.string a0_0, .int .i64 a0_1, .int .i64 a0_2, .slice (some ad133) l0_3.length c0_3, .slice A0_4 l0_4.length c0_4, .bool a0_5, .bool a0_6, .slice A0_7 l0_7.length c0_7, .int .i64 a0_8, .int .i64 a0_9, .int .i64 a0_10] 44 (0, 0))) := ⟨xK BK127⟩
             have n4_ : Aside0 (((((w26.setCell ⟨gb134, 0, none⟩ (.int .u8 ((rd_T101 l0_3 x17_2).f0))).setCell ⟨gb134, 1, none⟩ (.int .i64 ((rd_T101 l0_3 x17_2).f1))).setCell ⟨gb134, 2, none⟩ (.int .i64 ((rd_T101 l0_3 x17_2).f2))).setCell ⟨gb134, 3, none⟩ (.slice A133_3 ((rd_T101 l0_3 x17_2).f3).length c133_3)).heap[gb128]? = some (.cells #[.slice none 0 0, .slice none 0 0, .slice none 0 0, .int .i64 0, .int .i64 0] 47 (0, 0))) := ⟨xK BK128⟩
             have n5_ : Aside0 (((((w26.setCell ⟨gb134, 0, none⟩ (.int .u8 ((rd_T101 l0_3 x17_2).f0))).setCell ⟨gb134, 1, none⟩ (.int .i64 ((rd_T101 l0_3 x17_2).f1))).setCell ⟨gb134, 2, none⟩ (.int .i64 ((rd_T101 l0_3 x17_2).f2))).setCell ⟨gb134, 3, none⟩ (.slice A133_3 ((rd_T101 l0_3 x17_2).f3).length c133_3)).heap[gb132]? = some (.cells #[.slice Ao8 t129.length co8, u133001, u133002, .int .i64 0, .int .i64 0] 47 (0, 0))) := ⟨xK BK132⟩
             have n6_ : Aside0 (((((w26.setCell ⟨gb134, 0, none⟩ (.int .u8 ((rd_T101 l0_3 x17_2).f0))).setCell ⟨gb134, 1, none⟩ (.int .i64 ((rd_T101 l0_3 x17_2).f1))).setCell ⟨gb134, 2, none⟩ (.int .i64 ((rd_T101 l0_3 x17_2).f2))).setCell ⟨gb134, 3, none⟩ (.slice A133_3 ((rd_T101 l0_3 x17_2).f3).length c133_3)).heap[gb134]? = some (.cells #[.int .u8 ((rd_T101 l0_3 x17_2).f0), .int .i64 ((rd_T101 l0_3 x17_2).f1), .int .i64 ((rd_T101 l0_3 x17_2).f2), .slice A133_3 ((rd_T101 l0_3 x17_2).f3).length c133_3] 101 (0, 0))) := ⟨xQ BK134⟩
             have n7_ : Aside0 (Below w.heap.size w ((((w26.setCell ⟨gb134, 0, none⟩ (.int .u8 ((rd_T101 l0_3 x17_2).f0))).setCell ⟨gb134, 1, none⟩ (.int .i64 ((rd_T101 l0_3 x17_2).f1))).setCell ⟨gb134, 2, none⟩ (.int .i64 ((rd_T101 l0_3 x17_2).f2))).setCell ⟨gb134, 3, none⟩ (.slice A133_3 ((rd_T101 l0_3 x17_2).f3).length c133_3))) := ⟨xW HB⟩
             (try clear HO_133000)
             (try clear HO_133001)
             (try clear HO_133002)
             (try clear BK127)
             (try clear BK128)
             (try clear BK132)
             (try clear BK134)
             (try clear HB)
             generalize ((((w26.setCell ⟨gb134, 0, none⟩ (.int .u8 ((rd_T101 l0_3 x17_2).f0))).setCell ⟨gb134, 1, none⟩ (.int .i64 ((rd_T101 l0_3 x17_2).f1))).setCell ⟨gb134, 2, none⟩ (.int .i64 ((rd_T101 l0_3 x17_2).f2))).setCell ⟨gb134, 3, none⟩ (.slice A133_3 ((rd_T101 l0_3 x17_2).f3).length c133_3)) = w31 at n0_ n1_ n2_ n3_ n4_ n5_ n6_ n7_ ⊢; have HO_133000 := n0_; have HO_133001 := n1_; have HO_133002 := n2_; have BK127 := n3_; have BK128 := n4_; have BK132 := n5_; have BK134 := n6_; have HB := n7_; clear n0_ n1_ n2_ n3_ n4_ n5_ n6_ n7_; replace HO_133000 := Aside0.mk (Kd.R_drew HO_133000.out); replace HO_133001 := Aside0.mk (Kd.R_drew HO_133001.out); replace HO_133002 := Aside0.mk (Kd.R_drew HO_133002.out); replace BK127 := Aside0.mk (blk_drew BK127.out); replace BK128 := Aside0.mk (blk_drew BK128.out); replace BK132 := Aside0.mk (blk_drew BK132.out); replace BK134 := Aside0.mk (blk_drew BK134.out); replace HB := Aside0.mk (below_drew1 HB.out)
             refine start_ (n := 12) (S := fun w' => ce w' gb132 0 (.slice Ao8 t129.length co8) ∧ ce w' gb132 1 (u133001) ∧ ce w' gb132 2 (u133002) ∧ ce w' gb132 3 (.int .i64 0) ∧ ce w' gb132 4 (.int .i64 0) ∧ w'.cell? ⟨gb134, 0, none⟩ = some (.int .u8 ((rd_T101 l0_3 x17_2).f0)) ∧ w'.cell? ⟨gb134, 1, none⟩ = some (.int .i64 ((rd_T101 l0_3 x17_2).f1)) ∧ w'.cell? ⟨gb134, 2, none⟩ = some (.int .i64 ((rd_T101 l0_3 x17_2).f2)) ∧ w'.cell? ⟨gb134, 3, none⟩ = some (.slice A133_3 ((rd_T101 l0_3 x17_2).f3).length c133_3)) (ds := [11]) (mk 12 0) kr_ rfl rfl ⟨xc BK132 0, xc BK132 1, xc BK132 2, xc BK132 3, xc BK132 4, xc BK134 0, xc BK134 1, xc BK134 2, xc BK134 3⟩ (fun hHeld => ?_); refine with_tabW place_Fresh.tab8 place_Fresh.bits8 (fun HT_ HW_ => ?_)
             generalize w31.drew = w32 at HO_133000 HO_133001 HO_133002 BK127 BK128 BK132 BK134 HB hHeld ⊢; refine pu_ 0 21 HT_ ?_; refine pu_ 1 22 HT_ ?_; refine pu_ 2 23 HT_ ?_; refine pu_ 3 24 HT_ ?_; refine pu_ 5 26 HT_ ?_; refine pu_ 9 30 HT_ ?_; refine tk_ 4 25 HT_ HW_ hHeld ?_; refine tk_ 6 27 HT_ HW_ hHeld ?_
             refine one_ (i := 7) (N := some 28) #[true, true, true, true, true, true, true, true, false, true, false, false] rfl rfl (one_of HT_.out kr_) (by decide) (fun K hK => ?_)
             refine value_ (w1 := ?_) (v := ?_) (by rfl) rfl ?_ ?_
             rotate_left 2
             ·go_simp
              constructor
              ·rfl
              ·rfl
             refine hK.out _ _ ⟨(blk_cell (blk_alloc BK132.out _) 0).trans rfl, (blk_cell (blk_alloc BK132.out _) 1).trans rfl, (blk_cell (blk_alloc BK132.out _) 2).trans rfl, (blk_cell (blk_alloc BK132.out _) 3).trans rfl, (blk_cell (blk_alloc BK132.out _) 4).trans rfl, (blk_cell (blk_alloc BK134.out _) 0).trans rfl, (blk_cell (blk_alloc BK134.out _) 1).trans rfl, (blk_cell (blk_alloc BK134.out _) 2).trans rfl, (blk_cell (blk_alloc BK134.out _) 3).trans rfl⟩ (fun hHeld => ?_)
             clear hK K
             refine norm_ (a' := ?_) ?_ ?_
             rotate_left
             ·show Act.put _ (some 28) _ = _
              simp only [Act.put, List.setIfInBounds_toArray, List.set_cons_zero, List.set_cons_succ, i64_w, i32_w]
              rfl
             refine one_ (i := 8) (N := some 29) #[true, true, true, true, true, true, true, true, true, true, false, false] rfl rfl (one_of HT_.out kr_) (by decide) (fun K hK => ?_)
             refine Kd.R_append_step (Kd.int .i64) (w0 := w) w.heap.size (by rfl) (.tmp 25) (.tmp 28) 31 3 (.int .i64 0) 8 rfl Try.underlying31 info3 rfl (by decide) (by omega) u133001 z133b2 ((rd_T101 l0_3 x17_2).f1) [.int .i64 ((rd_T101 l0_3 x17_2).f1)] (fun k_ => some k_ ≠ (.slice Ao8 t129.length co8 : Value).ownBlock ∧ some k_ ≠ (u133002 : Value).ownBlock) (fun _ => False) rfl rfl ?aP (fun _ hk => hk.elim) ?aF ?aO ?aB ?aS ?aL ?_
             (case aP => exact rfl)
             (case aB => exact (xW HB))
             (case aF => exact (fun k_ hk => ⟨Kd.fresh' (Kd.R_lt (by (with_reducible repeat (first | apply Kd.R_alloc | apply Kd.R_drewN | apply Kd.R_drew)); exact HO_133000.out)) k_ hk, Kd.fresh' (Kd.R_lt (by (with_reducible repeat (first | apply Kd.R_alloc | apply Kd.R_drewN | apply Kd.R_drew)); exact HO_133002.out)) k_ hk⟩))
             (case aO => exact (by (with_reducible repeat (first | apply Kd.R_alloc | apply Kd.R_drewN | apply Kd.R_drew)); exact HO_133001.out))
             (case aS => exact (below_size (xW HB)))
             (case aL => have := LMc24.out; omega)
             intro v136 w33 ho hb hg hat
             rw [← Ny135.out] at ho
             have n0_ := Aside0.mk (Kd.R_after (ok := (fun k_ => some k_ ≠ (u133002 : Value).ownBlock)) (by (with_reducible repeat (first | apply Kd.R_alloc | apply Kd.R_drewN | apply Kd.R_drew)); exact Kd.R_mono HO_133000.out (fun _ hk => ⟨hk.2, hk.1⟩)) hg hat)
             have n1_ := Aside0.mk (Kd.R_after (ok := (fun k_ => some k_ ≠ (.slice Ao8 t129.length co8 : Value).ownBlock)) (by (with_reducible repeat (first | apply Kd.R_alloc | apply Kd.R_drewN | apply Kd.R_drew)); exact HO_133002.out) hg hat)
             have n2_ := Aside0.mk (blk_grown (g := gb127) (o := .cells #[.string a0_0, .int .i64 a0_1, .int .i64 a0_2, .slice (some ad133) l0_3.length c0_3, .slice A0_4 l0_4.length c0_4, .bool a0_5, .bool a0_6, .slice A0_7 l0_7.length c0_7, .int .i64 a0_8, .int .i64 a0_9, .int .i64 a0_10] 44 (0, 0)) (xK BK127) hg (Kd.R_ne HO_133001.out BK127.out (by decide)))
             have n3_ := Aside0.mk (blk_grown (g := gb128) (o := .cells #[.slice none 0 0, .slice none 0 0, .slice none 0 0, .int .i64 0, .int .i64 0] 47 (0, 0)) (xK BK128) hg (Kd.R_ne HO_133001.out BK128.out (by decide)))
             have n4_ := Aside0.mk (blk_grown (g := gb132) (o := .cells #[.slice Ao8 t129.length co8, u133001, u133002, .int .i64 0, .int .i64 0] 47 (0, 0)) (xK BK132) hg (Kd.R_ne HO_133001.out BK132.out (by decide)))
             have n5_ := Aside0.mk (blk_grown (g := gb134) (o := .cells #[.int .u8 ((rd_T101 l0_3 x17_2).f0), .int .i64 ((rd_T101 l0_3 x17_2).f1), .int .i64 ((rd_T101 l0_3 x17_2).f2), .slice A133_3 ((rd_T101 l0_3 x17_2).f3).length c133_3] 101 (0, 0)) (xK BK134) hg (Kd.R_ne HO_133001.out BK134.out (by decide)))
             have n6_ := Aside0.mk (hb); have n7_ := Aside0.mk (ho); clear HO_133000; clear HO_133002; clear BK127; clear BK128; clear BK132; clear BK134; clear HB; clear HO_133001; have HO_133000 := n0_; have HO_133002 := n1_; have BK127 := n2_; have BK128 := n3_; have BK132 := n4_; have BK134 := n5_; have HB := n6_; have HO137 := n7_; clear n0_ n1_ n2_ n3_ n4_ n5_ n6_ n7_; clear ho hb hg hat
             obtain ⟨Ao34, co34, eo34⟩ := Kd.R_slice HO137.out
             (first | subst eo34 | (injection eo34 with f1_ f2_ f3_; have f4_ := f1_.symm; have f5_ := f3_.symm; clear f1_ f2_ f3_; subst f4_; subst f5_))
             refine hK.out _ _ ⟨(blk_cell BK132.out 0).trans rfl, (blk_cell BK132.out 1).trans rfl, (blk_cell BK132.out 2).trans rfl, (blk_cell BK132.out 3).trans rfl, (blk_cell BK132.out 4).trans rfl, (blk_cell BK134.out 0).trans rfl, (blk_cell BK134.out 1).trans rfl, (blk_cell BK134.out 2).trans rfl, (blk_cell BK134.out 3).trans rfl⟩ (fun hHeld => ?_)
             clear hK K
             refine norm_ (a' := ?_) ?_ ?_
             rotate_left
             ·show Act.put _ (some 29) _ = _
              simp only [Act.put, List.setIfInBounds_toArray, List.set_cons_zero, List.set_cons_succ, i64_w, i32_w]
              rfl
             refine pu_ 10 31 HT_ ?_
             refine last_ (i := 11) (N := none) #[true, true, true, true, true, true, true, true, true, true, true, true] rfl rfl (one_of HT_.out kr_) (by decide) (fun K hK => ?_)
             have hs35 : w33.cell? ⟨gb132, 1, none⟩ = some (u133001) := (blk_cell BK132.out 1).trans rfl
             have hfs35 := blk_frozen BK132.out 1; have hms35_0 := NB132_127.out; have hms35_1 := NB132_128.out; have hms35_3 := NB132_134.out
             refine skip_ (w1 := ?_) (by rfl) rfl ?_ ?_
             rotate_left
             ·go_simp
              rfl
             refine hK.out _ _ ?_
             clear hK K
             refine done_ (done_of HT_.out kr_) ?_
             try go_wp2
             go_roundg k2
             case measure => have := HK1.out; have := HK2.out; omega
             case rel => exact ⟨(wrap64 (x17_2 + 1)), (y135), (z133c2), (.slice Ao34 y135.length co34), (u133002), (xrf), H', ⟨by have := HK1.out; have := HK2.out; omega⟩, ⟨by (with_reducible repeat (first | apply Kd.R_alloc | apply Kd.R_drewN | apply Kd.R_drew)); exact Kd.R_mono (Kd.R_far (p := ⟨gb132, 1, none⟩) (Kd.R_types HO_133000.out BK132.out (by decide)) (fun _ hk => hk.2) (.slice Ao34 y135.length co34)) (fun _ hk => ⟨hk.1.2, hk.1.1⟩)⟩, ⟨by (with_reducible repeat (first | apply Kd.R_alloc | apply Kd.R_drewN | apply Kd.R_drew)); exact Kd.R_mono (Kd.R_far (p := ⟨gb132, 1, none⟩) (Kd.R_types HO137.out BK132.out (by decide)) (fun _ hk => hk.2) (.slice Ao34 y135.length co34)) (fun _ hk => ⟨hk.1.1, hk.1.2⟩)⟩, ⟨by (with_reducible repeat (first | apply Kd.R_alloc | apply Kd.R_drewN | apply Kd.R_drew)); exact Kd.R_mono (Kd.R_far (p := ⟨gb132, 1, none⟩) (Kd.R_types HO_133002.out BK132.out (by decide)) (fun _ hk => hk.2) (.slice Ao34 y135.length co34)) (fun _ hk => ⟨hk.1.1, hk.1.2⟩)⟩, ⟨xK BK127⟩, ⟨xK BK128⟩, ⟨xQ BK132⟩, ⟨xW HB⟩⟩⟩
             exact inferInstanceAs _
            ·rw [if_neg c24] at H
             exact absurd H (by simp)⟩
            exact inferInstanceAs _
           ·refine box_ ?g30;letI i:type_of% ?g30:=⟨by
            rw [if_neg c22] at H
            have c22b0 : (x11_1 == 0) = false := beq_eq_false_iff_ne.mpr c22
            have c22b1 : (x11_1 != 0) = true := bne_iff_ne.mpr c22
            obtain ⟨c36b, c36g, c36c, c36d⟩ := xar (x11_1 : Int) 1 1 2
            by_cases c37 : z133c2.length < 17592186044416
            ·refine box_ ?g31;letI i:type_of% ?g31:=⟨by
             rw [if_pos c37] at H
             have LMc37 := Aside0.mk c37; clear c37
             obtain ⟨y138, hy138⟩ : ∃ y_ : List Int, y_ = (z133c2 ++ [(rd_T101 l0_3 x17_2).f1]) := ⟨_, rfl⟩
             replace H : (place_Fresh.l1 k2 x11_1 x11_1 l0_3 (l0_3.length : Int) (wrap64 (x17_2 + 1)) a0_0 a0_1 a0_2 l0_3 l0_4 a0_5 a0_6 l0_7 a0_8 a0_9 a0_10 t129 z133b2 y138 0 0) = some (r1, r2, r3, r4, r5) := by first | (rw [hy138]; with_reducible exact H) | (have H2_ := (Option.bind_some _ _).symm.trans H; rw [hy138]; with_reducible exact H2_) | (have H2_ := (Option.bind_some _ _).symm.trans H; with_reducible exact H2_) | with_reducible exact H | (rw [hy138]; exact H) | exact H
             have Ny138 := Aside0.mk hy138; clear hy138; obtain ⟨c38b, c38g, c38c, c38d⟩ := xar (x11_1 : Int) 1 1 2
             have H' := Aside0.mk H
             clear H
             have p133 : 0 ≤ (x17_2 : Int) := of_decide_eq_true (by first | (with_reducible assumption) | assumption)
             have q133 : x17_2 < (l0_3.length : Int) := of_decide_eq_true (by first | (with_reducible assumption) | assumption)
             obtain ⟨ad133, A133_3, c133_3, e133, hx133_0, hx133_1, hx133_2, hx133_3, hl133_3, hi133_3⟩ := at_T101 HR0_3.out x17_2 p133 q133
             cases e133
             replace hx133_0 := (HB.out.cell (World.block_lt_of_cell? w _ hx133_0)).trans hx133_0; replace hx133_1 := (HB.out.cell (World.block_lt_of_cell? w _ hx133_1)).trans hx133_1; replace hx133_2 := (HB.out.cell (World.block_lt_of_cell? w _ hx133_2)).trans hx133_2; replace hx133_3 := (HB.out.cell (World.block_lt_of_cell? w _ hx133_3)).trans hx133_3; have HR133_3 := Aside0.mk hi133_3; have HC133_3 := Aside0.mk hl133_3; clear hi133_3 hl133_3; replace p133 := eq_true p133; replace q133 := eq_true q133
             try go_wp2_with (first | ((with_reducible refine gate_dst (N := 6) rfl ?_); refine box_event ?hg (N := 6) ?hd (cs := #[.int .u8 0, .int .i64 0, .int .i64 0, .slice none 0 0]) (t := 101) ?hr ?_; (case hd => rfl); (case hg => rfl); (case hr => first | (go_simp; done) | (go_simp; rfl)); intro gb134 hg w39 hbox hb; have BK134 := Aside0.mk (hbox); have GW134 := Aside0.mk (xZ HB hg); have GE134 := Aside0.mk (xZ HB hg); have NB127_134 := Aside0.mk (xN BK127 hg); have NB134_127 := Aside0.mk (xM BK127 hg); have NB128_134 := Aside0.mk (xN BK128 hg); have NB134_128 := Aside0.mk (xM BK128 hg); have NB132_134 := Aside0.mk (xN BK132 hg); have NB134_132 := Aside0.mk (xM BK132 hg); replace HO_133000 := Aside0.mk (Kd.R_below (by (with_reducible repeat (first | apply Kd.R_alloc | apply Kd.R_drewN | apply Kd.R_drew)); exact HO_133000.out) hb); replace HO_133001 := Aside0.mk (Kd.R_below (by (with_reducible repeat (first | apply Kd.R_alloc | apply Kd.R_drewN | apply Kd.R_drew)); exact HO_133001.out) hb); replace HO_133002 := Aside0.mk (Kd.R_below (by (with_reducible repeat (first | apply Kd.R_alloc | apply Kd.R_drewN | apply Kd.R_drew)); exact HO_133002.out) hb); replace BK127 := Aside0.mk (xB BK127 hb); replace BK128 := Aside0.mk (xB BK128 hb); replace BK132 := Aside0.mk (xB BK132 hb); replace HB := Aside0.mk (xS HB hb); clear hb hbox hg; have hnb40 := xne NB134_127; have hnc40 := xne NB127_134; have hnb41 := xne NB134_128; have hnc41 := xne NB128_134; have hnb42 := xne NB134_132; have hnc42 := xne NB132_134; have hcz43_0 := blkc4 BK134.out))
             (try have hq134_132 := xne NB134_132)
             have n0_ : Aside0 (Kd.R (Kd.int .i64) 3 ((((w39.setCell ⟨gb134, 0, none⟩ (.int .u8 ((rd_T101 l0_3 x17_2).f0))).setCell ⟨gb134, 1, none⟩ (.int .i64 ((rd_T101 l0_3 x17_2).f1))).setCell ⟨gb134, 2, none⟩ (.int .i64 ((rd_T101 l0_3 x17_2).f2))).setCell ⟨gb134, 3, none⟩ (.slice A133_3 ((rd_T101 l0_3 x17_2).f3).length c133_3)) w.heap.size (fun k_ => some k_ ≠ (u133001 : Value).ownBlock ∧ some k_ ≠ (u133002 : Value).ownBlock) (.slice Ao8 t129.length co8) t129) := ⟨by (with_reducible repeat (first | apply Kd.R_alloc | apply Kd.R_drewN | apply Kd.R_drew)); exact Kd.R_mono (Kd.R_far (p := ⟨gb134, 3, none⟩) (Kd.R_far (p := ⟨gb134, 2, none⟩) (Kd.R_far (p := ⟨gb134, 1, none⟩) (Kd.R_far (p := ⟨gb134, 0, none⟩) (Kd.R_types HO_133000.out BK134.out (by decide)) (fun _ hk => hk.2) (.int .u8 ((rd_T101 l0_3 x17_2).f0))) (fun _ hk => hk.2) (.int .i64 ((rd_T101 l0_3 x17_2).f1))) (fun _ hk => hk.2) (.int .i64 ((rd_T101 l0_3 x17_2).f2))) (fun _ hk => hk.2) (.slice A133_3 ((rd_T101 l0_3 x17_2).f3).length c133_3)) (fun _ hk => ⟨hk.1.1, hk.1.2⟩)⟩
             have n1_ : Aside0 (Kd.R (Kd.int .i64) 3 ((((w39.setCell ⟨gb134, 0, none⟩ (.int .u8 ((rd_T101 l0_3 x17_2).f0))).setCell ⟨gb134, 1, none⟩ (.int .i64 ((rd_T101 l0_3 x17_2).f1))).setCell ⟨gb134, 2, none⟩ (.int .i64 ((rd_T101 l0_3 x17_2).f2))).setCell ⟨gb134, 3, none⟩ (.slice A133_3 ((rd_T101 l0_3 x17_2).f3).length c133_3)) w.heap.size (fun k_ => some k_ ≠ (.slice Ao8 t129.length co8 : Value).ownBlock ∧ some k_ ≠ (u133002 : Value).ownBlock) u133001 z133b2) := ⟨by (with_reducible repeat (first | apply Kd.R_alloc | apply Kd.R_drewN | apply Kd.R_drew)); exact Kd.R_mono (Kd.R_far (p := ⟨gb134, 3, none⟩) (Kd.R_far (p := ⟨gb134, 2, none⟩) (Kd.R_far (p := ⟨gb134, 1, none⟩) (Kd.R_far (p := ⟨gb134, 0, none⟩) (Kd.R_types HO_133001.out BK134.out (by decide)) (fun _ hk => hk.2) (.int .u8 ((rd_T101 l0_3 x17_2).f0))) (fun _ hk => hk.2) (.int .i64 ((rd_T101 l0_3 x17_2).f1))) (fun _ hk => hk.2) (.int .i64 ((rd_T101 l0_3 x17_2).f2))) (fun _ hk => hk.2) (.slice A133_3 ((rd_T101 l0_3 x17_2).f3).length c133_3)) (fun _ hk => ⟨hk.1.1, hk.1.2⟩)⟩
             have n2_ : Aside0 (Kd.R (Kd.int .i64) 3 ((((w39.setCell ⟨gb134, 0, none⟩ (.int .u8 ((rd_T101 l0_3 x17_2).f0))).setCell ⟨gb134, 1, none⟩ (.int .i64 ((rd_T101 l0_3 x17_2).f1))).setCell ⟨gb134, 2, none⟩ (.int .i64 ((rd_T101 l0_3 x17_2).f2))).setCell ⟨gb134, 3, none⟩ (.slice A133_3 ((rd_T101 l0_3 x17_2).f3).length c133_3)) w.heap.size (fun k_ => some k_ ≠ (.slice Ao8 t129.length co8 : Value).ownBlock ∧ some k_ ≠ (u133001 : Value).ownBlock) u133002 z133c2) := ⟨by (with_reducible repeat (first | apply Kd.R_alloc | apply Kd.R_drewN | apply Kd.R_drew)); exact Kd.R_mono (Kd.R_far (p := ⟨gb134, 3, none⟩) (Kd.R_far (p := ⟨gb134, 2, none⟩) (Kd.R_far (p := ⟨gb134, 1, none⟩) (Kd.R_far (p := ⟨gb134, 0, none⟩) (Kd.R_types HO_133002.out BK134.out (by decide)) (fun _ hk => hk.2) (.int .u8 ((rd_T101 l0_3 x17_2).f0))) (fun _ hk => hk.2) (.int .i64 ((rd_T101 l0_3 x17_2).f1))) (fun _ hk => hk.2) (.int .i64 ((rd_T101 l0_3 x17_2).f2))) (fun _ hk => hk.2) (.slice A133_3 ((rd_T101 l0_3 x17_2).f3).length c133_3)) (fun _ hk => ⟨hk.1.1, hk.1.2⟩)⟩
             have n3_ : Aside0 (((((w39.setCell ⟨gb134, 0, none⟩ (.int .u8 ((rd_T101 l0_3 x17_2).f0))).setCell ⟨gb134, 1, none⟩ (.int .i64 ((rd_T101 l0_3 x17_2).f1))).setCell ⟨gb134, 2, none⟩ (.int .i64 ((rd_T101 l0_3 x17_2).f2))).setCell ⟨gb134, 3, none⟩ (.slice A133_3 ((rd_T101 l0_3 x17_2).f3).length c133_3)).heap[gb127]? = some (.cells #[.string a0_0, .int .i64 a0_1, .int .i64 a0_2, .slice (some ad133) l0_3.length c0_3, .slice A0_4 l0_4.length c0_4, .bool a0_5, .bool a0_6, .slice A0_7 l0_7.length c0_7, .int .i64 a0_8, .int .i64 a0_9, .int .i64 a0_10] 44 (0, 0))) := ⟨xK BK127⟩
             have n4_ : Aside0 (((((w39.setCell ⟨gb134, 0, none⟩ (.int .u8 ((rd_T101 l0_3 x17_2).f0))).setCell ⟨gb134, 1, none⟩ (.int .i64 ((rd_T101 l0_3 x17_2).f1))).setCell ⟨gb134, 2, none⟩ (.int .i64 ((rd_T101 l0_3 x17_2).f2))).setCell ⟨gb134, 3, none⟩ (.slice A133_3 ((rd_T101 l0_3 x17_2).f3).length c133_3)).heap[gb128]? = some (.cells #[.slice none 0 0, .slice none 0 0, .slice none 0 0, .int .i64 0, .int .i64 0] 47 (0, 0))) := ⟨xK BK128⟩
             have n5_ : Aside0 (((((w39.setCell ⟨gb134, 0, none⟩ (.int .u8 ((rd_T101 l0_3 x17_2).f0))).setCell ⟨gb134, 1, none⟩ (.int .i64 ((rd_T101 l0_3 x17_2).f1))).setCell ⟨gb134, 2, none⟩ (.int .i64 ((rd_T101 l0_3 x17_2).f2))).setCell ⟨gb134, 3, none⟩ (.slice A133_3 ((rd_T101 l0_3 x17_2).f3).length c133_3)).heap[gb132]? = some (.cells #[.slice Ao8 t129.length co8, u133001, u133002, .int .i64 0, .int .i64 0] 47 (0, 0))) := ⟨xK BK132⟩
             have n6_ : Aside0 (((((w39.setCell ⟨gb134, 0, none⟩ (.int .u8 ((rd_T101 l0_3 x17_2).f0))).setCell ⟨gb134, 1, none⟩ (.int .i64 ((rd_T101 l0_3 x17_2).f1))).setCell ⟨gb134, 2, none⟩ (.int .i64 ((rd_T101 l0_3 x17_2).f2))).setCell ⟨gb134, 3, none⟩ (.slice A133_3 ((rd_T101 l0_3 x17_2).f3).length c133_3)).heap[gb134]? = some (.cells #[.int .u8 ((rd_T101 l0_3 x17_2).f0), .int .i64 ((rd_T101 l0_3 x17_2).f1), .int .i64 ((rd_T101 l0_3 x17_2).f2), .slice A133_3 ((rd_T101 l0_3 x17_2).f3).length c133_3] 101 (0, 0))) := ⟨xQ BK134⟩
             have n7_ : Aside0 (Below w.heap.size w ((((w39.setCell ⟨gb134, 0, none⟩ (.int .u8 ((rd_T101 l0_3 x17_2).f0))).setCell ⟨gb134, 1, none⟩ (.int .i64 ((rd_T101 l0_3 x17_2).f1))).setCell ⟨gb134, 2, none⟩ (.int .i64 ((rd_T101 l0_3 x17_2).f2))).setCell ⟨gb134, 3, none⟩ (.slice A133_3 ((rd_T101 l0_3 x17_2).f3).length c133_3))) := ⟨xW HB⟩
             (try clear HO_133000)
             (try clear HO_133001)
             (try clear HO_133002)
             (try clear BK127)
             (try clear BK128)
             (try clear BK132)
             (try clear BK134)
             (try clear HB)
             generalize ((((w39.setCell ⟨gb134, 0, none⟩ (.int .u8 ((rd_T101 l0_3 x17_2).f0))).setCell ⟨gb134, 1, none⟩ (.int .i64 ((rd_T101 l0_3 x17_2).f1))).setCell ⟨gb134, 2, none⟩ (.int .i64 ((rd_T101 l0_3 x17_2).f2))).setCell ⟨gb134, 3, none⟩ (.slice A133_3 ((rd_T101 l0_3 x17_2).f3).length c133_3)) = w44 at n0_ n1_ n2_ n3_ n4_ n5_ n6_ n7_ ⊢; have HO_133000 := n0_; have HO_133001 := n1_; have HO_133002 := n2_; have BK127 := n3_; have BK128 := n4_; have BK132 := n5_; have BK134 := n6_; have HB := n7_; clear n0_ n1_ n2_ n3_ n4_ n5_ n6_ n7_; replace HO_133000 := Aside0.mk (Kd.R_drew HO_133000.out); replace HO_133001 := Aside0.mk (Kd.R_drew HO_133001.out); replace HO_133002 := Aside0.mk (Kd.R_drew HO_133002.out); replace BK127 := Aside0.mk (blk_drew BK127.out); replace BK128 := Aside0.mk (blk_drew BK128.out); replace BK132 := Aside0.mk (blk_drew BK132.out); replace BK134 := Aside0.mk (blk_drew BK134.out); replace HB := Aside0.mk (below_drew1 HB.out)
             refine start_ (n := 12) (S := fun w' => ce w' gb132 0 (.slice Ao8 t129.length co8) ∧ ce w' gb132 1 (u133001) ∧ ce w' gb132 2 (u133002) ∧ ce w' gb132 3 (.int .i64 0) ∧ ce w' gb132 4 (.int .i64 0) ∧ w'.cell? ⟨gb134, 0, none⟩ = some (.int .u8 ((rd_T101 l0_3 x17_2).f0)) ∧ w'.cell? ⟨gb134, 1, none⟩ = some (.int .i64 ((rd_T101 l0_3 x17_2).f1)) ∧ w'.cell? ⟨gb134, 2, none⟩ = some (.int .i64 ((rd_T101 l0_3 x17_2).f2)) ∧ w'.cell? ⟨gb134, 3, none⟩ = some (.slice A133_3 ((rd_T101 l0_3 x17_2).f3).length c133_3)) (ds := [11]) (mk 12 0) kr_ rfl rfl ⟨xc BK132 0, xc BK132 1, xc BK132 2, xc BK132 3, xc BK132 4, xc BK134 0, xc BK134 1, xc BK134 2, xc BK134 3⟩ (fun hHeld => ?_); refine with_tabW place_Fresh.tab8 place_Fresh.bits8 (fun HT_ HW_ => ?_)
             generalize w44.drew = w45 at HO_133000 HO_133001 HO_133002 BK127 BK128 BK132 BK134 HB hHeld ⊢; refine pu_ 0 21 HT_ ?_; refine pu_ 1 22 HT_ ?_; refine pu_ 2 23 HT_ ?_; refine pu_ 3 24 HT_ ?_; refine pu_ 5 26 HT_ ?_; refine pu_ 9 30 HT_ ?_; refine tk_ 4 25 HT_ HW_ hHeld ?_; refine tk_ 6 27 HT_ HW_ hHeld ?_
             refine one_ (i := 7) (N := some 28) #[true, true, true, true, true, true, true, true, false, true, false, false] rfl rfl (one_of HT_.out kr_) (by decide) (fun K hK => ?_)
             refine value_ (w1 := ?_) (v := ?_) (by rfl) rfl ?_ ?_
             rotate_left 2
             ·go_simp
              constructor
              ·rfl
              ·rfl
             refine hK.out _ _ ⟨(blk_cell (blk_alloc BK132.out _) 0).trans rfl, (blk_cell (blk_alloc BK132.out _) 1).trans rfl, (blk_cell (blk_alloc BK132.out _) 2).trans rfl, (blk_cell (blk_alloc BK132.out _) 3).trans rfl, (blk_cell (blk_alloc BK132.out _) 4).trans rfl, (blk_cell (blk_alloc BK134.out _) 0).trans rfl, (blk_cell (blk_alloc BK134.out _) 1).trans rfl, (blk_cell (blk_alloc BK134.out _) 2).trans rfl, (blk_cell (blk_alloc BK134.out _) 3).trans rfl⟩ (fun hHeld => ?_)
             clear hK K
             refine norm_ (a' := ?_) ?_ ?_
             rotate_left
             ·show Act.put _ (some 28) _ = _
              simp only [Act.put, List.setIfInBounds_toArray, List.set_cons_zero, List.set_cons_succ, i64_w, i32_w]
              rfl
             refine one_ (i := 8) (N := some 29) #[true, true, true, true, true, true, true, true, true, true, false, false] rfl rfl (one_of HT_.out kr_) (by decide) (fun K hK => ?_)
             refine Kd.R_append_step (Kd.int .i64) (w0 := w) w.heap.size (by rfl) (.tmp 25) (.tmp 28) 31 3 (.int .i64 0) 8 rfl Try.underlying31 info3 rfl (by decide) (by omega) u133002 z133c2 ((rd_T101 l0_3 x17_2).f1) [.int .i64 ((rd_T101 l0_3 x17_2).f1)] (fun k_ => some k_ ≠ (.slice Ao8 t129.length co8 : Value).ownBlock ∧ some k_ ≠ (u133001 : Value).ownBlock) (fun _ => False) rfl rfl ?aP (fun _ hk => hk.elim) ?aF ?aO ?aB ?aS ?aL ?_
             (case aP => exact rfl)
             (case aB => exact (xW HB))
             (case aF => exact (fun k_ hk => ⟨Kd.fresh' (Kd.R_lt (by (with_reducible repeat (first | apply Kd.R_alloc | apply Kd.R_drewN | apply Kd.R_drew)); exact HO_133000.out)) k_ hk, Kd.fresh' (Kd.R_lt (by (with_reducible repeat (first | apply Kd.R_alloc | apply Kd.R_drewN | apply Kd.R_drew)); exact HO_133001.out)) k_ hk⟩))
             (case aO => exact (by (with_reducible repeat (first | apply Kd.R_alloc | apply Kd.R_drewN | apply Kd.R_drew)); exact HO_133002.out))
             (case aS => exact (below_size (xW HB)))
             (case aL => have := LMc37.out; omega)
             intro v139 w46 ho hb hg hat
             rw [← Ny138.out] at ho
             have n0_ := Aside0.mk (Kd.R_after (ok := (fun k_ => some k_ ≠ (u133001 : Value).ownBlock)) (by (with_reducible repeat (first | apply Kd.R_alloc | apply Kd.R_drewN | apply Kd.R_drew)); exact HO_133000.out) hg hat)
             have n1_ := Aside0.mk (Kd.R_after (ok := (fun k_ => some k_ ≠ (.slice Ao8 t129.length co8 : Value).ownBlock)) (by (with_reducible repeat (first | apply Kd.R_alloc | apply Kd.R_drewN | apply Kd.R_drew)); exact HO_133001.out) hg hat)
             have n2_ := Aside0.mk (blk_grown (g := gb127) (o := .cells #[.string a0_0, .int .i64 a0_1, .int .i64 a0_2, .slice (some ad133) l0_3.length c0_3, .slice A0_4 l0_4.length c0_4, .bool a0_5, .bool a0_6, .slice A0_7 l0_7.length c0_7, .int .i64 a0_8, .int .i64 a0_9, .int .i64 a0_10] 44 (0, 0)) (xK BK127) hg (Kd.R_ne HO_133002.out BK127.out (by decide)))
             have n3_ := Aside0.mk (blk_grown (g := gb128) (o := .cells #[.slice none 0 0, .slice none 0 0, .slice none 0 0, .int .i64 0, .int .i64 0] 47 (0, 0)) (xK BK128) hg (Kd.R_ne HO_133002.out BK128.out (by decide)))
             have n4_ := Aside0.mk (blk_grown (g := gb132) (o := .cells #[.slice Ao8 t129.length co8, u133001, u133002, .int .i64 0, .int .i64 0] 47 (0, 0)) (xK BK132) hg (Kd.R_ne HO_133002.out BK132.out (by decide)))
             have n5_ := Aside0.mk (blk_grown (g := gb134) (o := .cells #[.int .u8 ((rd_T101 l0_3 x17_2).f0), .int .i64 ((rd_T101 l0_3 x17_2).f1), .int .i64 ((rd_T101 l0_3 x17_2).f2), .slice A133_3 ((rd_T101 l0_3 x17_2).f3).length c133_3] 101 (0, 0)) (xK BK134) hg (Kd.R_ne HO_133002.out BK134.out (by decide)))
             have n6_ := Aside0.mk (hb); have n7_ := Aside0.mk (ho); clear HO_133000; clear HO_133001; clear BK127; clear BK128; clear BK132; clear BK134; clear HB; clear HO_133002; have HO_133000 := n0_; have HO_133001 := n1_; have BK127 := n2_; have BK128 := n3_; have BK132 := n4_; have BK134 := n5_; have HB := n6_; have HO140 := n7_; clear n0_ n1_ n2_ n3_ n4_ n5_ n6_ n7_; clear ho hb hg hat
             obtain ⟨Ao47, co47, eo47⟩ := Kd.R_slice HO140.out
             (first | subst eo47 | (injection eo47 with f1_ f2_ f3_; have f4_ := f1_.symm; have f5_ := f3_.symm; clear f1_ f2_ f3_; subst f4_; subst f5_))
             refine hK.out _ _ ⟨(blk_cell BK132.out 0).trans rfl, (blk_cell BK132.out 1).trans rfl, (blk_cell BK132.out 2).trans rfl, (blk_cell BK132.out 3).trans rfl, (blk_cell BK132.out 4).trans rfl, (blk_cell BK134.out 0).trans rfl, (blk_cell BK134.out 1).trans rfl, (blk_cell BK134.out 2).trans rfl, (blk_cell BK134.out 3).trans rfl⟩ (fun hHeld => ?_)
             clear hK K
             refine norm_ (a' := ?_) ?_ ?_
             rotate_left
             ·show Act.put _ (some 29) _ = _
              simp only [Act.put, List.setIfInBounds_toArray, List.set_cons_zero, List.set_cons_succ, i64_w, i32_w]
              rfl
             refine pu_ 10 31 HT_ ?_
             refine last_ (i := 11) (N := none) #[true, true, true, true, true, true, true, true, true, true, true, true] rfl rfl (one_of HT_.out kr_) (by decide) (fun K hK => ?_)
             have hs48 : w46.cell? ⟨gb132, 2, none⟩ = some (u133002) := (blk_cell BK132.out 2).trans rfl
             have hfs48 := blk_frozen BK132.out 2; have hms48_0 := NB132_127.out; have hms48_1 := NB132_128.out; have hms48_3 := NB132_134.out
             refine skip_ (w1 := ?_) (by rfl) rfl ?_ ?_
             rotate_left
             ·go_simp
              rfl
             refine hK.out _ _ ?_
             clear hK K
             refine done_ (done_of HT_.out kr_) ?_
             try go_wp2
             go_roundg k2
             case measure => have := HK1.out; have := HK2.out; omega
             case rel => exact ⟨(wrap64 (x17_2 + 1)), (z133b2), (y138), (u133001), (.slice Ao47 y138.length co47), (xrf), H', ⟨by have := HK1.out; have := HK2.out; omega⟩, ⟨by (with_reducible repeat (first | apply Kd.R_alloc | apply Kd.R_drewN | apply Kd.R_drew)); exact Kd.R_mono (Kd.R_far (p := ⟨gb132, 2, none⟩) (Kd.R_types HO_133000.out BK132.out (by decide)) (fun _ hk => hk.2) (.slice Ao47 y138.length co47)) (fun _ hk => ⟨hk.1.1, hk.1.2⟩)⟩, ⟨by (with_reducible repeat (first | apply Kd.R_alloc | apply Kd.R_drewN | apply Kd.R_drew)); exact Kd.R_mono (Kd.R_far (p := ⟨gb132, 2, none⟩) (Kd.R_types HO_133001.out BK132.out (by decide)) (fun _ hk => hk.2) (.slice Ao47 y138.length co47)) (fun _ hk => ⟨hk.1.1, hk.1.2⟩)⟩, ⟨by (with_reducible repeat (first | apply Kd.R_alloc | apply Kd.R_drewN | apply Kd.R_drew)); exact Kd.R_mono (Kd.R_far (p := ⟨gb132, 2, none⟩) (Kd.R_types HO140.out BK132.out (by decide)) (fun _ hk => hk.2) (.slice Ao47 y138.length co47)) (fun _ hk => ⟨hk.1.1, hk.1.2⟩)⟩, ⟨xK BK127⟩, ⟨xK BK128⟩, ⟨xQ BK132⟩, ⟨xW HB⟩⟩⟩
             exact inferInstanceAs _
            ·rw [if_neg c37] at H
             exact absurd H (by simp)⟩
            exact inferInstanceAs _⟩
           exact inferInstanceAs _
          ·rw [if_neg c21] at H
           exact absurd H (by simp)⟩
          exact inferInstanceAs _
         ·rw [if_neg c20] at H
          exact absurd H (by simp)⟩
         exact inferInstanceAs _
        ·rw [if_neg c19] at H
         exact absurd H (by simp)⟩
        exact inferInstanceAs _
       ·rw [if_neg c18] at H
        exact absurd H (by simp)⟩
       exact inferInstanceAs _
      ·rw [if_neg c17] at H
       have c17b0 : decide (x17_2 < (l0_3.length : Int)) = false := decide_eq_false c17
       clear c17
       have H' := Aside0.mk H
       clear H
       go_wp2
       go_roundg k2
       case measure => have := HK1.out; have := HK2.out; omega
       case rel => exact ⟨(wrap64 (x11_1 + 1)), (z133b2), (z133c2), (u133001), (u133002), (xrf), H', ⟨by have := HK1.out; have := HK2.out; omega⟩, ⟨by (with_reducible repeat (first | apply Kd.R_alloc | apply Kd.R_drewN | apply Kd.R_drew)); exact HO_133000.out⟩, ⟨by (with_reducible repeat (first | apply Kd.R_alloc | apply Kd.R_drewN | apply Kd.R_drew)); exact HO_133001.out⟩, ⟨by (with_reducible repeat (first | apply Kd.R_alloc | apply Kd.R_drewN | apply Kd.R_drew)); exact HO_133002.out⟩, ⟨xK BK127⟩, ⟨xK BK128⟩, ⟨xK BK132⟩, ⟨xW HB⟩⟩⟩
    exact inferInstanceAs _
   ·rw [if_neg c13] at H
    have c13b0 : decide (x11_1 < 2) = false := decide_eq_false c13
    clear c13
    simp only [Option.some.injEq, Prod.mk.injEq] at H
    obtain ⟨rfl, rfl, rfl, rfl, rfl⟩ := H
    have hcz51_0 := blkc5 BK132.out; have hcz53_0 := blkc5 BK128.out
    obtain ⟨Ao54, co54, eo54⟩ := Kd.R_slice HO_133001.out
    subst eo54
    obtain ⟨Ao55, co55, eo55⟩ := Kd.R_slice HO_133002.out
    subst eo55
    go_wp2
    refine bodyPost_ret (results_cell_row rfl _ _ gb128 47 #[.slice Ao8 t129.length co8, .slice Ao54 z133b1.length co54, .slice Ao55 z133c1.length co55, .int .i64 0, .int .i64 0] (0, 0) _ rfl (xQ BK128) Try.underlying47 rfl kr_) rfl ?_
    exact ⟨_, _, _, xer, by (with_reducible repeat (first | apply Kd.R_alloc | apply Kd.R_drewN | apply Kd.R_drew)); exact Kd.R_mono (Kd.R_far (p := ⟨gb128, 4, none⟩) (Kd.R_far (p := ⟨gb128, 3, none⟩) (Kd.R_far (p := ⟨gb128, 2, none⟩) (Kd.R_far (p := ⟨gb128, 1, none⟩) (Kd.R_far (p := ⟨gb128, 0, none⟩) (Kd.R_types HO_133000.out BK128.out (by decide)) (fun _ hk => hk.2) (.slice Ao8 t129.length co8)) (fun _ hk => hk.2) (.slice Ao54 z133b1.length co54)) (fun _ hk => hk.2) (.slice Ao55 z133c1.length co55)) (fun _ hk => hk.2) (.int .i64 0)) (fun _ hk => hk.2) (.int .i64 0)) (fun _ hk => ⟨hk.1.1, hk.1.2⟩), by (with_reducible repeat (first | apply Kd.R_alloc | apply Kd.R_drewN | apply Kd.R_drew)); exact Kd.R_mono (Kd.R_far (p := ⟨gb128, 4, none⟩) (Kd.R_far (p := ⟨gb128, 3, none⟩) (Kd.R_far (p := ⟨gb128, 2, none⟩) (Kd.R_far (p := ⟨gb128, 1, none⟩) (Kd.R_far (p := ⟨gb128, 0, none⟩) (Kd.R_types HO_133001.out BK128.out (by decide)) (fun _ hk => hk.2) (.slice Ao8 t129.length co8)) (fun _ hk => hk.2) (.slice Ao54 z133b1.length co54)) (fun _ hk => hk.2) (.slice Ao55 z133c1.length co55)) (fun _ hk => hk.2) (.int .i64 0)) (fun _ hk => hk.2) (.int .i64 0)) (fun _ hk => ⟨hk.1.1, hk.1.2⟩), by (with_reducible repeat (first | apply Kd.R_alloc | apply Kd.R_drewN | apply Kd.R_drew)); exact Kd.R_mono (Kd.R_far (p := ⟨gb128, 4, none⟩) (Kd.R_far (p := ⟨gb128, 3, none⟩) (Kd.R_far (p := ⟨gb128, 2, none⟩) (Kd.R_far (p := ⟨gb128, 1, none⟩) (Kd.R_far (p := ⟨gb128, 0, none⟩) (Kd.R_types HO_133002.out BK128.out (by decide)) (fun _ hk => hk.2) (.slice Ao8 t129.length co8)) (fun _ hk => hk.2) (.slice Ao54 z133b1.length co54)) (fun _ hk => hk.2) (.slice Ao55 z133c1.length co55)) (fun _ hk => hk.2) (.int .i64 0)) (fun _ hk => hk.2) (.int .i64 0)) (fun _ hk => ⟨hk.1.1, hk.1.2⟩), xW HB⟩

/-! ### place_Begin: function 32 -/
def place_Begin.f (k : Nat) (a0_0 : ByteArray) (a0_1 : Int) (a0_2 : Int) (l0_3 : List (S101)) (l0_4 : List Int) (a0_5 : Bool) (a0_6 : Bool) (l0_7 : List (S103)) (a0_8 : Int) (a0_9 : Int) (a0_10 : Int) : Option (List Int × List Int × List Int × Int × Int × Int) := (rules_Check.f k a0_0 a0_1 a0_2 l0_3 l0_4 a0_5 a0_6 l0_7 a0_8 a0_9 a0_10).bind fun t143 => (if t143 = 0 then ((place_Fresh.f k a0_0 a0_1 a0_2 l0_3 l0_4 a0_5 a0_6 l0_7 a0_8 a0_9 a0_10).bind fun bt144 => (some (bt144.1, bt144.2.1, bt144.2.2.1, bt144.2.2.2.1, bt144.2.2.2.2, 0))) else (some (([] : List Int), ([] : List Int), ([] : List Int), 0, 0, t143)))
theorem place_Begin.mono : ∀ a0 a1 a2 a3 a4 a5 a6 a7 a8 a9 a10 k, LeO (place_Begin.f k a0 a1 a2 a3 a4 a5 a6 a7 a8 a9 a10) (place_Begin.f (k + 1) a0 a1 a2 a3 a4 a5 a6 a7 a8 a9 a10) := by
  intro a0 a1 a2 a3 a4 a5 a6 a7 a8 a9 a10 k
  unfold place_Begin.f
  repeat' first
      | (with_reducible apply place_Fresh.mono)
      | (with_reducible apply rules_Check.mono)
      | (with_reducible exact LeO.refl _)
      | (with_reducible exact LeO.none _)
      | (with_reducible refine LeO.ite ?_ ?_)
      | (with_reducible refine LeO.bind ?_ (fun _ => ?_))
      | apply place_Fresh.mono
      | apply rules_Check.mono
      | exact LeO.none _
      | refine LeO.ite ?_ ?_
      | refine LeO.bind ?_ (fun _ => ?_)
set_option maxHeartbeats 80000000 in
set_option maxRecDepth 100000 in
theorem place_Begin.calls (k : Nat) (a0_0 : ByteArray) (a0_1 : Int) (a0_2 : Int) (A0_3 : Option Addr) (c0_3 : Nat) (l0_3 : List (S101)) (A0_4 : Option Addr) (c0_4 : Nat) (l0_4 : List Int) (a0_5 : Bool) (a0_6 : Bool) (A0_7 : Option Addr) (c0_7 : Nat) (l0_7 : List (S103)) (a0_8 : Int) (a0_9 : Int) (a0_10 : Int) (r1 : List Int) (r2 : List Int) (r3 : List Int) (r4 : Int) (r5 : Int) (r6 : Int) (w : World) (hr0_3 : Kd.C k101 w A0_3 l0_3.length l0_3) (hc0_3 : l0_3.length ≤ c0_3) (hr0_4 : Kd.C (Kd.int .i64) w A0_4 l0_4.length l0_4) (hc0_4 : l0_4.length ≤ c0_4) (hr0_7 : Kd.C k103 w A0_7 l0_7.length l0_7) (hc0_7 : l0_7.length ≤ c0_7) (h : place_Begin.f k a0_0 a0_1 a0_2 l0_3 l0_4 a0_5 a0_6 l0_7 a0_8 a0_9 a0_10 = some (r1, r2, r3, r4, r5, r6)) :
    Calls Try.prog 32 #[.agg #[.string a0_0, .int .i64 a0_1, .int .i64 a0_2, .slice A0_3 l0_3.length c0_3, .slice A0_4 l0_4.length c0_4, .bool a0_5, .bool a0_6, .slice A0_7 l0_7.length c0_7, .int .i64 a0_8, .int .i64 a0_9, .int .i64 a0_10]] w fun e w' => ∃ v0_ v1_ v2_ : Value, e = .returned (.tuple #[.agg #[v0_, v1_, v2_, .int .i64 r4, .int .i64 r5], .int .i64 r6]) ∧ Kd.R (Kd.int .i64) 3 w' w.heap.size (fun k_ => some k_ ≠ (v1_ : Value).ownBlock ∧ some k_ ≠ (v2_ : Value).ownBlock) v0_ r1 ∧ Kd.R (Kd.int .i64) 3 w' w.heap.size (fun k_ => some k_ ≠ (v0_ : Value).ownBlock ∧ some k_ ≠ (v2_ : Value).ownBlock) v1_ r2 ∧ Kd.R (Kd.int .i64) 3 w' w.heap.size (fun k_ => some k_ ≠ (v0_ : Value).ownBlock ∧ some k_ ≠ (v1_ : Value).ownBlock) v2_ r3 ∧ Below w.heap.size w w' := by
 have hu44 := Try.underlying44; have hu47 := Try.underlying47; have HR0_3 := Aside0.mk hr0_3; have HC0_3 := Aside0.mk hc0_3; clear hr0_3 hc0_3; have HR0_4 := Aside0.mk hr0_4; have HC0_4 := Aside0.mk hc0_4; clear hr0_4 hc0_4; have HR0_7 := Aside0.mk hr0_7; have HC0_7 := Aside0.mk hc0_7; clear hr0_7 hc0_7; have HB := Aside0.mk (Below.refl w.heap.size w); have hss_ := @isSome_setCell
 have H : ((rules_Check.f k a0_0 a0_1 a0_2 l0_3 l0_4 a0_5 a0_6 l0_7 a0_8 a0_9 a0_10).bind fun t143 => (if t143 = 0 then ((place_Fresh.f k a0_0 a0_1 a0_2 l0_3 l0_4 a0_5 a0_6 l0_7 a0_8 a0_9 a0_10).bind fun bt144 => (some (bt144.1, bt144.2.1, bt144.2.2.1, bt144.2.2.2.1, bt144.2.2.2.2, 0))) else (some (([] : List Int), ([] : List Int), ([] : List Int), 0, 0, t143)))) = some (r1, r2, r3, r4, r5, r6) := h
 clear h; replace H := Option.bind_eq_some_iff.mp H
 obtain ⟨t143, A20, H⟩ := H
 try dsimp only at H
 have A2 := Aside0.mk A20; clear A20
 by_cases c3 : t143 = 0
 ·rw [if_pos c3] at H
  have c3b0 : (t143 == 0) = true := beq_iff_eq.mpr c3
  have c3b1 : (t143 != 0) = false := bne_eq_false_iff_eq.mpr c3
  clear c3; replace H := Option.bind_eq_some_iff.mp H
  obtain ⟨⟨t144, t147, t150, t153, t154⟩, A40, H⟩ := H
  replace H : (some (t144, t147, t150, t153, t154, 0)) = some (r1, r2, r3, r4, r5, r6) := H
  have A4 := Aside0.mk A40; clear A40
  simp only [Option.some.injEq, Prod.mk.injEq] at H
  obtain ⟨rfl, rfl, rfl, rfl, rfl, rfl⟩ := H
  go_enter Try.func32, Try.ntmps32
  go_wp2_with (first | ((with_reducible refine gate_dst (N := 1) rfl ?_); refine box_event ?hg (N := 1) ?hd (cs := #[.string a0_0, .int .i64 a0_1, .int .i64 a0_2, .slice A0_3 l0_3.length c0_3, .slice A0_4 l0_4.length c0_4, .bool a0_5, .bool a0_6, .slice A0_7 l0_7.length c0_7, .int .i64 a0_8, .int .i64 a0_9, .int .i64 a0_10]) (t := 44) ?hr ?_; (case hd => rfl); (case hg => rfl); (case hr => first | (go_simp; done) | (go_simp; rfl)); intro gb141 hg w5 hbox hb; have BK141 := Aside0.mk (hbox); have GW141 := Aside0.mk (xZ HB hg); have GE141 := Aside0.mk (xZ HB hg); replace HB := Aside0.mk (xS HB hb); clear hb hbox hg) | ((with_reducible refine gate_dst (N := 2) rfl ?_); refine box_event ?hg (N := 2) ?hd (cs := #[.slice none 0 0, .slice none 0 0, .slice none 0 0, .int .i64 0, .int .i64 0]) (t := 47) ?hr ?_; (case hd => rfl); (case hg => rfl); (case hr => first | (go_simp; done) | (go_simp; rfl)); intro gb142 hg w6 hbox hb; have BK142 := Aside0.mk (hbox); have GW142 := Aside0.mk (xZ HB hg); have GE142 := Aside0.mk (xZ HB hg); have NB141_142 := Aside0.mk (xN BK141 hg); have NB142_141 := Aside0.mk (xM BK141 hg); replace BK141 := Aside0.mk (xB BK141 hb); replace HB := Aside0.mk (xS HB hb); clear hb hbox hg; have hnb7 := xne NB141_142; have hnc7 := xne NB142_141; have hcz8_0 := blkc11 BK141.out) | ((with_reducible refine gate_callee (f := 36) rfl ?_); refine goesL_ (some 6) rfl rfl Try.func36 kr_ rfl #[.agg #[.string a0_0, .int .i64 a0_1, .int .i64 a0_2, .slice A0_3 l0_3.length c0_3, .slice A0_4 l0_4.length c0_4, .bool a0_5, .bool a0_6, .slice A0_7 l0_7.length c0_7, .int .i64 a0_8, .int .i64 a0_9, .int .i64 a0_10]] rfl (by (try simp only [List.map_toArray, List.map_cons, List.map_nil]); first | done | rfl | (simp only [List.length_drop, List.length_take]; rfl)) ?_; (with_reducible refine (rules_Check.calls k a0_0 a0_1 a0_2 _ _ l0_3 _ _ l0_4 a0_5 a0_6 _ _ l0_7 a0_8 a0_9 a0_10 t143 _ ?side1 ?side2 ?side3 ?side4 ?side5 ?side6 A2.out).mono ?_); (case side1 => exact xC (Kd.C_below HR0_3.out HB.out)); (case side2 => exact HC0_3.out); (case side3 => exact xC (Kd.C_below HR0_4.out HB.out)); (case side4 => exact HC0_4.out); (case side5 => exact xC (Kd.C_below HR0_7.out HB.out)); (case side6 => exact HC0_7.out); rintro e w9 ⟨rfl, hb⟩; refine ⟨_, rfl, ?_⟩; replace BK141 := Aside0.mk (xB BK141 hb); replace BK142 := Aside0.mk (xB BK142 hb); replace HB := Aside0.mk (xS HB hb); (try clear hb); (try clear hb2); (try clear hk); (try clear hi); have hcz10_0 := blkc11 BK141.out) | ((with_reducible refine gate_callee (f := 45) rfl ?_); refine goesL_ (some 12) rfl rfl Try.func45 kr_ rfl #[.agg #[.string a0_0, .int .i64 a0_1, .int .i64 a0_2, .slice A0_3 l0_3.length c0_3, .slice A0_4 l0_4.length c0_4, .bool a0_5, .bool a0_6, .slice A0_7 l0_7.length c0_7, .int .i64 a0_8, .int .i64 a0_9, .int .i64 a0_10]] rfl (by (try simp only [List.map_toArray, List.map_cons, List.map_nil]); first | done | rfl | (simp only [List.length_drop, List.length_take]; rfl)) ?_; (with_reducible refine (place_Fresh.calls k a0_0 a0_1 a0_2 _ _ l0_3 _ _ l0_4 a0_5 a0_6 _ _ l0_7 a0_8 a0_9 a0_10 t144 t147 t150 t153 t154 _ ?side1 ?side2 ?side3 ?side4 ?side5 ?side6 A4.out).mono ?_); (case side1 => exact xC (Kd.C_below HR0_3.out HB.out)); (case side2 => exact HC0_3.out); (case side3 => exact xC (Kd.C_below HR0_4.out HB.out)); (case side4 => exact HC0_4.out); (case side5 => exact xC (Kd.C_below HR0_7.out HB.out)); (case side6 => exact HC0_7.out); rintro e w11 ⟨v145, v148, v151, rfl, ho0, ho1, ho2, hb⟩; refine ⟨_, rfl, ?_⟩; have HO146 := Aside0.mk (Kd.R_lower ho0 (below_size (xW HB))); have HO149 := Aside0.mk (Kd.R_lower ho1 (below_size (xW HB))); have HO152 := Aside0.mk (Kd.R_lower ho2 (below_size (xW HB))); replace BK141 := Aside0.mk (xB BK141 hb); replace BK142 := Aside0.mk (xB BK142 hb); replace HB := Aside0.mk (xS HB hb); (try clear hb); (try clear hb2); (try clear hk); (try clear hi); (try clear ho0); (try clear ho1); (try clear ho2); obtain ⟨Ao12, co12, eo12⟩ := Kd.R_slice HO146.out; subst eo12; have hcz13_0 := blkc5 BK142.out; obtain ⟨Ao14, co14, eo14⟩ := Kd.R_slice HO149.out; subst eo14; obtain ⟨Ao15, co15, eo15⟩ := Kd.R_slice HO152.out; subst eo15))
  refine bodyPost_ret (results_ct rfl _ _ gb142 47 #[.slice Ao12 t144.length co12, .slice Ao14 t147.length co14, .slice Ao15 t150.length co15, .int .i64 t153, .int .i64 t154] (0, 0) _ rfl (xQ BK142) Try.underlying47 rfl kr_) rfl ?_
  exact ⟨_, _, _, xer, by (with_reducible repeat (first | apply Kd.R_alloc | apply Kd.R_drewN | apply Kd.R_drew)); exact Kd.R_mono (Kd.R_far (p := ⟨gb142, 4, none⟩) (Kd.R_far (p := ⟨gb142, 3, none⟩) (Kd.R_far (p := ⟨gb142, 2, none⟩) (Kd.R_far (p := ⟨gb142, 1, none⟩) (Kd.R_far (p := ⟨gb142, 0, none⟩) (Kd.R_types HO146.out BK142.out (by decide)) (fun _ hk => hk.2) (.slice Ao12 t144.length co12)) (fun _ hk => hk.2) (.slice Ao14 t147.length co14)) (fun _ hk => hk.2) (.slice Ao15 t150.length co15)) (fun _ hk => hk.2) (.int .i64 t153)) (fun _ hk => hk.2) (.int .i64 t154)) (fun _ hk => ⟨hk.1.1, hk.1.2⟩), by (with_reducible repeat (first | apply Kd.R_alloc | apply Kd.R_drewN | apply Kd.R_drew)); exact Kd.R_mono (Kd.R_far (p := ⟨gb142, 4, none⟩) (Kd.R_far (p := ⟨gb142, 3, none⟩) (Kd.R_far (p := ⟨gb142, 2, none⟩) (Kd.R_far (p := ⟨gb142, 1, none⟩) (Kd.R_far (p := ⟨gb142, 0, none⟩) (Kd.R_types HO149.out BK142.out (by decide)) (fun _ hk => hk.2) (.slice Ao12 t144.length co12)) (fun _ hk => hk.2) (.slice Ao14 t147.length co14)) (fun _ hk => hk.2) (.slice Ao15 t150.length co15)) (fun _ hk => hk.2) (.int .i64 t153)) (fun _ hk => hk.2) (.int .i64 t154)) (fun _ hk => ⟨hk.1.1, hk.1.2⟩), by (with_reducible repeat (first | apply Kd.R_alloc | apply Kd.R_drewN | apply Kd.R_drew)); exact Kd.R_mono (Kd.R_far (p := ⟨gb142, 4, none⟩) (Kd.R_far (p := ⟨gb142, 3, none⟩) (Kd.R_far (p := ⟨gb142, 2, none⟩) (Kd.R_far (p := ⟨gb142, 1, none⟩) (Kd.R_far (p := ⟨gb142, 0, none⟩) (Kd.R_types HO152.out BK142.out (by decide)) (fun _ hk => hk.2) (.slice Ao12 t144.length co12)) (fun _ hk => hk.2) (.slice Ao14 t147.length co14)) (fun _ hk => hk.2) (.slice Ao15 t150.length co15)) (fun _ hk => hk.2) (.int .i64 t153)) (fun _ hk => hk.2) (.int .i64 t154)) (fun _ hk => ⟨hk.1.1, hk.1.2⟩), xW HB⟩
 ·rw [if_neg c3] at H
  have c3b0 : (t143 == 0) = false := beq_eq_false_iff_ne.mpr c3
  have c3b1 : (t143 != 0) = true := bne_iff_ne.mpr c3
  simp only [Option.some.injEq, Prod.mk.injEq] at H
  obtain ⟨rfl, rfl, rfl, rfl, rfl, rfl⟩ := H
  go_enter Try.func32, Try.ntmps32
  go_wp2_with (first | ((with_reducible refine gate_dst (N := 1) rfl ?_); refine box_event ?hg (N := 1) ?hd (cs := #[.string a0_0, .int .i64 a0_1, .int .i64 a0_2, .slice A0_3 l0_3.length c0_3, .slice A0_4 l0_4.length c0_4, .bool a0_5, .bool a0_6, .slice A0_7 l0_7.length c0_7, .int .i64 a0_8, .int .i64 a0_9, .int .i64 a0_10]) (t := 44) ?hr ?_; (case hd => rfl); (case hg => rfl); (case hr => first | (go_simp; done) | (go_simp; rfl)); intro gb141 hg w16 hbox hb; have BK141 := Aside0.mk (hbox); have GW141 := Aside0.mk (xZ HB hg); have GE141 := Aside0.mk (xZ HB hg); replace HB := Aside0.mk (xS HB hb); clear hb hbox hg) | ((with_reducible refine gate_dst (N := 2) rfl ?_); refine box_event ?hg (N := 2) ?hd (cs := #[.slice none 0 0, .slice none 0 0, .slice none 0 0, .int .i64 0, .int .i64 0]) (t := 47) ?hr ?_; (case hd => rfl); (case hg => rfl); (case hr => first | (go_simp; done) | (go_simp; rfl)); intro gb142 hg w17 hbox hb; have BK142 := Aside0.mk (hbox); have GW142 := Aside0.mk (xZ HB hg); have GE142 := Aside0.mk (xZ HB hg); have NB141_142 := Aside0.mk (xN BK141 hg); have NB142_141 := Aside0.mk (xM BK141 hg); replace BK141 := Aside0.mk (xB BK141 hb); replace HB := Aside0.mk (xS HB hb); clear hb hbox hg; have hnb18 := xne NB141_142; have hnc18 := xne NB142_141; have hcz19_0 := blkc11 BK141.out) | ((with_reducible refine gate_callee (f := 36) rfl ?_); refine goesL_ (some 6) rfl rfl Try.func36 kr_ rfl #[.agg #[.string a0_0, .int .i64 a0_1, .int .i64 a0_2, .slice A0_3 l0_3.length c0_3, .slice A0_4 l0_4.length c0_4, .bool a0_5, .bool a0_6, .slice A0_7 l0_7.length c0_7, .int .i64 a0_8, .int .i64 a0_9, .int .i64 a0_10]] rfl (by (try simp only [List.map_toArray, List.map_cons, List.map_nil]); first | done | rfl | (simp only [List.length_drop, List.length_take]; rfl)) ?_; (with_reducible refine (rules_Check.calls k a0_0 a0_1 a0_2 _ _ l0_3 _ _ l0_4 a0_5 a0_6 _ _ l0_7 a0_8 a0_9 a0_10 t143 _ ?side1 ?side2 ?side3 ?side4 ?side5 ?side6 A2.out).mono ?_); (case side1 => exact xC (Kd.C_below HR0_3.out HB.out)); (case side2 => exact HC0_3.out); (case side3 => exact xC (Kd.C_below HR0_4.out HB.out)); (case side4 => exact HC0_4.out); (case side5 => exact xC (Kd.C_below HR0_7.out HB.out)); (case side6 => exact HC0_7.out); rintro e w20 ⟨rfl, hb⟩; refine ⟨_, rfl, ?_⟩; replace BK141 := Aside0.mk (xB BK141 hb); replace BK142 := Aside0.mk (xB BK142 hb); replace HB := Aside0.mk (xS HB hb); (try clear hb); (try clear hb2); (try clear hk); (try clear hi); have hcz21_0 := blkc5 BK142.out))
  refine bodyPost_ret (results_ct rfl _ _ gb142 47 #[.slice none 0 0, .slice none 0 0, .slice none 0 0, .int .i64 0, .int .i64 0] (0, 0) _ rfl (xQ BK142) Try.underlying47 rfl kr_) rfl ?_
  exact ⟨_, _, _, xer, by first | exact Kd.R_nil _ _ _ _ _ | exact Kd.N_nil _ _ _ _ _ | exact Kd.V_nil _ _ _ _ _ | exact Kd.Q_nil _ _ _ _ _ | exact Kd.S_nil _ _ _ _ _, by first | exact Kd.R_nil _ _ _ _ _ | exact Kd.N_nil _ _ _ _ _ | exact Kd.V_nil _ _ _ _ _ | exact Kd.Q_nil _ _ _ _ _ | exact Kd.S_nil _ _ _ _ _, by first | exact Kd.R_nil _ _ _ _ _ | exact Kd.N_nil _ _ _ _ _ | exact Kd.V_nil _ _ _ _ _ | exact Kd.Q_nil _ _ _ _ _ | exact Kd.S_nil _ _ _ _ _, xW HB⟩

/-! ### gamehalllaw3_tic: function 33 -/
def gamehalllaw3_tic.f  : Option (ByteArray × Int × Int × (List (S101)) × List Int × Bool × Bool × (List (S103)) × Int × Int × Int) := if 9 ≤ 35184372088832 then (some ((⟨#[84, 73, 67]⟩ : ByteArray), 3, 3, (([(⟨83, 5, 0, ([] : List (S113))⟩ : S101)] : List (S101))), (List.replicate 9 0), false, false, (([(⟨0, 0, 3, false⟩ : S103)] : List (S103))), 2, 0, 0)) else (none)
set_option maxHeartbeats 80000000 in
set_option maxRecDepth 100000 in
theorem gamehalllaw3_tic.calls  (r1 : ByteArray) (r2 : Int) (r3 : Int) (r4 : List (S101)) (r5 : List Int) (r6 : Bool) (r7 : Bool) (r8 : List (S103)) (r9 : Int) (r10 : Int) (r11 : Int) (w : World) (h : gamehalllaw3_tic.f  = some (r1, r2, r3, r4, r5, r6, r7, r8, r9, r10, r11)) :
    Calls Try.prog 33 #[] w fun e w' => ∃ v3_ v4_ v7_ : Value, e = .returned (.agg #[.string r1, .int .i64 r2, .int .i64 r3, v3_, v4_, .bool r6, .bool r7, v7_, .int .i64 r9, .int .i64 r10, .int .i64 r11]) ∧ Kd.S k101 101 w' w.heap.size (fun _ => True) v3_ r4 ∧ Kd.R (Kd.int .i64) 3 w' w.heap.size (fun _ => True) v4_ r5 ∧ Kd.R k103 103 w' w.heap.size (fun _ => True) v7_ r8 ∧ Below w.heap.size w w' := by
 have hu44 := Try.underlying44; have hu101 := Try.underlying101; have hu103 := Try.underlying103; have HB := Aside0.mk (Below.refl w.heap.size w); have hss_ := @isSome_setCell
 have H : (if 9 ≤ 35184372088832 then (some ((⟨#[84, 73, 67]⟩ : ByteArray), 3, 3, (([(⟨83, 5, 0, ([] : List (S113))⟩ : S101)] : List (S101))), (List.replicate 9 0), false, false, (([(⟨0, 0, 3, false⟩ : S103)] : List (S103))), 2, 0, 0)) else (none)) = some (r1, r2, r3, r4, r5, r6, r7, r8, r9, r10, r11) := h
 clear h
 obtain ⟨y156, hy156⟩ : ∃ y_ : List (S101), y_ = (([(⟨83, 5, 0, ([] : List (S113))⟩ : S101)] : List (S101))) := ⟨_, rfl⟩
 replace H : (if 9 ≤ 35184372088832 then (some ((⟨#[84, 73, 67]⟩ : ByteArray), 3, 3, y156, (List.replicate 9 0), false, false, (([(⟨0, 0, 3, false⟩ : S103)] : List (S103))), 2, 0, 0)) else (none)) = some (r1, r2, r3, r4, r5, r6, r7, r8, r9, r10, r11) := by first | (rw [hy156]; with_reducible exact H) | (have H2_ := (Option.bind_some _ _).symm.trans H; rw [hy156]; with_reducible exact H2_) | (have H2_ := (Option.bind_some _ _).symm.trans H; with_reducible exact H2_) | with_reducible exact H | (rw [hy156]; exact H) | exact H
 have Ny156 := Aside0.mk hy156; clear hy156
 by_cases c1 : 9 ≤ 35184372088832
 ·rw [if_pos c1] at H
  have c1b0 := eq_true c1
  have c1b1 : decide (9 ≤ 35184372088832) = true := decide_eq_true c1
  clear c1
  obtain ⟨y159, hy159⟩ : ∃ y_ : List Int, y_ = (List.replicate 9 0) := ⟨_, rfl⟩
  replace H : (some ((⟨#[84, 73, 67]⟩ : ByteArray), 3, 3, y156, y159, false, false, (([(⟨0, 0, 3, false⟩ : S103)] : List (S103))), 2, 0, 0)) = some (r1, r2, r3, r4, r5, r6, r7, r8, r9, r10, r11) := by first | (rw [hy159]; with_reducible exact H) | (have H2_ := (Option.bind_some _ _).symm.trans H; rw [hy159]; with_reducible exact H2_) | (have H2_ := (Option.bind_some _ _).symm.trans H; with_reducible exact H2_) | with_reducible exact H | (rw [hy159]; exact H) | exact H
  have Ny159 := Aside0.mk hy159; clear hy159
  obtain ⟨y162, hy162⟩ : ∃ y_ : List (S103), y_ = (([(⟨0, 0, 3, false⟩ : S103)] : List (S103))) := ⟨_, rfl⟩
  replace H : (some ((⟨#[84, 73, 67]⟩ : ByteArray), 3, 3, y156, y159, false, false, y162, 2, 0, 0)) = some (r1, r2, r3, r4, r5, r6, r7, r8, r9, r10, r11) := by first | (rw [hy162]; with_reducible exact H) | (have H2_ := (Option.bind_some _ _).symm.trans H; rw [hy162]; with_reducible exact H2_) | (have H2_ := (Option.bind_some _ _).symm.trans H; with_reducible exact H2_) | with_reducible exact H | (rw [hy162]; exact H) | exact H
  have Ny162 := Aside0.mk hy162; clear hy162
  simp only [Option.some.injEq, Prod.mk.injEq] at H
  obtain ⟨rfl, rfl, rfl, rfl, rfl, rfl, rfl, rfl, rfl, rfl, rfl⟩ := H
  go_enter Try.func33, Try.ntmps33
  go_wp2_with (first | ((with_reducible refine gate_dst (N := 0) rfl ?_); refine box_event ?hg (N := 0) ?hd (cs := #[.string (⟨#[]⟩ : ByteArray), .int .i64 0, .int .i64 0, .slice none 0 0, .slice none 0 0, .bool false, .bool false, .slice none 0 0, .int .i64 0, .int .i64 0, .int .i64 0]) (t := 44) ?hr ?_; (case hd => rfl); (case hg => rfl); (case hr => first | (go_simp; done) | (go_simp; rfl)); intro gb155 hg w2 hbox hb; have BK155 := Aside0.mk (hbox); have GW155 := Aside0.mk (xZ HB hg); have GE155 := Aside0.mk (xZ HB hg); replace HB := Aside0.mk (xS HB hb); clear hb hbox hg) | ((with_reducible refine gate_dst (N := 2) rfl ?_); refine Kd.S_lit k101 _ 101 ?hg (N := 2) ?hd (xs := ([(⟨83, 5, 0, ([] : List (S113))⟩ : S101)] : List (S101))) (inner := [.int .u8 83, .int .i64 5, .int .i64 0, .slice none 0 0]) (ok := fun _ => True) (okp := fun _ => True) ?hr ?hp (fun _ hk => hk) trivial (Below.refl _ _) (Nat.le_refl _) (by simp) ?_; (case hd => rfl); (case hg => rfl); (case hr => first | (go_simp; done) | (go_simp; rfl)); (case hp => exact (Reps.c4 (show Kd.M k101 _ _ _ (⟨83, 5, 0, ([] : List (S113))⟩ : S101) [.int .u8 83, .int .i64 5, .int .i64 0, .slice none 0 0] from (k101_mkM _ _ _ (⟨83, 5, 0, ([] : List (S113))⟩ : S101) (Kd.R_nil _ _ _ _ _))) (Reps.none _ _))); intro v157 w3 ho4 hb hg_ hnew_; clear hg_ hnew_; (first | rw [← Ny156.out] at ho4 | (simp only [Int.reduceToNat] at ho4; rw [← Ny156.out] at ho4)); have HO158 := Aside0.mk (Kd.S_lower ho4 (below_size (xW HB))); replace BK155 := Aside0.mk (xB BK155 hb); replace HB := Aside0.mk (xS HB hb); clear hb ho4) | ((with_reducible refine gate_dst (N := 3) rfl ?_); refine Kd.R_make (Kd.int .i64) _ 3 rfl (N := 3) rfl 31 _ _ rfl 9 rfl rfl Try.underlying31 (.int .i64 0) 8 info3 rfl (by decide) (by omega) 0 (ok := fun _ => True) (okp := fun _ => True) rfl (fun _ hk => hk) trivial (by omega) (by omega) (Below.refl _ _) (Nat.le_refl _) ?_; intro v160 w5 ho6 hb hg_ hnew_; clear hg_ hnew_; (first | rw [← Ny159.out] at ho6 | (simp only [Int.reduceToNat] at ho6; rw [← Ny159.out] at ho6)); have HO161 := Aside0.mk (Kd.R_lower ho6 (below_size (xW HB))); replace HO158 := Aside0.mk (Kd.S_below (by (with_reducible repeat (first | apply Kd.S_alloc | apply Kd.S_drewN | apply Kd.S_drew)); exact HO158.out) hb); replace BK155 := Aside0.mk (xB BK155 hb); replace HB := Aside0.mk (xS HB hb); clear hb ho6) | ((with_reducible refine gate_dst (N := 5) rfl ?_); refine Kd.R_lit k103 _ 103 ?hg (N := 5) ?hd (xs := ([(⟨0, 0, 3, false⟩ : S103)] : List (S103))) (inner := [.int .i64 0, .int .i64 0, .int .i64 3, .bool false]) (ok := fun _ => True) (okp := fun _ => True) ?hr ?hp (fun _ hk => hk) trivial (Below.refl _ _) (Nat.le_refl _) (by simp) ?_; (case hd => rfl); (case hg => rfl); (case hr => first | (go_simp; done) | (go_simp; rfl)); (case hp => exact (Reps.c4 (show Kd.M k103 _ _ _ (⟨0, 0, 3, false⟩ : S103) [.int .i64 0, .int .i64 0, .int .i64 3, .bool false] from (k103_mkM _ _ _ (⟨0, 0, 3, false⟩ : S103) )) (Reps.none _ _))); intro v163 w7 ho8 hb hg_ hnew_; clear hg_ hnew_; (first | rw [← Ny162.out] at ho8 | (simp only [Int.reduceToNat] at ho8; rw [← Ny162.out] at ho8)); have HO164 := Aside0.mk (Kd.R_lower ho8 (below_size (xW HB))); replace HO158 := Aside0.mk (Kd.S_below (by (with_reducible repeat (first | apply Kd.S_alloc | apply Kd.S_drewN | apply Kd.S_drew)); exact HO158.out) hb); replace HO161 := Aside0.mk (Kd.R_below (by (with_reducible repeat (first | apply Kd.R_alloc | apply Kd.R_drewN | apply Kd.R_drew)); exact HO161.out) hb); replace BK155 := Aside0.mk (xB BK155 hb); replace HB := Aside0.mk (xS HB hb); clear hb ho8; obtain ⟨Ao9, co9, eo9⟩ := Kd.R_slice HO164.out; subst eo9; obtain ⟨Ao10, co10, eo10⟩ := Kd.R_slice HO161.out; subst eo10; obtain ⟨Ao11, co11, eo11⟩ := Kd.S_slice HO158.out; subst eo11; have hcz12_0 := blkc11 BK155.out))
  refine bodyPost_ret (results_cell_row rfl _ _ gb155 44 #[.string (⟨#[84, 73, 67]⟩ : ByteArray), .int .i64 3, .int .i64 3, .slice Ao11 y156.length co11, .slice Ao10 y159.length co10, .bool false, .bool false, .slice Ao9 y162.length co9, .int .i64 2, .int .i64 0, .int .i64 0] (0, 0) _ rfl (xQ BK155) Try.underlying44 rfl kr_) rfl ?_
  exact ⟨_, _, _, xer, by (with_reducible repeat (first | apply Kd.S_alloc | apply Kd.S_drewN | apply Kd.S_drew)); exact Kd.S_mono (Kd.S_far (p := ⟨gb155, 10, none⟩) (Kd.S_far (p := ⟨gb155, 9, none⟩) (Kd.S_far (p := ⟨gb155, 8, none⟩) (Kd.S_far (p := ⟨gb155, 7, none⟩) (Kd.S_far (p := ⟨gb155, 6, none⟩) (Kd.S_far (p := ⟨gb155, 5, none⟩) (Kd.S_far (p := ⟨gb155, 4, none⟩) (Kd.S_far (p := ⟨gb155, 3, none⟩) (Kd.S_far (p := ⟨gb155, 2, none⟩) (Kd.S_far (p := ⟨gb155, 1, none⟩) (Kd.S_far (p := ⟨gb155, 0, none⟩) (Kd.S_types HO158.out BK155.out (by decide)) (fun _ hk => hk.2) (.string (⟨#[84, 73, 67]⟩ : ByteArray))) (fun _ hk => hk.2) (.int .i64 3)) (fun _ hk => hk.2) (.int .i64 3)) (fun _ hk => hk.2) (.slice Ao11 y156.length co11)) (fun _ hk => hk.2) (.slice Ao10 y159.length co10)) (fun _ hk => hk.2) (.bool false)) (fun _ hk => hk.2) (.bool false)) (fun _ hk => hk.2) (.slice Ao9 y162.length co9)) (fun _ hk => hk.2) (.int .i64 2)) (fun _ hk => hk.2) (.int .i64 0)) (fun _ hk => hk.2) (.int .i64 0)) (fun _ hk => trivial), by (with_reducible repeat (first | apply Kd.R_alloc | apply Kd.R_drewN | apply Kd.R_drew)); exact Kd.R_mono (Kd.R_far (p := ⟨gb155, 10, none⟩) (Kd.R_far (p := ⟨gb155, 9, none⟩) (Kd.R_far (p := ⟨gb155, 8, none⟩) (Kd.R_far (p := ⟨gb155, 7, none⟩) (Kd.R_far (p := ⟨gb155, 6, none⟩) (Kd.R_far (p := ⟨gb155, 5, none⟩) (Kd.R_far (p := ⟨gb155, 4, none⟩) (Kd.R_far (p := ⟨gb155, 3, none⟩) (Kd.R_far (p := ⟨gb155, 2, none⟩) (Kd.R_far (p := ⟨gb155, 1, none⟩) (Kd.R_far (p := ⟨gb155, 0, none⟩) (Kd.R_types HO161.out BK155.out (by decide)) (fun _ hk => hk.2) (.string (⟨#[84, 73, 67]⟩ : ByteArray))) (fun _ hk => hk.2) (.int .i64 3)) (fun _ hk => hk.2) (.int .i64 3)) (fun _ hk => hk.2) (.slice Ao11 y156.length co11)) (fun _ hk => hk.2) (.slice Ao10 y159.length co10)) (fun _ hk => hk.2) (.bool false)) (fun _ hk => hk.2) (.bool false)) (fun _ hk => hk.2) (.slice Ao9 y162.length co9)) (fun _ hk => hk.2) (.int .i64 2)) (fun _ hk => hk.2) (.int .i64 0)) (fun _ hk => hk.2) (.int .i64 0)) (fun _ hk => trivial), by (with_reducible repeat (first | apply Kd.R_alloc | apply Kd.R_drewN | apply Kd.R_drew)); exact Kd.R_mono (Kd.R_far (p := ⟨gb155, 10, none⟩) (Kd.R_far (p := ⟨gb155, 9, none⟩) (Kd.R_far (p := ⟨gb155, 8, none⟩) (Kd.R_far (p := ⟨gb155, 7, none⟩) (Kd.R_far (p := ⟨gb155, 6, none⟩) (Kd.R_far (p := ⟨gb155, 5, none⟩) (Kd.R_far (p := ⟨gb155, 4, none⟩) (Kd.R_far (p := ⟨gb155, 3, none⟩) (Kd.R_far (p := ⟨gb155, 2, none⟩) (Kd.R_far (p := ⟨gb155, 1, none⟩) (Kd.R_far (p := ⟨gb155, 0, none⟩) (Kd.R_types HO164.out BK155.out (by decide)) (fun _ hk => hk.2) (.string (⟨#[84, 73, 67]⟩ : ByteArray))) (fun _ hk => hk.2) (.int .i64 3)) (fun _ hk => hk.2) (.int .i64 3)) (fun _ hk => hk.2) (.slice Ao11 y156.length co11)) (fun _ hk => hk.2) (.slice Ao10 y159.length co10)) (fun _ hk => hk.2) (.bool false)) (fun _ hk => hk.2) (.bool false)) (fun _ hk => hk.2) (.slice Ao9 y162.length co9)) (fun _ hk => hk.2) (.int .i64 2)) (fun _ hk => hk.2) (.int .i64 0)) (fun _ hk => hk.2) (.int .i64 0)) (fun _ hk => trivial), xW HB⟩
 ·exact absurd (by decide) c1

end Go.Proofs.Ytemfkhafkhkffaa.PPatternCuts
