-- Printed by a program of this claim's writer (wip/ext): an extension of the kit's print.
import Derived.Test.YtkpphlimnnifkaaPClaimFallsx0
import Derived.Test.YtkpphlimnnifkaaPClaimFallsx2
namespace Go.Proofs.Ytkpphlimnnifkaa.PClaimFalls
open Go.RowKit Go.Proofs.YtkpphlimnnifkaaW.PrintWords Go.Proofs.YtkpphlimnnifkaaW.PrintLast Go.Proofs.YtkpphlimnnifkaaW.PrintMore
set_option maxHeartbeats 8000000
set_option maxRecDepth 100000
attribute [local go_sem] max2_int min2_int max_two min_two max_three min_three max_four min_four   -- for this text's walks alone
set_option linter.unusedVariables false
set_option linter.unusedSimpArgs false

/-! ### rules_pieces: function 68 -/
mutual
def rules_pieces.l0 : Nat → List (S104) → List (S104) → Int → Int → Option (Int)
  | 0, _, _, _, _ => none
  | k + 1, x0, x18, x19, x20 => if x20 < x19 then (if 0 ≤ x20 then (if x20 < (x18.length : Int) then (if ((rd_T104 x18 x20).f0) < 65 then (rules_pieces.j1 k x0 x20 x18 x19 x20 true ((rd_T104 x18 x20).f0) ((rd_T104 x18 x20).f1) ((rd_T104 x18 x20).f2) ((rd_T104 x18 x20).f3)) else (rules_pieces.j1 k x0 x20 x18 x19 x20 (decide (((rd_T104 x18 x20).f0) > 90)) ((rd_T104 x18 x20).f0) ((rd_T104 x18 x20).f1) ((rd_T104 x18 x20).f2) ((rd_T104 x18 x20).f3))) else (none)) else (none)) else (some 0)
def rules_pieces.j1 : Nat → List (S104) → Int → List (S104) → Int → Int → Bool → Int → Int → Int → List (S106) → Option (Int)
  | 0, _, _, _, _, _, _, _, _, _, _ => none
  | k + 1, x0, x3, x18, x19, x20, x32, z124a, z124b, z124c, z124d => if x32 = true then (some 6) else (if 0 ≤ x3 then (if x3 ≤ (x0.length : Int) then ((some (x0.take (x3 : Int).toNat : List (S104))).bind fun y124 => (rules_pieces.l1 k x0 x18 x19 x20 y124 (y124.length : Int) 0 z124a z124b z124c z124d)) else (none)) else (none))
def rules_pieces.l1 : Nat → List (S104) → List (S104) → Int → Int → List (S104) → Int → Int → Int → Int → Int → List (S106) → Option (Int)
  | 0, _, _, _, _, _, _, _, _, _, _, _ => none
  | k + 1, x0, x18, x19, x20, x35, x36, x37, z124a, z124b, z124c, z124d => if x37 < x36 then (if 0 ≤ x37 then (if x37 < (x35.length : Int) then (if ((rd_T104 x35 x37).f0) = z124a then (some 7) else (rules_pieces.l1 k x0 x18 x19 x20 x35 x36 (wrap64 (x37 + 1)) z124a z124b z124c z124d)) else (none)) else (none)) else (if z124b < 0 then (rules_pieces.j3 k x0 x18 x19 x20 true z124a z124b z124c z124d) else (if z124b > 64 then (rules_pieces.j3 k x0 x18 x19 x20 true z124a z124b z124c z124d) else (if z124c < 0 then (rules_pieces.j3 k x0 x18 x19 x20 true z124a z124b z124c z124d) else (rules_pieces.j3 k x0 x18 x19 x20 (decide (z124c > (x0.length : Int))) z124a z124b z124c z124d))))
def rules_pieces.j3 : Nat → List (S104) → List (S104) → Int → Int → Bool → Int → Int → Int → List (S106) → Option (Int)
  | 0, _, _, _, _, _, _, _, _, _ => none
  | k + 1, x0, x18, x19, x20, x66, z124a, z124b, z124c, z124d => if x66 = true then (some 4) else (if (z124d.length : Int) > 16 then (some 2) else (rules_pieces.l2 k x0 x18 x19 x20 z124d (z124d.length : Int) 0))
def rules_pieces.l2 : Nat → List (S104) → List (S104) → Int → Int → List (S106) → Int → Int → Option (Int)
  | 0, _, _, _, _, _, _, _ => none
  | k + 1, x0, x18, x19, x20, x72, x73, x74 => if x74 < x73 then (if 0 ≤ x74 then (if x74 < (x72.length : Int) then ((rules_way.f ((rd_T106 x72 x74).f0) ((rd_T106 x72 x74).f1) ((rd_T106 x72 x74).f2) ((rd_T106 x72 x74).f3)).bind fun t132 => (if t132 = 0 then (rules_pieces.l2 k x0 x18 x19 x20 x72 x73 (wrap64 (x74 + 1))) else (some t132))) else (none)) else (none)) else (rules_pieces.l0 k x0 x18 x19 (wrap64 (x20 + 1)))
end
def rules_pieces.f (k : Nat) (l0 : List (S104)) : Option (Int) := if (l0.length : Int) = 0 then (some 8) else (if (l0.length : Int) > 6 then (some 2) else (rules_pieces.l0 k l0 l0 (l0.length : Int) 0))
theorem rules_pieces.mono_l : ∀ k, LM (LM (LM (LM (LeO)))) (rules_pieces.l0 k) (rules_pieces.l0 (k + 1)) ∧ L10 (LeO) (rules_pieces.j1 k) (rules_pieces.j1 (k + 1)) ∧ L10 (LM (LeO)) (rules_pieces.l1 k) (rules_pieces.l1 (k + 1)) ∧ L5 (LM (LM (LM (LM (LeO))))) (rules_pieces.j3 k) (rules_pieces.j3 (k + 1)) ∧ L5 (LM (LM (LeO))) (rules_pieces.l2 k) (rules_pieces.l2 (k + 1))
  | 0 => by refine ⟨?_, ?_, ?_, ?_, ?_⟩ <;> (repeat (first | exact LeO.none _ | intro _))
  | k + 1 => by
    obtain ⟨ih0, ih1, ih2, ih3, ih4⟩ := rules_pieces.mono_l k; refine ⟨?_, ?_, ?_, ?_, ?_⟩ <;> ((repeat (first | (with_reducible refine LeO.st ?_) | intro _)); constructor; (first | unfold rules_pieces.l0 | unfold rules_pieces.j1 | unfold rules_pieces.l1 | unfold rules_pieces.j3 | unfold rules_pieces.l2); repeat' first | (with_reducible first | apply ih0 | apply ih1 | apply ih2 | apply ih3 | apply ih4 | exact LeO.refl _ | exact LeO.none _ | refine LeO.ite ?_ ?_ | refine LeO.bind ?_ (fun _ => ?_)) | apply ih0 | apply ih1 | apply ih2 | apply ih3 | apply ih4 | exact LeO.none _ | refine LeO.ite ?_ ?_ | refine LeO.bind ?_ (fun _ => ?_))
theorem rules_pieces.mono : ∀ a0 k, LeO (rules_pieces.f k a0) (rules_pieces.f (k + 1) a0) := by
  intros; rename_i k; obtain ⟨ih0, ih1, ih2, ih3, ih4⟩ := rules_pieces.mono_l k
  unfold rules_pieces.f
  repeat' first | (with_reducible first | apply ih0 | apply ih1 | apply ih2 | apply ih3 | apply ih4 | exact LeO.refl _ | exact LeO.none _ | refine LeO.ite ?_ ?_ | refine LeO.bind ?_ (fun _ => ?_)) | apply ih0 | apply ih1 | apply ih2 | apply ih3 | apply ih4 | exact LeO.none _ | refine LeO.ite ?_ ?_ | refine LeO.bind ?_ (fun _ => ?_)
theorem rules_pieces.calls (k : Nat) (A0 : Option Addr) (c0 : Nat) (l0 : List (S104)) (r : Int) (w : World) (hr0 : Kd.C k104 w A0 l0.length l0) (hc0 : l0.length ≤ c0) (h : rules_pieces.f k l0 = some r) :
    Calls Try.prog 68 #[.slice A0 l0.length c0] w fun e w' => e = .returned (.int .i64 r) ∧ Below w.heap.size w w' := by
 have hu104 := Try.underlying104; have hu106 := Try.underlying106; have HR0 := xm hr0; have HC0 := xm hc0; clear hr0 hc0; have HB := xm (Below.refl w.heap.size w); have hss_ := @isSome_setCell; have H : (if (l0.length : Int) = 0 then (some 8) else (if (l0.length : Int) > 6 then (some 2) else (rules_pieces.l0 k l0 l0 (l0.length : Int) 0))) = some r := h; clear h
 by_cases c2 : (l0.length : Int) = 0
 ·rw [if_pos c2] at H; have c2b0 := beq_iff_eq.mpr c2; have c2b1 := bne_eq_false_iff_eq.mpr c2; clear c2; obtain rfl := Option.some.inj H; go_enter Try.func68, Try.ntmps68
  go_wp2
  go_ret; exact ⟨xer, xW HB⟩
 ·rw [if_neg c2] at H; have c2b0 := beq_eq_false_iff_ne.mpr c2; have c2b1 := bne_iff_ne.mpr c2; have c2b2 : ¬ (l0 = []) := fun h_ => c2 (by rw [h_]; rfl)
  by_cases c3 : (l0.length : Int) > 6
  ·rw [if_pos c3] at H; have c3b0 := decide_eq_true c3; have c3b1 : decide (6 < l0.length) = true := decide_eq_true (by omega); clear c3; obtain rfl := Option.some.inj H; go_enter Try.func68, Try.ntmps68
   go_wp2
   go_ret; exact ⟨xer, xW HB⟩
  ·rw [if_neg c3] at H; have c3b0 := decide_eq_false c3; have c3b1 : decide (6 < l0.length) = false := decide_eq_false (by omega); clear c3; have H' := xm H; clear H; go_enter Try.func68, Try.ntmps68
   go_wp2
   go_loopg [20] k (fun kq vs20 w' => ∃ (x20_1 : Int), vs20 = .int .i64 x20_1 ∧ Aside0 (rules_pieces.l0 kq l0 l0 (l0.length : Int) x20_1 = some r) ∧ Aside0 (kq ≤ k) ∧ Aside0 (Below w.heap.size w w'))
   case atStart => exact ⟨(0), (xrf), H', ⟨Nat.le_refl _⟩, ⟨xW HB⟩⟩
   case round =>
    clear H'; (try clear p2); obtain ⟨x20_1, rfl, HA, HK1, HB⟩ := hrel
    cases gk with
    | zero => exact absurd HA.out (by simp [rules_pieces.l0])
    | succ k1 =>
     have H := HA.out; clear HA; simp only [rules_pieces.l0] at H
     by_cases c4 : x20_1 < (l0.length : Int)
     ·rw [if_pos c4] at H; have c4b0 := decide_eq_true c4; clear c4; obtain ⟨c5b0, H⟩ := xJ H; obtain ⟨c6b0, H⟩ := xJ H; have HC7 := xm H; clear H; have p122 : 0 ≤ (x20_1 : Int) := xO; have q122 : x20_1 < (l0.length : Int) := xO; obtain ⟨ad122, A122_3, c122_3, e122, hx122_0, hx122_1, hx122_2, hx122_3, hl122_3, hi122_3⟩ := at_T104 HR0.out x20_1 p122 q122
      cases e122
      replace hx122_0 := xR HB hx122_0; replace hx122_1 := xR HB hx122_1; replace hx122_2 := xR HB hx122_2; replace hx122_3 := xR HB hx122_3; have HR122_3 := xm hi122_3; have HC122_3 := xm hl122_3; clear hi122_3 hl122_3; replace p122 := eq_true p122; replace q122 := eq_true q122
      go_upto_region 8 with (first | ((with_reducible refine gate_dst (N := 4) rfl ?_); (try (refine gate_guard (by rfl) ?_; dsimp only)); refine xG (cs := #[.int .u8 0, .int .i64 0, .int .i64 0, .slice none 0 0]) (t := 104) ?_; intro gb123 hg w8 hbox hb; have BK123 := xm (hbox); have GW123 := xZ HB hg; have GE123 := xZ HB hg; replace HB := xS HB hb; clear hb hbox hg; have hcz9_0 := blkc4 BK123.out))
      (try simp only [Act.put, List.setIfInBounds_toArray, List.set_cons_zero, List.set_cons_succ])
      go_cut [32] (fun vs32 wc => ∃ (kq : Nat) (x32_6 : Bool), vs32 = .bool x32_6 ∧ Aside0 (rules_pieces.j1 kq l0 x20_1 l0 (l0.length : Int) x20_1 x32_6 ((rd_T104 l0 x20_1).f0) ((rd_T104 l0 x20_1).f1) ((rd_T104 l0 x20_1).f2) ((rd_T104 l0 x20_1).f3) = some r) ∧ Aside0 (kq ≤ k1) ∧ Aside0 (wc.heap[gb123]? = some (.cells #[.int .u8 ((rd_T104 l0 x20_1).f0), .int .i64 ((rd_T104 l0 x20_1).f1), .int .i64 ((rd_T104 l0 x20_1).f2), (.slice A122_3 ((rd_T104 l0 x20_1).f3).length c122_3)] 104 (0, 0))) ∧ Aside0 (Below w.heap.size w wc))
      case first =>
       have H := HC7.out; clear HC7
       by_cases c10 : ((rd_T104 l0 x20_1).f0) < 65
       ·rw [if_pos c10] at H; have c10b0 := decide_eq_true c10; clear c10
        (first | rw [c10b0] | (simp only [i64_w, i32_w]; rw [c10b0]) | skip)
        have H' := xm H; clear H; have hcz11_0 := blkc4 BK123.out
        go_wp2
        go_meet
        case rel => exact ⟨_, (true), (xrf), H', ⟨by have := HK1.out; first | omega | exact Nat.le_refl _⟩, ⟨xQ BK123⟩, ⟨xW HB⟩⟩
       ·rw [if_neg c10] at H; have c10b0 := decide_eq_false c10; clear c10
        (first | rw [c10b0] | (simp only [i64_w, i32_w]; rw [c10b0]) | skip)
        have H' := xm H; clear H; have hcz12_0 := blkc4 BK123.out
        go_wp2
        go_meet
        case rel => exact ⟨_, (decide (((rd_T104 l0 x20_1).f0) > 90)), (xrf), H', ⟨by have := HK1.out; first | omega | exact Nat.le_refl _⟩, ⟨xQ BK123⟩, ⟨xW HB⟩⟩
      case rest =>
       clear HC7; (try clear p1); (try clear q1); (try clear hx1); (try clear p2); (try clear p12); (try clear q12); (try clear hx12); (try clear hx122_0); (try clear hx122_1); (try clear hx122_2); (try clear hx122_3); (try clear p122); (try clear q122); obtain ⟨kq, x32_6, rfl, HA, HJ6, BK123, HB⟩ := hcut
       cases kq with
       | zero => exact absurd HA.out (by simp [rules_pieces.j1])
       | succ kj6 =>
        have H := HA.out; clear HA; simp only [rules_pieces.j1] at H
        by_cases c13 : x32_6 = true
        ·subst c13; rw [if_pos rfl] at H; obtain rfl := Option.some.inj H
         go_wp2
         go_ret; exact ⟨xer, xW HB⟩
        ·obtain rfl := Bool.eq_false_iff.mpr c13; rw [if_neg xF] at H; obtain ⟨c14, H⟩ := xI H; have c14b0 := eq_true c14; have c14b1 := decide_eq_true c14; clear c14; obtain ⟨c15, H⟩ := xI H; have c15b0 := eq_true c15; have c15b1 := decide_eq_true c15; clear c15; obtain ⟨y124, hy124⟩ : ∃ y_ : List (S104), y_ = (l0.take (x20_1 : Int).toNat) := ⟨_, rfl⟩
         replace H : (rules_pieces.l1 kj6 l0 l0 (l0.length : Int) x20_1 y124 (y124.length : Int) 0 ((rd_T104 l0 x20_1).f0) ((rd_T104 l0 x20_1).f1) ((rd_T104 l0 x20_1).f2) ((rd_T104 l0 x20_1).f3)) = some r := by first | (rw [hy124]; with_reducible exact H) | (have H2_ := (Option.bind_some _ _).symm.trans H; rw [hy124]; with_reducible exact H2_) | (have H2_ := (Option.bind_some _ _).symm.trans H; with_reducible exact H2_) | with_reducible exact H | (rw [hy124]; exact H) | exact H
         have Ny124 := xm hy124; clear hy124; have H' := xm H; clear H; have q16 : (x20_1 : Int) ≤ ((l0.length : Int) : Int) := xO; obtain ⟨i016, hi016, _, hsz16, _⟩ := info_parts info104; have hroom16 : l0.length ≤ c0 := HC0.out; have hC16 : Kd.C k104 _ (some ad122) l0.length l0 := HR0.out; have hcut16 := cut_to (P := Try.prog) 22 104 .i64 Try.underlying22 hi016 (some ad122) l0.length c0 x20_1 (xO) q16 hroom16; have hr16 := Kd.C_take (m := (x20_1 : Int).toNat) hC16 (by omega); have hy16 : y124.length = (x20_1 : Int).toNat := (by rw [Ny124.out, List.length_take]; omega)
         rw [← Ny124.out] at hr16; rw [← hy16] at hcut16; have HR127 := xm hr16; have HC127 := xm (show y124.length ≤ c0 from by omega); clear hr16 hC16 hroom16 hi016 hsz16; have KY16 := xm hy16; clear hy16; replace q16 := eq_true q16
         go_wp2
         go_loopg [37] kj6 (fun kq vs37 w' => ∃ (x37_3 : Int), vs37 = .int .i64 x37_3 ∧ Aside0 (rules_pieces.l1 kq l0 l0 (l0.length : Int) x20_1 y124 (y124.length : Int) x37_3 ((rd_T104 l0 x20_1).f0) ((rd_T104 l0 x20_1).f1) ((rd_T104 l0 x20_1).f2) ((rd_T104 l0 x20_1).f3) = some r) ∧ Aside0 (kq ≤ kj6) ∧ Aside0 (w'.heap[gb123]? = some (.cells #[.int .u8 ((rd_T104 l0 x20_1).f0), .int .i64 ((rd_T104 l0 x20_1).f1), .int .i64 ((rd_T104 l0 x20_1).f2), (.slice A122_3 ((rd_T104 l0 x20_1).f3).length c122_3)] 104 (0, 0))) ∧ Aside0 (Below w.heap.size w w'))
         case atStart => exact ⟨(0), (xrf), H', ⟨Nat.le_refl _⟩, ⟨xK BK123⟩, ⟨xW HB⟩⟩
         case round =>
          clear H'; (try clear p1); (try clear q1); (try clear hx1); (try clear p2); (try clear p12); (try clear q12); (try clear hx12); (try clear q16); (try clear hx122_0); (try clear hx122_1); (try clear hx122_2); (try clear hx122_3); (try clear p122); (try clear q122); obtain ⟨x37_3, rfl, HA, HK3, BK123, HB⟩ := hrel
          cases gk with
          | zero => exact absurd HA.out (by simp [rules_pieces.l1])
          | succ k3 =>
           have H := HA.out; clear HA; simp only [rules_pieces.l1] at H
           by_cases c17 : x37_3 < (y124.length : Int)
           ·rw [if_pos c17] at H; have c17b0 := decide_eq_true c17; clear c17; obtain ⟨c18b0, H⟩ := xJ H; obtain ⟨c19b0, H⟩ := xJ H
            by_cases c20 : ((rd_T104 y124 x37_3).f0) = ((rd_T104 l0 x20_1).f0)
            ·rw [if_pos c20] at H; have c20b0 := beq_iff_eq.mpr c20; have c20b1 := bne_eq_false_iff_eq.mpr c20; clear c20; obtain rfl := Option.some.inj H; have p128 : 0 ≤ (x37_3 : Int) := xO; have q128 : x37_3 < (y124.length : Int) := xO; obtain ⟨ad128, A128_3, c128_3, e128, hx128_0, hx128_1, hx128_2, hx128_3, hl128_3, hi128_3⟩ := at_T104 HR127.out x37_3 p128 q128; obtain rfl : ad122 = ad128 := (by injection e128)
             replace hx128_0 := xR HB hx128_0; replace hx128_1 := xR HB hx128_1; replace hx128_2 := xR HB hx128_2; replace hx128_3 := xR HB hx128_3; have HR128_3 := xm hi128_3; have HC128_3 := xm hl128_3; clear hi128_3 hl128_3; replace p128 := eq_true p128; replace q128 := eq_true q128; go_wp2_with (first | ((with_reducible refine gate_dst (N := 6) rfl ?_); (try (refine gate_guard (by rfl) ?_; dsimp only)); refine xG (cs := #[.int .u8 0, .int .i64 0, .int .i64 0, .slice none 0 0]) (t := 104) ?_; intro gb129 hg w21 hbox hb; have BK129 := xm (hbox); have GW129 := xZ HB hg; have GE129 := xZ HB hg; have NB123_129 := xN BK123 hg; have NB129_123 := xM BK123 hg; replace BK123 := xB BK123 hb; replace HB := xS HB hb; clear hb hbox hg; have hnb22 := NB129_123.out; have hnc22 := NB123_129.out; have hcz23_0 := blkc4 BK129.out; have hcz24_0 := blkc4 BK123.out)); go_ret; exact ⟨xer, xW HB⟩
            ·rw [if_neg c20] at H; have c20b0 := beq_eq_false_iff_ne.mpr c20; have c20b1 := bne_iff_ne.mpr c20; have H' := xm H; clear H; have p128 : 0 ≤ (x37_3 : Int) := xO; have q128 : x37_3 < (y124.length : Int) := xO; obtain ⟨ad128, A128_3, c128_3, e128, hx128_0, hx128_1, hx128_2, hx128_3, hl128_3, hi128_3⟩ := at_T104 HR127.out x37_3 p128 q128; obtain rfl : ad122 = ad128 := (by injection e128)
             replace hx128_0 := xR HB hx128_0; replace hx128_1 := xR HB hx128_1; replace hx128_2 := xR HB hx128_2; replace hx128_3 := xR HB hx128_3; have HR128_3 := xm hi128_3; have HC128_3 := xm hl128_3; clear hi128_3 hl128_3; replace p128 := eq_true p128; replace q128 := eq_true q128; go_wp2_with (first | ((with_reducible refine gate_dst (N := 6) rfl ?_); (try (refine gate_guard (by rfl) ?_; dsimp only)); refine xG (cs := #[.int .u8 0, .int .i64 0, .int .i64 0, .slice none 0 0]) (t := 104) ?_; intro gb129 hg w25 hbox hb; have BK129 := xm (hbox); have GW129 := xZ HB hg; have GE129 := xZ HB hg; have NB123_129 := xN BK123 hg; have NB129_123 := xM BK123 hg; replace BK123 := xB BK123 hb; replace HB := xS HB hb; clear hb hbox hg; have hnb26 := NB129_123.out; have hnc26 := NB123_129.out; have hcz27_0 := blkc4 BK129.out; have hcz28_0 := blkc4 BK123.out)); go_roundg k3
             case measure => have := HK1.out; have := HJ6.out; have := HK3.out; omega
             case rel => exact ⟨(wrap64 (x37_3 + 1)), (xrf), H', ⟨by have := HK1.out; have := HJ6.out; have := HK3.out; omega⟩, ⟨xK BK123⟩, ⟨xW HB⟩⟩
           ·rw [if_neg c17] at H; have c17b0 := decide_eq_false c17; clear c17; have HC29 := xm H; clear H
            go_upto_region 16 with (fail)
            go_cut [66] (fun vs66 wc => ∃ (kq : Nat) (x66_28 : Bool), vs66 = .bool x66_28 ∧ Aside0 (rules_pieces.j3 kq l0 l0 (l0.length : Int) x20_1 x66_28 ((rd_T104 l0 x20_1).f0) ((rd_T104 l0 x20_1).f1) ((rd_T104 l0 x20_1).f2) ((rd_T104 l0 x20_1).f3) = some r) ∧ Aside0 (kq ≤ k3) ∧ Aside0 (wc.heap[gb123]? = some (.cells #[.int .u8 ((rd_T104 l0 x20_1).f0), .int .i64 ((rd_T104 l0 x20_1).f1), .int .i64 ((rd_T104 l0 x20_1).f2), (.slice A122_3 ((rd_T104 l0 x20_1).f3).length c122_3)] 104 (0, 0))) ∧ Aside0 (Below w.heap.size w wc))
            case first =>
             have H := HC29.out; clear HC29
             by_cases c30 : ((rd_T104 l0 x20_1).f1) < 0
             ·rw [if_pos c30] at H; have c30b0 := decide_eq_true c30; clear c30
              (first | rw [c30b0] | (simp only [i64_w, i32_w]; rw [c30b0]) | skip)
              have H' := xm H; clear H; have hcz31_0 := blkc4 BK123.out
              go_wp2
              go_meet
              case rel => exact ⟨_, (true), (xrf), H', ⟨by have := HK1.out; have := HJ6.out; have := HK3.out; first | omega | exact Nat.le_refl _⟩, ⟨xK BK123⟩, ⟨xW HB⟩⟩
             ·rw [if_neg c30] at H; have c30b0 := decide_eq_false c30; clear c30
              (first | rw [c30b0] | (simp only [i64_w, i32_w]; rw [c30b0]) | skip)
              by_cases c32 : ((rd_T104 l0 x20_1).f1) > 64
              ·rw [if_pos c32] at H; have c32b0 := decide_eq_true c32; clear c32; have H' := xm H; clear H; have hcz33_0 := blkc4 BK123.out
               go_wp2
               go_meet
               case rel => exact ⟨_, (true), (xrf), H', ⟨by have := HK1.out; have := HJ6.out; have := HK3.out; first | omega | exact Nat.le_refl _⟩, ⟨xK BK123⟩, ⟨xW HB⟩⟩
              ·rw [if_neg c32] at H; have c32b0 := decide_eq_false c32; clear c32
               by_cases c34 : ((rd_T104 l0 x20_1).f2) < 0
               ·rw [if_pos c34] at H; have c34b0 := decide_eq_true c34; clear c34; have H' := xm H; clear H; have hcz35_0 := blkc4 BK123.out
                go_wp2
                go_meet
                case rel => exact ⟨_, (true), (xrf), H', ⟨by have := HK1.out; have := HJ6.out; have := HK3.out; first | omega | exact Nat.le_refl _⟩, ⟨xK BK123⟩, ⟨xW HB⟩⟩
               ·rw [if_neg c34] at H; have c34b0 := decide_eq_false c34; clear c34; have H' := xm H; clear H; have hcz36_0 := blkc4 BK123.out
                go_wp2
                go_meet
                case rel => exact ⟨_, (decide (((rd_T104 l0 x20_1).f2) > (l0.length : Int))), (xrf), H', ⟨by have := HK1.out; have := HJ6.out; have := HK3.out; first | omega | exact Nat.le_refl _⟩, ⟨xK BK123⟩, ⟨xW HB⟩⟩
            case rest =>
             clear HC29; (try clear p1); (try clear q1); (try clear hx1); (try clear p2); (try clear p6); (try clear p12); (try clear q12); (try clear hx12); (try clear q16); (try clear hx122_0); (try clear hx122_1); (try clear hx122_2); (try clear hx122_3); (try clear hx128_0); (try clear hx128_1); (try clear hx128_2); (try clear hx128_3); (try clear p122); (try clear p128); (try clear q122); (try clear q128); obtain ⟨kq, x66_28, rfl, HA, HJ28, BK123, HB⟩ := hcut
             cases kq with
             | zero => exact absurd HA.out (by simp [rules_pieces.j3])
             | succ kj28 =>
              have H := HA.out; clear HA; simp only [rules_pieces.j3] at H
              by_cases c37 : x66_28 = true
              ·subst c37; rw [if_pos rfl] at H; obtain rfl := Option.some.inj H
               go_wp2
               go_ret; exact ⟨xer, xW HB⟩
              ·obtain rfl := Bool.eq_false_iff.mpr c37; rw [if_neg xF] at H
               by_cases c38 : (((rd_T104 l0 x20_1).f3).length : Int) > 16
               ·rw [if_pos c38] at H; have c38b0 := decide_eq_true c38; have c38b1 : decide (16 < ((rd_T104 l0 x20_1).f3).length) = true := decide_eq_true (by omega); clear c38; obtain rfl := Option.some.inj H; have hcz39_0 := blkc4 BK123.out
                go_wp2
                go_ret; exact ⟨xer, xW HB⟩
               ·rw [if_neg c38] at H; have c38b0 := decide_eq_false c38; have c38b1 : decide (16 < ((rd_T104 l0 x20_1).f3).length) = false := decide_eq_false (by omega); clear c38; have H' := xm H; clear H; have hcz40_0 := blkc4 BK123.out
                go_wp2
                go_loopg [74] kj28 (fun kq vs74 w' => ∃ (x74_5 : Int), vs74 = .int .i64 x74_5 ∧ Aside0 (rules_pieces.l2 kq l0 l0 (l0.length : Int) x20_1 ((rd_T104 l0 x20_1).f3) (((rd_T104 l0 x20_1).f3).length : Int) x74_5 = some r) ∧ Aside0 (kq ≤ kj28) ∧ Aside0 (w'.heap[gb123]? = some (.cells #[.int .u8 ((rd_T104 l0 x20_1).f0), .int .i64 ((rd_T104 l0 x20_1).f1), .int .i64 ((rd_T104 l0 x20_1).f2), (.slice A122_3 ((rd_T104 l0 x20_1).f3).length c122_3)] 104 (0, 0))) ∧ Aside0 (Below w.heap.size w w'))
                case atStart => exact ⟨(0), (xrf), H', ⟨Nat.le_refl _⟩, ⟨xK BK123⟩, ⟨xW HB⟩⟩
                case round =>
                 clear H'; (try clear p1); (try clear q1); (try clear hx1); (try clear p2); (try clear p6); (try clear p12); (try clear q12); (try clear hx12); (try clear q16); (try clear hx122_0); (try clear hx122_1); (try clear hx122_2); (try clear hx122_3); (try clear hx128_0); (try clear hx128_1); (try clear hx128_2); (try clear hx128_3); (try clear p122); (try clear p128); (try clear q122); (try clear q128); obtain ⟨x74_5, rfl, HA, HK5, BK123, HB⟩ := hrel
                 cases gk with
                 | zero => exact absurd HA.out (by simp [rules_pieces.l2])
                 | succ k5 =>
                  have H := HA.out; clear HA; simp only [rules_pieces.l2] at H
                  by_cases c41 : x74_5 < (((rd_T104 l0 x20_1).f3).length : Int)
                  ·rw [if_pos c41] at H; have c41b0 := decide_eq_true c41; clear c41; obtain ⟨c42b0, H⟩ := xJ H; obtain ⟨c43b0, H⟩ := xJ H; obtain ⟨t132, A44, H⟩ := xH H; (try dsimp only at H)
                   by_cases c45 : t132 = 0
                   ·rw [if_pos c45] at H; have c45b0 := beq_iff_eq.mpr c45; have c45b1 := bne_eq_false_iff_eq.mpr c45; clear c45; have H' := xm H; clear H; have p130 : 0 ≤ (x74_5 : Int) := xO; have q130 : x74_5 < (((rd_T104 l0 x20_1).f3).length : Int) := xO; obtain ⟨ad130, e130, hx130_0, hx130_1, hx130_2, hx130_3⟩ := at_T106 HR122_3.out x74_5 p130 q130
                    cases e130
                    replace hx130_0 := xR HB hx130_0; replace hx130_1 := xR HB hx130_1; replace hx130_2 := xR HB hx130_2; replace hx130_3 := xR HB hx130_3; replace p130 := eq_true p130; replace q130 := eq_true q130; go_wp2_with (first | ((with_reducible refine gate_dst (N := 8) rfl ?_); (try (refine gate_guard (by rfl) ?_; dsimp only)); refine xG (cs := #[.int .i64 0, .int .i64 0, .int .i64 0, .int .i64 0]) (t := 106) ?_; intro gb131 hg w46 hbox hb; have BK131 := xm (hbox); have GW131 := xZ HB hg; have GE131 := xZ HB hg; have NB123_131 := xN BK123 hg; have NB131_123 := xM BK123 hg; replace BK123 := xB BK123 hb; replace HB := xS HB hb; clear hb hbox hg; have hnb47 := NB131_123.out; have hnc47 := NB123_131.out; have hcz48_0 := blkc4 BK131.out) | ((with_reducible refine gate_callee (f := 85) rfl ?_); refine xL (some 79) Try.func85 #[.agg #[.int .i64 ((rd_T106 ((rd_T104 l0 x20_1).f3) x74_5).f0), .int .i64 ((rd_T106 ((rd_T104 l0 x20_1).f3) x74_5).f1), .int .i64 ((rd_T106 ((rd_T104 l0 x20_1).f3) x74_5).f2), .int .i64 ((rd_T106 ((rd_T104 l0 x20_1).f3) x74_5).f3)]] rfl ?_; (with_reducible refine (rules_way.calls ((rd_T106 ((rd_T104 l0 x20_1).f3) x74_5).f0) ((rd_T106 ((rd_T104 l0 x20_1).f3) x74_5).f1) ((rd_T106 ((rd_T104 l0 x20_1).f3) x74_5).f2) ((rd_T106 ((rd_T104 l0 x20_1).f3) x74_5).f3) t132 _ A44.out).mono ?_); rintro e w49 ⟨rfl, hb⟩; refine ⟨_, rfl, ?_⟩; replace BK123 := xB BK123 hb; replace BK131 := xm (xP (l' := [.int .i64 ((rd_T106 ((rd_T104 l0 x20_1).f3) x74_5).f0), .int .i64 ((rd_T106 ((rd_T104 l0 x20_1).f3) x74_5).f1), .int .i64 ((rd_T106 ((rd_T104 l0 x20_1).f3) x74_5).f2), .int .i64 ((rd_T106 ((rd_T104 l0 x20_1).f3) x74_5).f3)]) BK131 hb); replace HB := xS HB hb; (try clear hb); (try clear hb2); (try clear hk); (try clear hi))); go_roundg k5
                    case measure => have := HK1.out; have := HJ6.out; have := HK3.out; have := HJ28.out; have := HK5.out; omega
                    case rel => exact ⟨(wrap64 (x74_5 + 1)), (xrf), H', ⟨by have := HK1.out; have := HJ6.out; have := HK3.out; have := HJ28.out; have := HK5.out; omega⟩, ⟨xK BK123⟩, ⟨xW HB⟩⟩
                   ·rw [if_neg c45] at H; have c45b0 := beq_eq_false_iff_ne.mpr c45; have c45b1 := bne_iff_ne.mpr c45; obtain rfl := Option.some.inj H; have p130 : 0 ≤ (x74_5 : Int) := xO; have q130 : x74_5 < (((rd_T104 l0 x20_1).f3).length : Int) := xO; obtain ⟨ad130, e130, hx130_0, hx130_1, hx130_2, hx130_3⟩ := at_T106 HR122_3.out x74_5 p130 q130
                    cases e130
                    replace hx130_0 := xR HB hx130_0; replace hx130_1 := xR HB hx130_1; replace hx130_2 := xR HB hx130_2; replace hx130_3 := xR HB hx130_3; replace p130 := eq_true p130; replace q130 := eq_true q130; go_wp2_with (first | ((with_reducible refine gate_dst (N := 8) rfl ?_); (try (refine gate_guard (by rfl) ?_; dsimp only)); refine xG (cs := #[.int .i64 0, .int .i64 0, .int .i64 0, .int .i64 0]) (t := 106) ?_; intro gb131 hg w50 hbox hb; have BK131 := xm (hbox); have GW131 := xZ HB hg; have GE131 := xZ HB hg; have NB123_131 := xN BK123 hg; have NB131_123 := xM BK123 hg; replace BK123 := xB BK123 hb; replace HB := xS HB hb; clear hb hbox hg; have hnb51 := NB131_123.out; have hnc51 := NB123_131.out; have hcz52_0 := blkc4 BK131.out) | ((with_reducible refine gate_callee (f := 85) rfl ?_); refine xL (some 79) Try.func85 #[.agg #[.int .i64 ((rd_T106 ((rd_T104 l0 x20_1).f3) x74_5).f0), .int .i64 ((rd_T106 ((rd_T104 l0 x20_1).f3) x74_5).f1), .int .i64 ((rd_T106 ((rd_T104 l0 x20_1).f3) x74_5).f2), .int .i64 ((rd_T106 ((rd_T104 l0 x20_1).f3) x74_5).f3)]] rfl ?_; (with_reducible refine (rules_way.calls ((rd_T106 ((rd_T104 l0 x20_1).f3) x74_5).f0) ((rd_T106 ((rd_T104 l0 x20_1).f3) x74_5).f1) ((rd_T106 ((rd_T104 l0 x20_1).f3) x74_5).f2) ((rd_T106 ((rd_T104 l0 x20_1).f3) x74_5).f3) t132 _ A44.out).mono ?_); rintro e w53 ⟨rfl, hb⟩; refine ⟨_, rfl, ?_⟩; replace BK123 := xB BK123 hb; replace BK131 := xm (xP (l' := [.int .i64 ((rd_T106 ((rd_T104 l0 x20_1).f3) x74_5).f0), .int .i64 ((rd_T106 ((rd_T104 l0 x20_1).f3) x74_5).f1), .int .i64 ((rd_T106 ((rd_T104 l0 x20_1).f3) x74_5).f2), .int .i64 ((rd_T106 ((rd_T104 l0 x20_1).f3) x74_5).f3)]) BK131 hb); replace HB := xS HB hb; (try clear hb); (try clear hb2); (try clear hk); (try clear hi))); go_ret; exact ⟨xer, xW HB⟩
                  ·rw [if_neg c41] at H; have c41b0 := decide_eq_false c41; clear c41; have H' := xm H; clear H
                   go_wp2
                   go_roundg k5
                   case measure => have := HK1.out; have := HJ6.out; have := HK3.out; have := HJ28.out; have := HK5.out; omega
                   case rel => exact ⟨(wrap64 (x20_1 + 1)), (xrf), H', ⟨by have := HK1.out; have := HJ6.out; have := HK3.out; have := HJ28.out; have := HK5.out; omega⟩, ⟨xW HB⟩⟩
     ·rw [if_neg c4] at H; have c4b0 := decide_eq_false c4; clear c4; obtain rfl := Option.some.inj H
      go_wp2
      go_ret; exact ⟨xer, xW HB⟩

/-! ### rules_end: function 69 -/
def rules_end.f (a0_0 : Int) (a0_1 : Int) (a0_2 : Int) (a0_3 : Bool) (a1 : Int) : Option (Int) := if a0_0 = 0 then (if a0_1 = 0 then (if a0_2 < 1 then (some 4) else (if a0_2 > 64 then (some 4) else (some 0))) else (some 4)) else (if a0_0 = 1 then (if a0_1 < 0 then (some 4) else (if a0_1 ≥ a1 then (some 4) else (if a0_2 = 0 then (some 0) else (some 4)))) else (if a0_0 = 2 then (if a0_1 < 0 then (some 4) else (if a0_1 ≥ a1 then (some 4) else (if a0_2 < 1 then (some 4) else (if a0_2 > 64 then (some 4) else (some 0))))) else (some 1)))
theorem rules_end.calls (a0_0 : Int) (a0_1 : Int) (a0_2 : Int) (a0_3 : Bool) (a1 : Int) (r : Int) (w : World) (h : rules_end.f a0_0 a0_1 a0_2 a0_3 a1 = some r) :
    Calls Try.prog 69 #[.agg #[.int .i64 a0_0, .int .i64 a0_1, .int .i64 a0_2, .bool a0_3], .int .i64 a1] w fun e w' => e = .returned (.int .i64 r) ∧ Below w.heap.size w w' := by
 have hu98 := Try.underlying98; have HB := xm (Below.refl w.heap.size w); have hss_ := @isSome_setCell; have H : (if a0_0 = 0 then (if a0_1 = 0 then (if a0_2 < 1 then (some 4) else (if a0_2 > 64 then (some 4) else (some 0))) else (some 4)) else (if a0_0 = 1 then (if a0_1 < 0 then (some 4) else (if a0_1 ≥ a1 then (some 4) else (if a0_2 = 0 then (some 0) else (some 4)))) else (if a0_0 = 2 then (if a0_1 < 0 then (some 4) else (if a0_1 ≥ a1 then (some 4) else (if a0_2 < 1 then (some 4) else (if a0_2 > 64 then (some 4) else (some 0))))) else (some 1)))) = some r := h; clear h
 by_cases c3 : a0_0 = 0
 ·rw [if_pos c3] at H; have c3b0 := beq_iff_eq.mpr c3; have c3b1 := bne_eq_false_iff_eq.mpr c3; clear c3
  by_cases c4 : a0_1 = 0
  ·rw [if_pos c4] at H; have c4b0 := beq_iff_eq.mpr c4; have c4b1 := bne_eq_false_iff_eq.mpr c4; clear c4
   by_cases c5 : a0_2 < 1
   ·rw [if_pos c5] at H; have c5b0 := decide_eq_true c5; clear c5; obtain rfl := Option.some.inj H; go_enter Try.func69, Try.ntmps69; go_wp2_with (first | ((with_reducible refine gate_dst (N := 2) rfl ?_); refine xG (cs := #[.int .i64 a0_0, .int .i64 a0_1, .int .i64 a0_2, .bool a0_3]) (t := 98) ?_; intro gb133 hg w6 hbox hb; have BK133 := xm (hbox); have GW133 := xZ HB hg; have GE133 := xZ HB hg; replace HB := xS HB hb; clear hb hbox hg; have hcz7_0 := blkc4 BK133.out)); go_ret; exact ⟨xer, xW HB⟩
   ·rw [if_neg c5] at H; have c5b0 := decide_eq_false c5; clear c5
    by_cases c8 : a0_2 > 64
    ·rw [if_pos c8] at H; have c8b0 := decide_eq_true c8; clear c8; obtain rfl := Option.some.inj H; go_enter Try.func69, Try.ntmps69; go_wp2_with (first | ((with_reducible refine gate_dst (N := 2) rfl ?_); refine xG (cs := #[.int .i64 a0_0, .int .i64 a0_1, .int .i64 a0_2, .bool a0_3]) (t := 98) ?_; intro gb133 hg w9 hbox hb; have BK133 := xm (hbox); have GW133 := xZ HB hg; have GE133 := xZ HB hg; replace HB := xS HB hb; clear hb hbox hg; have hcz10_0 := blkc4 BK133.out)); go_ret; exact ⟨xer, xW HB⟩
    ·rw [if_neg c8] at H; have c8b0 := decide_eq_false c8; clear c8; obtain rfl := Option.some.inj H; go_enter Try.func69, Try.ntmps69; go_wp2_with (first | ((with_reducible refine gate_dst (N := 2) rfl ?_); refine xG (cs := #[.int .i64 a0_0, .int .i64 a0_1, .int .i64 a0_2, .bool a0_3]) (t := 98) ?_; intro gb133 hg w11 hbox hb; have BK133 := xm (hbox); have GW133 := xZ HB hg; have GE133 := xZ HB hg; replace HB := xS HB hb; clear hb hbox hg; have hcz12_0 := blkc4 BK133.out)); go_ret; exact ⟨xer, xW HB⟩
  ·rw [if_neg c4] at H; have c4b0 := beq_eq_false_iff_ne.mpr c4; have c4b1 := bne_iff_ne.mpr c4; obtain rfl := Option.some.inj H; go_enter Try.func69, Try.ntmps69; go_wp2_with (first | ((with_reducible refine gate_dst (N := 2) rfl ?_); refine xG (cs := #[.int .i64 a0_0, .int .i64 a0_1, .int .i64 a0_2, .bool a0_3]) (t := 98) ?_; intro gb133 hg w13 hbox hb; have BK133 := xm (hbox); have GW133 := xZ HB hg; have GE133 := xZ HB hg; replace HB := xS HB hb; clear hb hbox hg; have hcz14_0 := blkc4 BK133.out)); go_ret; exact ⟨xer, xW HB⟩
 ·rw [if_neg c3] at H; have c3b0 := beq_eq_false_iff_ne.mpr c3; have c3b1 := bne_iff_ne.mpr c3
  by_cases c15 : a0_0 = 1
  ·rw [if_pos c15] at H; have c15b0 := beq_iff_eq.mpr c15; have c15b1 := bne_eq_false_iff_eq.mpr c15; clear c15
   by_cases c16 : a0_1 < 0
   ·rw [if_pos c16] at H; have c16b0 := decide_eq_true c16; clear c16; obtain rfl := Option.some.inj H; go_enter Try.func69, Try.ntmps69; go_wp2_with (first | ((with_reducible refine gate_dst (N := 2) rfl ?_); refine xG (cs := #[.int .i64 a0_0, .int .i64 a0_1, .int .i64 a0_2, .bool a0_3]) (t := 98) ?_; intro gb133 hg w17 hbox hb; have BK133 := xm (hbox); have GW133 := xZ HB hg; have GE133 := xZ HB hg; replace HB := xS HB hb; clear hb hbox hg; have hcz18_0 := blkc4 BK133.out)); go_ret; exact ⟨xer, xW HB⟩
   ·rw [if_neg c16] at H; have c16b0 := decide_eq_false c16; clear c16
    by_cases c19 : a0_1 ≥ a1
    ·rw [if_pos c19] at H; have c19b0 := decide_eq_true c19; clear c19; obtain rfl := Option.some.inj H; go_enter Try.func69, Try.ntmps69; go_wp2_with (first | ((with_reducible refine gate_dst (N := 2) rfl ?_); refine xG (cs := #[.int .i64 a0_0, .int .i64 a0_1, .int .i64 a0_2, .bool a0_3]) (t := 98) ?_; intro gb133 hg w20 hbox hb; have BK133 := xm (hbox); have GW133 := xZ HB hg; have GE133 := xZ HB hg; replace HB := xS HB hb; clear hb hbox hg; have hcz21_0 := blkc4 BK133.out)); go_ret; exact ⟨xer, xW HB⟩
    ·rw [if_neg c19] at H; have c19b0 := decide_eq_false c19; clear c19
     by_cases c22 : a0_2 = 0
     ·rw [if_pos c22] at H; have c22b0 := beq_iff_eq.mpr c22; have c22b1 := bne_eq_false_iff_eq.mpr c22; clear c22; obtain rfl := Option.some.inj H; go_enter Try.func69, Try.ntmps69; go_wp2_with (first | ((with_reducible refine gate_dst (N := 2) rfl ?_); refine xG (cs := #[.int .i64 a0_0, .int .i64 a0_1, .int .i64 a0_2, .bool a0_3]) (t := 98) ?_; intro gb133 hg w23 hbox hb; have BK133 := xm (hbox); have GW133 := xZ HB hg; have GE133 := xZ HB hg; replace HB := xS HB hb; clear hb hbox hg; have hcz24_0 := blkc4 BK133.out)); go_ret; exact ⟨xer, xW HB⟩
     ·rw [if_neg c22] at H; have c22b0 := beq_eq_false_iff_ne.mpr c22; have c22b1 := bne_iff_ne.mpr c22; obtain rfl := Option.some.inj H; go_enter Try.func69, Try.ntmps69; go_wp2_with (first | ((with_reducible refine gate_dst (N := 2) rfl ?_); refine xG (cs := #[.int .i64 a0_0, .int .i64 a0_1, .int .i64 a0_2, .bool a0_3]) (t := 98) ?_; intro gb133 hg w25 hbox hb; have BK133 := xm (hbox); have GW133 := xZ HB hg; have GE133 := xZ HB hg; replace HB := xS HB hb; clear hb hbox hg; have hcz26_0 := blkc4 BK133.out)); go_ret; exact ⟨xer, xW HB⟩
  ·rw [if_neg c15] at H; have c15b0 := beq_eq_false_iff_ne.mpr c15; have c15b1 := bne_iff_ne.mpr c15
   by_cases c27 : a0_0 = 2
   ·rw [if_pos c27] at H; have c27b0 := beq_iff_eq.mpr c27; have c27b1 := bne_eq_false_iff_eq.mpr c27; clear c27
    by_cases c28 : a0_1 < 0
    ·rw [if_pos c28] at H; have c28b0 := decide_eq_true c28; clear c28; obtain rfl := Option.some.inj H; go_enter Try.func69, Try.ntmps69; go_wp2_with (first | ((with_reducible refine gate_dst (N := 2) rfl ?_); refine xG (cs := #[.int .i64 a0_0, .int .i64 a0_1, .int .i64 a0_2, .bool a0_3]) (t := 98) ?_; intro gb133 hg w29 hbox hb; have BK133 := xm (hbox); have GW133 := xZ HB hg; have GE133 := xZ HB hg; replace HB := xS HB hb; clear hb hbox hg; have hcz30_0 := blkc4 BK133.out)); go_ret; exact ⟨xer, xW HB⟩
    ·rw [if_neg c28] at H; have c28b0 := decide_eq_false c28; clear c28
     by_cases c31 : a0_1 ≥ a1
     ·rw [if_pos c31] at H; have c31b0 := decide_eq_true c31; clear c31; obtain rfl := Option.some.inj H; go_enter Try.func69, Try.ntmps69; go_wp2_with (first | ((with_reducible refine gate_dst (N := 2) rfl ?_); refine xG (cs := #[.int .i64 a0_0, .int .i64 a0_1, .int .i64 a0_2, .bool a0_3]) (t := 98) ?_; intro gb133 hg w32 hbox hb; have BK133 := xm (hbox); have GW133 := xZ HB hg; have GE133 := xZ HB hg; replace HB := xS HB hb; clear hb hbox hg; have hcz33_0 := blkc4 BK133.out)); go_ret; exact ⟨xer, xW HB⟩
     ·rw [if_neg c31] at H; have c31b0 := decide_eq_false c31; clear c31
      by_cases c34 : a0_2 < 1
      ·rw [if_pos c34] at H; have c34b0 := decide_eq_true c34; clear c34; obtain rfl := Option.some.inj H; go_enter Try.func69, Try.ntmps69; go_wp2_with (first | ((with_reducible refine gate_dst (N := 2) rfl ?_); refine xG (cs := #[.int .i64 a0_0, .int .i64 a0_1, .int .i64 a0_2, .bool a0_3]) (t := 98) ?_; intro gb133 hg w35 hbox hb; have BK133 := xm (hbox); have GW133 := xZ HB hg; have GE133 := xZ HB hg; replace HB := xS HB hb; clear hb hbox hg; have hcz36_0 := blkc4 BK133.out)); go_ret; exact ⟨xer, xW HB⟩
      ·rw [if_neg c34] at H; have c34b0 := decide_eq_false c34; clear c34
       by_cases c37 : a0_2 > 64
       ·rw [if_pos c37] at H; have c37b0 := decide_eq_true c37; clear c37; obtain rfl := Option.some.inj H; go_enter Try.func69, Try.ntmps69; go_wp2_with (first | ((with_reducible refine gate_dst (N := 2) rfl ?_); refine xG (cs := #[.int .i64 a0_0, .int .i64 a0_1, .int .i64 a0_2, .bool a0_3]) (t := 98) ?_; intro gb133 hg w38 hbox hb; have BK133 := xm (hbox); have GW133 := xZ HB hg; have GE133 := xZ HB hg; replace HB := xS HB hb; clear hb hbox hg; have hcz39_0 := blkc4 BK133.out)); go_ret; exact ⟨xer, xW HB⟩
       ·rw [if_neg c37] at H; have c37b0 := decide_eq_false c37; clear c37; obtain rfl := Option.some.inj H; go_enter Try.func69, Try.ntmps69; go_wp2_with (first | ((with_reducible refine gate_dst (N := 2) rfl ?_); refine xG (cs := #[.int .i64 a0_0, .int .i64 a0_1, .int .i64 a0_2, .bool a0_3]) (t := 98) ?_; intro gb133 hg w40 hbox hb; have BK133 := xm (hbox); have GW133 := xZ HB hg; have GE133 := xZ HB hg; replace HB := xS HB hb; clear hb hbox hg; have hcz41_0 := blkc4 BK133.out)); go_ret; exact ⟨xer, xW HB⟩
   ·rw [if_neg c27] at H; have c27b0 := beq_eq_false_iff_ne.mpr c27; have c27b1 := bne_iff_ne.mpr c27; obtain rfl := Option.some.inj H; go_enter Try.func69, Try.ntmps69; go_wp2_with (first | ((with_reducible refine gate_dst (N := 2) rfl ?_); refine xG (cs := #[.int .i64 a0_0, .int .i64 a0_1, .int .i64 a0_2, .bool a0_3]) (t := 98) ?_; intro gb133 hg w42 hbox hb; have BK133 := xm (hbox); have GW133 := xZ HB hg; have GE133 := xZ HB hg; replace HB := xS HB hb; clear hb hbox hg; have hcz43_0 := blkc4 BK133.out)); go_ret; exact ⟨xer, xW HB⟩

end Go.Proofs.Ytkpphlimnnifkaa.PClaimFalls
