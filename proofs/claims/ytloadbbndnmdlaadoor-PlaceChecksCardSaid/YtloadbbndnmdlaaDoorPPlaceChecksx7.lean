-- Printed by a program of this claim's writer (wip/ext): an extension of the kit's print.
import Derived.Test.YtloadbbndnmdlaaDoorPPlaceChecksx0
import Derived.Test.YtloadbbndnmdlaaDoorPPlaceChecksx5
import Derived.Test.YtloadbbndnmdlaaDoorPPlaceChecksx6
namespace Go.Proofs.YtloadbbndnmdlaaDoor.PPlaceChecks
open Go.RowKit Go.Proofs.YtloadbbndnmdlaaDoorW.PrintWords Go.Proofs.YtloadbbndnmdlaaDoorW.PrintLast Go.Proofs.YtloadbbndnmdlaaDoorW.PrintMore
set_option maxHeartbeats 8000000
set_option maxRecDepth 100000
attribute [local go_sem] max2_int min2_int max_two min_two max_three min_three max_four min_four   -- for this text's walks alone
set_option linter.unusedVariables false
set_option linter.unusedSimpArgs false

/-! ### gamehallref1_RulesError: function 10 -/
mutual
def gamehallref1_RulesError.j0 : Nat → Bool → ByteArray → Int → Int → List (S44) → List Int → Bool → Bool → List (S46) → Int → Int → Int → Option (Int)
  | 0, _, _, _, _, _, _, _, _, _, _, _, _ => none
  | k + 1, x25, z213a, z213b, z213c, z213d, z213e, z213f, z213g, z213h, z213i, z213j, z213k => if x25 = true then (some 4) else (if (z213d.length : Int) = 0 then (some 8) else (if (z213d.length : Int) > 6 then (some 2) else (gamehallref1_RulesError.l0 k (z213d.length : Int) (z213d.length : Int) 0 z213a z213b z213c z213d z213e z213f z213g z213h z213i z213j z213k)))
def gamehallref1_RulesError.l0 : Nat → Int → Int → Int → ByteArray → Int → Int → List (S44) → List Int → Bool → Bool → List (S46) → Int → Int → Int → Option (Int)
  | 0, _, _, _, _, _, _, _, _, _, _, _, _, _, _ => none
  | k + 1, x3, x35, x36, z213a, z213b, z213c, z213d, z213e, z213f, z213g, z213h, z213i, z213j, z213k => if x36 < x35 then ((gamehallref1_pieceError.f k z213d x36).bind fun t216 => (if t216 = 0 then (gamehallref1_RulesError.l0 k x3 x35 (wrap64 (x36 + 1)) z213a z213b z213c z213d z213e z213f z213g z213h z213i z213j z213k) else (some t216))) else (if (z213e.length : Int) = (wrap64 (z213b * z213c)) then (gamehallref1_RulesError.l1 k x3 z213e (z213e.length : Int) 0 z213a z213b z213c z213d z213e z213f z213g z213h z213i z213j z213k) else (some 3))
def gamehallref1_RulesError.l1 : Nat → Int → List Int → Int → Int → ByteArray → Int → Int → List (S44) → List Int → Bool → Bool → List (S46) → Int → Int → Int → Option (Int)
  | 0, _, _, _, _, _, _, _, _, _, _, _, _, _, _, _ => none
  | k + 1, x3, x57, x58, x59, z213a, z213b, z213c, z213d, z213e, z213f, z213g, z213h, z213i, z213j, z213k => if x59 < x58 then (if 0 ≤ x59 then (if x59 < (x57.length : Int) then ((gamehallref1_In.f (rd x57 x59) 0 (wrap64 (2 * x3))).bind fun t218 => (if t218 = true then (gamehallref1_RulesError.l1 k x3 x57 x58 (wrap64 (x59 + 1)) z213a z213b z213c z213d z213e z213f z213g z213h z213i z213j z213k) else (some 4))) else (none)) else (none)) else (if (z213h.length : Int) > 6 then (some 2) else (gamehallref1_RulesError.l2 k x3 z213h (z213h.length : Int) 0 z213a z213b z213c z213d z213e z213f z213g z213h z213i z213j z213k))
def gamehallref1_RulesError.l2 : Nat → Int → List (S46) → Int → Int → ByteArray → Int → Int → List (S44) → List Int → Bool → Bool → List (S46) → Int → Int → Int → Option (Int)
  | 0, _, _, _, _, _, _, _, _, _, _, _, _, _, _, _ => none
  | k + 1, x3, x74, x75, x76, z213a, z213b, z213c, z213d, z213e, z213f, z213g, z213h, z213i, z213j, z213k => if x76 < x75 then (if 0 ≤ x76 then (if x76 < (x74.length : Int) then ((gamehallref1_In.f ((rd_T46 x74 x76).f0) 0 2).bind fun t221 => (if t221 = true then ((gamehallref1_In.f ((rd_T46 x74 x76).f2) 1 64).bind fun t222 => ((gamehallref1_In.f ((rd_T46 x74 x76).f1) 0 (wrap64 (x3 - 1))).bind fun t223 => (if ((rd_T46 x74 x76).f0) = 1 then (gamehallref1_RulesError.j4 k x3 (((rd_T46 x74 x76).f2) == 0) t223 x74 x75 x76 z213a z213b z213c z213d z213e z213f z213g z213h z213i z213j z213k ((rd_T46 x74 x76).f0) ((rd_T46 x74 x76).f1) ((rd_T46 x74 x76).f2) ((rd_T46 x74 x76).f3)) else (gamehallref1_RulesError.j4 k x3 t222 t223 x74 x75 x76 z213a z213b z213c z213d z213e z213f z213g z213h z213i z213j z213k ((rd_T46 x74 x76).f0) ((rd_T46 x74 x76).f1) ((rd_T46 x74 x76).f2) ((rd_T46 x74 x76).f3))))) else (some 1))) else (none)) else (none)) else ((gamehallref1_In.f z213i 0 2).bind fun t224 => (if t224 = true then ((gamehallref1_In.f z213j 0 200).bind fun t225 => (if t225 = true then (if z213k = 0 then (some 0) else ((gamehallref1_In.f z213k 2 5).bind fun t226 => (if t226 = true then (some 0) else (some 4)))) else (some 4))) else (some 4)))
def gamehallref1_RulesError.j4 : Nat → Int → Bool → Bool → List (S46) → Int → Int → ByteArray → Int → Int → List (S44) → List Int → Bool → Bool → List (S46) → Int → Int → Int → Int → Int → Int → Bool → Option (Int)
  | 0, _, _, _, _, _, _, _, _, _, _, _, _, _, _, _, _, _, _, _, _, _ => none
  | k + 1, x3, x10, x11, x74, x75, x76, z213a, z213b, z213c, z213d, z213e, z213f, z213g, z213h, z213i, z213j, z213k, z221a, z221b, z221c, z221d => if z221a = 0 then (if x10 = true then (if z221b = 0 then (gamehallref1_RulesError.l2 k x3 x74 x75 (wrap64 (x76 + 1)) z213a z213b z213c z213d z213e z213f z213g z213h z213i z213j z213k) else (some 4)) else (some 4)) else (if x10 = true then (if x11 = true then (gamehallref1_RulesError.l2 k x3 x74 x75 (wrap64 (x76 + 1)) z213a z213b z213c z213d z213e z213f z213g z213h z213i z213j z213k) else (some 4)) else (some 4))
end
def gamehallref1_RulesError.f (k : Nat) (a0_0 : ByteArray) (a0_1 : Int) (a0_2 : Int) (l0_3 : List (S44)) (l0_4 : List Int) (a0_5 : Bool) (a0_6 : Bool) (l0_7 : List (S46)) (a0_8 : Int) (a0_9 : Int) (a0_10 : Int) : Option (Int) := (gamehallref1_Named.f k a0_0).bind fun t213 => (if t213 = true then ((gamehallref1_In.f a0_1 1 8).bind fun t214 => (if t214 = true then ((gamehallref1_In.f a0_2 1 8).bind fun t215 => (gamehallref1_RulesError.j0 k (!t215) a0_0 a0_1 a0_2 l0_3 l0_4 a0_5 a0_6 l0_7 a0_8 a0_9 a0_10)) else (gamehallref1_RulesError.j0 k true a0_0 a0_1 a0_2 l0_3 l0_4 a0_5 a0_6 l0_7 a0_8 a0_9 a0_10))) else (some 6))
theorem gamehallref1_RulesError.mono_l : ∀ k, L10 (LM (LM (LeO))) (gamehallref1_RulesError.j0 k) (gamehallref1_RulesError.j0 (k + 1)) ∧ L10 (LM (LM (LM (LM (LeO))))) (gamehallref1_RulesError.l0 k) (gamehallref1_RulesError.l0 (k + 1)) ∧ L10 (L5 (LeO)) (gamehallref1_RulesError.l1 k) (gamehallref1_RulesError.l1 (k + 1)) ∧ L10 (L5 (LeO)) (gamehallref1_RulesError.l2 k) (gamehallref1_RulesError.l2 (k + 1)) ∧ L10 (L10 (LM (LeO))) (gamehallref1_RulesError.j4 k) (gamehallref1_RulesError.j4 (k + 1))
  | 0 => by refine ⟨?_, ?_, ?_, ?_, ?_⟩ <;> (repeat (first | exact LeO.none _ | intro _))
  | k + 1 => by
    obtain ⟨ih0, ih1, ih2, ih3, ih4⟩ := gamehallref1_RulesError.mono_l k; refine ⟨?_, ?_, ?_, ?_, ?_⟩ <;> ((repeat (first | (with_reducible refine LeO.st ?_) | intro _)); constructor; (first | unfold gamehallref1_RulesError.j0 | unfold gamehallref1_RulesError.l0 | unfold gamehallref1_RulesError.l1 | unfold gamehallref1_RulesError.l2 | unfold gamehallref1_RulesError.j4); repeat' first | (with_reducible first | apply ih0 | apply ih1 | apply ih2 | apply ih3 | apply ih4 | apply gamehallref1_Named.mono | apply gamehallref1_pieceError.mono | exact LeO.refl _ | exact LeO.none _ | refine LeO.ite ?_ ?_ | refine LeO.bind ?_ (fun _ => ?_)) | apply ih0 | apply ih1 | apply ih2 | apply ih3 | apply ih4 | apply gamehallref1_Named.mono | apply gamehallref1_pieceError.mono | exact LeO.none _ | refine LeO.ite ?_ ?_ | refine LeO.bind ?_ (fun _ => ?_))
theorem gamehallref1_RulesError.mono : ∀ a0 a1 a2 a3 a4 a5 a6 a7 a8 a9 a10 k, LeO (gamehallref1_RulesError.f k a0 a1 a2 a3 a4 a5 a6 a7 a8 a9 a10) (gamehallref1_RulesError.f (k + 1) a0 a1 a2 a3 a4 a5 a6 a7 a8 a9 a10) := by
  intros; rename_i k; obtain ⟨ih0, ih1, ih2, ih3, ih4⟩ := gamehallref1_RulesError.mono_l k
  unfold gamehallref1_RulesError.f
  repeat' first | (with_reducible first | apply ih0 | apply ih1 | apply ih2 | apply ih3 | apply ih4 | apply gamehallref1_Named.mono | apply gamehallref1_pieceError.mono | exact LeO.refl _ | exact LeO.none _ | refine LeO.ite ?_ ?_ | refine LeO.bind ?_ (fun _ => ?_)) | apply ih0 | apply ih1 | apply ih2 | apply ih3 | apply ih4 | apply gamehallref1_Named.mono | apply gamehallref1_pieceError.mono | exact LeO.none _ | refine LeO.ite ?_ ?_ | refine LeO.bind ?_ (fun _ => ?_)
theorem gamehallref1_RulesError.calls (k : Nat) (a0_0 : ByteArray) (a0_1 : Int) (a0_2 : Int) (A0_3 : Option Addr) (c0_3 : Nat) (l0_3 : List (S44)) (A0_4 : Option Addr) (c0_4 : Nat) (l0_4 : List Int) (a0_5 : Bool) (a0_6 : Bool) (A0_7 : Option Addr) (c0_7 : Nat) (l0_7 : List (S46)) (a0_8 : Int) (a0_9 : Int) (a0_10 : Int) (r : Int) (w : World) (hr0_3 : Kd.C k44 w A0_3 l0_3.length l0_3) (hc0_3 : l0_3.length ≤ c0_3) (hr0_4 : Kd.C (Kd.int .i64) w A0_4 l0_4.length l0_4) (hc0_4 : l0_4.length ≤ c0_4) (hr0_7 : Kd.C k46 w A0_7 l0_7.length l0_7) (hc0_7 : l0_7.length ≤ c0_7) (h : gamehallref1_RulesError.f k a0_0 a0_1 a0_2 l0_3 l0_4 a0_5 a0_6 l0_7 a0_8 a0_9 a0_10 = some r) :
    Calls Tryd.prog 10 #[.agg #[.string a0_0, .int .i64 a0_1, .int .i64 a0_2, .slice A0_3 l0_3.length c0_3, .slice A0_4 l0_4.length c0_4, .bool a0_5, .bool a0_6, .slice A0_7 l0_7.length c0_7, .int .i64 a0_8, .int .i64 a0_9, .int .i64 a0_10]] w fun e w' => e = .returned (.int .i64 r) ∧ Below w.heap.size w w' := by
 have hu26 := Tryd.underlying26; have hu46 := Tryd.underlying46; have HR0_3 := xm hr0_3; have HC0_3 := xm hc0_3; clear hr0_3 hc0_3; have HR0_4 := xm hr0_4; have HC0_4 := xm hc0_4; clear hr0_4 hc0_4; have HR0_7 := xm hr0_7; have HC0_7 := xm hc0_7; clear hr0_7 hc0_7; have HB := xm (Below.refl w.heap.size w); have hss_ := @isSome_setCell; have H : ((gamehallref1_Named.f k a0_0).bind fun t213 => (if t213 = true then ((gamehallref1_In.f a0_1 1 8).bind fun t214 => (if t214 = true then ((gamehallref1_In.f a0_2 1 8).bind fun t215 => (gamehallref1_RulesError.j0 k (!t215) a0_0 a0_1 a0_2 l0_3 l0_4 a0_5 a0_6 l0_7 a0_8 a0_9 a0_10)) else (gamehallref1_RulesError.j0 k true a0_0 a0_1 a0_2 l0_3 l0_4 a0_5 a0_6 l0_7 a0_8 a0_9 a0_10))) else (some 6))) = some r := h; clear h; obtain ⟨t213, A2, H⟩ := xH H; (try dsimp only at H)
 by_cases c3 : t213 = true
 ·subst c3; rw [if_pos rfl] at H; have HC4 := xm H; clear H; go_enter Tryd.func10, Tryd.ntmps10
  go_upto_region 3 with (first | ((with_reducible refine gate_dst (N := 1) rfl ?_); refine xG (cs := #[.string a0_0, .int .i64 a0_1, .int .i64 a0_2, .slice A0_3 l0_3.length c0_3, .slice A0_4 l0_4.length c0_4, .bool a0_5, .bool a0_6, .slice A0_7 l0_7.length c0_7, .int .i64 a0_8, .int .i64 a0_9, .int .i64 a0_10]) (t := 26) ?_; intro gb212 hg w5 hbox hb; have BK212 := xm (hbox); have GW212 := xZ HB hg; have GE212 := xZ HB hg; replace HB := xS HB hb; clear hb hbox hg; have hcz6_0 := blkc11 BK212.out) | (go_at_call 22; (with_reducible refine (gamehallref1_Named.calls k a0_0 true _ A2.out).mono ?_); rintro e w' ⟨rfl, ⟨nd, rfl⟩⟩; (try exact xE)))
  (try simp only [Act.put, List.setIfInBounds_toArray, List.set_cons_zero, List.set_cons_succ])
  go_cut [25] (fun vs25 wc => ∃ (kq : Nat) (x25_3 : Bool), vs25 = .bool x25_3 ∧ Aside0 (gamehallref1_RulesError.j0 kq x25_3 a0_0 a0_1 a0_2 l0_3 l0_4 a0_5 a0_6 l0_7 a0_8 a0_9 a0_10 = some r) ∧ Aside0 (kq ≤ k) ∧ Aside0 (wc.heap[gb212]? = some (.cells #[.string a0_0, .int .i64 a0_1, .int .i64 a0_2, (.slice A0_3 l0_3.length c0_3), (.slice A0_4 l0_4.length c0_4), .bool a0_5, .bool a0_6, (.slice A0_7 l0_7.length c0_7), .int .i64 a0_8, .int .i64 a0_9, .int .i64 a0_10] 26 (0, 0))) ∧ Aside0 (Below w.heap.size w wc))
  case first =>
   have H := HC4.out; clear HC4; obtain ⟨t214, A7, H⟩ := xH H; (try dsimp only at H)
   by_cases c8 : t214 = true
   ·subst c8; rw [if_pos rfl] at H; obtain ⟨t215, A9, H⟩ := xH H; (try dsimp only at H); have H' := xm H; clear H; have hcz10_0 := blkc11 BK212.out; go_wp2_with (first | (go_at_call 19; (with_reducible refine (gamehallref1_In.calls a0_1 1 8 true _ A7.out).mono ?_); rintro e w' ⟨rfl, ⟨nd, rfl⟩⟩; (try exact xE)) | (go_at_call 19; (with_reducible refine (gamehallref1_In.calls a0_2 1 8 t215 _ A9.out).mono ?_); rintro e w' ⟨rfl, ⟨nd, rfl⟩⟩; (try exact xE))); go_meet
    case rel => exact ⟨_, (!t215), (xrf), H', ⟨by first | omega | exact Nat.le_refl _⟩, ⟨xK BK212⟩, ⟨xW HB⟩⟩
   ·obtain rfl := Bool.eq_false_iff.mpr c8; rw [if_neg xF] at H; have H' := xm H; clear H; have hcz11_0 := blkc11 BK212.out; go_wp2_with (first | (go_at_call 19; (with_reducible refine (gamehallref1_In.calls a0_1 1 8 false _ A7.out).mono ?_); rintro e w' ⟨rfl, ⟨nd, rfl⟩⟩; (try exact xE))); go_meet
    case rel => exact ⟨_, (true), (xrf), H', ⟨by first | omega | exact Nat.le_refl _⟩, ⟨xK BK212⟩, ⟨xW HB⟩⟩
  case rest =>
   clear HC4; (try clear p2); obtain ⟨kq, x25_3, rfl, HA, HJ3, BK212, HB⟩ := hcut
   cases kq with
   | zero => exact absurd HA.out (by simp [gamehallref1_RulesError.j0])
   | succ kj3 =>
    have H := HA.out; clear HA; simp only [gamehallref1_RulesError.j0] at H
    by_cases c12 : x25_3 = true
    ·subst c12; rw [if_pos rfl] at H; obtain rfl := Option.some.inj H
     go_wp2
     go_ret; exact ⟨xer, xW HB⟩
    ·obtain rfl := Bool.eq_false_iff.mpr c12; rw [if_neg xF] at H
     by_cases c13 : (l0_3.length : Int) = 0
     ·rw [if_pos c13] at H; have c13b0 := beq_iff_eq.mpr c13; have c13b1 := bne_eq_false_iff_eq.mpr c13; clear c13; obtain rfl := Option.some.inj H; have hcz14_0 := blkc11 BK212.out
      go_wp2
      go_ret; exact ⟨xer, xW HB⟩
     ·rw [if_neg c13] at H; have c13b0 := beq_eq_false_iff_ne.mpr c13; have c13b1 := bne_iff_ne.mpr c13; have c13b2 : ¬ (l0_3 = []) := fun h_ => c13 (by rw [h_]; rfl)
      by_cases c15 : (l0_3.length : Int) > 6
      ·rw [if_pos c15] at H; have c15b0 := decide_eq_true c15; have c15b1 : decide (6 < l0_3.length) = true := decide_eq_true (by omega); clear c15; obtain rfl := Option.some.inj H; have hcz16_0 := blkc11 BK212.out
       go_wp2
       go_ret; exact ⟨xer, xW HB⟩
      ·rw [if_neg c15] at H; have c15b0 := decide_eq_false c15; have c15b1 : decide (6 < l0_3.length) = false := decide_eq_false (by omega); clear c15; have H' := xm H; clear H; have hcz17_0 := blkc11 BK212.out
       go_wp2
       go_loopg [36] kj3 (fun kq vs36 w' => ∃ (x36_2 : Int), vs36 = .int .i64 x36_2 ∧ Aside0 (gamehallref1_RulesError.l0 kq (l0_3.length : Int) (l0_3.length : Int) x36_2 a0_0 a0_1 a0_2 l0_3 l0_4 a0_5 a0_6 l0_7 a0_8 a0_9 a0_10 = some r) ∧ Aside0 (kq ≤ kj3) ∧ Aside0 (w'.heap[gb212]? = some (.cells #[.string a0_0, .int .i64 a0_1, .int .i64 a0_2, (.slice A0_3 l0_3.length c0_3), (.slice A0_4 l0_4.length c0_4), .bool a0_5, .bool a0_6, (.slice A0_7 l0_7.length c0_7), .int .i64 a0_8, .int .i64 a0_9, .int .i64 a0_10] 26 (0, 0))) ∧ Aside0 (Below w.heap.size w w'))
       case atStart => exact ⟨(0), (xrf), H', ⟨Nat.le_refl _⟩, ⟨xK BK212⟩, ⟨xW HB⟩⟩
       case round =>
        clear H'; (try clear p2); obtain ⟨x36_2, rfl, HA, HK2, BK212, HB⟩ := hrel
        cases gk with
        | zero => exact absurd HA.out (by simp [gamehallref1_RulesError.l0])
        | succ k2 =>
         have H := HA.out; clear HA; simp only [gamehallref1_RulesError.l0] at H
         by_cases c18 : x36_2 < (l0_3.length : Int)
         ·rw [if_pos c18] at H; have c18b0 := decide_eq_true c18; clear c18; obtain ⟨t216, A19, H⟩ := xH H; (try dsimp only at H); have DA19 := xm fun (W_ : World) (hb_ : Below w.heap.size w W_) => gamehallref1_pieceError.calls k2 _ _ l0_3 x36_2 t216 W_ (Kd.C_below HR0_3.out hb_) HC0_3.out A19.out
          by_cases c20 : t216 = 0
          ·rw [if_pos c20] at H; have c20b0 := beq_iff_eq.mpr c20; have c20b1 := bne_eq_false_iff_eq.mpr c20; clear c20; have H' := xm H; clear H; have hcz21_0 := blkc11 BK212.out; go_wp2_with (first | (go_at_call 23; (with_reducible refine (DA19.out _ ?sB).mono ?_); (case sB => exact xW HB); rintro e w22 ⟨rfl, hb⟩; replace BK212 := xB BK212 hb; replace HB := xS HB hb; (try clear hb); (try clear hb2); (try clear hk); (try clear hi))); go_roundg k2
           case measure => have := HJ3.out; have := HK2.out; omega
           case rel => exact ⟨(wrap64 (x36_2 + 1)), (xrf), H', ⟨by have := HJ3.out; have := HK2.out; omega⟩, ⟨xK BK212⟩, ⟨xW HB⟩⟩
          ·rw [if_neg c20] at H; have c20b0 := beq_eq_false_iff_ne.mpr c20; have c20b1 := bne_iff_ne.mpr c20; obtain rfl := Option.some.inj H; have hcz23_0 := blkc11 BK212.out; go_wp2_with (first | (go_at_call 23; (with_reducible refine (DA19.out _ ?sB).mono ?_); (case sB => exact xW HB); rintro e w24 ⟨rfl, hb⟩; replace BK212 := xB BK212 hb; replace HB := xS HB hb; (try clear hb); (try clear hb2); (try clear hk); (try clear hi))); go_ret; exact ⟨xer, xW HB⟩
         ·rw [if_neg c18] at H; have c18b0 := decide_eq_false c18; clear c18
          by_cases c25 : (l0_4.length : Int) = (wrap64 (a0_1 * a0_2))
          ·rw [if_pos c25] at H; have c25b0 := beq_iff_eq.mpr c25; have c25b1 := bne_eq_false_iff_eq.mpr c25; clear c25; have H' := xm H; clear H; have hcz26_0 := blkc11 BK212.out
           go_wp2
           go_loopg [59] k2 (fun kq vs59 w' => ∃ (x59_3 : Int), vs59 = .int .i64 x59_3 ∧ Aside0 (gamehallref1_RulesError.l1 kq (l0_3.length : Int) l0_4 (l0_4.length : Int) x59_3 a0_0 a0_1 a0_2 l0_3 l0_4 a0_5 a0_6 l0_7 a0_8 a0_9 a0_10 = some r) ∧ Aside0 (kq ≤ k2) ∧ Aside0 (w'.heap[gb212]? = some (.cells #[.string a0_0, .int .i64 a0_1, .int .i64 a0_2, (.slice A0_3 l0_3.length c0_3), (.slice A0_4 l0_4.length c0_4), .bool a0_5, .bool a0_6, (.slice A0_7 l0_7.length c0_7), .int .i64 a0_8, .int .i64 a0_9, .int .i64 a0_10] 26 (0, 0))) ∧ Aside0 (Below w.heap.size w w'))
           case atStart => exact ⟨(0), (xrf), H', ⟨Nat.le_refl _⟩, ⟨xK BK212⟩, ⟨xW HB⟩⟩
           case round =>
            clear H'; (try clear p2); (try clear p6); obtain ⟨x59_3, rfl, HA, HK3, BK212, HB⟩ := hrel
            cases gk with
            | zero => exact absurd HA.out (by simp [gamehallref1_RulesError.l1])
            | succ k3 =>
             have H := HA.out; clear HA; simp only [gamehallref1_RulesError.l1] at H
             by_cases c27 : x59_3 < (l0_4.length : Int)
             ·rw [if_pos c27] at H; have c27b0 := decide_eq_true c27; clear c27; obtain ⟨c28b0, H⟩ := xJ H; obtain ⟨c29b0, H⟩ := xJ H; obtain ⟨t218, A30, H⟩ := xH H; (try dsimp only at H)
              by_cases c31 : t218 = true
              ·subst c31; rw [if_pos rfl] at H; have H' := xm H; clear H; have p217 : 0 ≤ (x59_3 : Int) := xO; have q217 : x59_3 < (l0_4.length : Int) := xO; obtain ⟨ad217, e217, hx217_0⟩ := Kd.at_int HR0_4.out x59_3 p217 q217
               cases e217
               (first | replace hx217_0 := xR HB hx217_0 | skip); replace p217 := eq_true p217; replace q217 := eq_true q217
               go_wp2_with (first | (go_at_call 19; (with_reducible refine (gamehallref1_In.calls (rd l0_4 x59_3) 0 (wrap64 (2 * (l0_3.length : Int))) true _ A30.out).mono ?_); rintro e w' ⟨rfl, ⟨nd, rfl⟩⟩; (try exact xE))); go_roundg k3
               case measure => have := HJ3.out; have := HK2.out; have := HK3.out; omega
               case rel => exact ⟨(wrap64 (x59_3 + 1)), (xrf), H', ⟨by have := HJ3.out; have := HK2.out; have := HK3.out; omega⟩, ⟨xK BK212⟩, ⟨xW HB⟩⟩
              ·obtain rfl := Bool.eq_false_iff.mpr c31; rw [if_neg xF] at H; obtain rfl := Option.some.inj H; have p217 : 0 ≤ (x59_3 : Int) := xO; have q217 : x59_3 < (l0_4.length : Int) := xO; obtain ⟨ad217, e217, hx217_0⟩ := Kd.at_int HR0_4.out x59_3 p217 q217
               cases e217
               (first | replace hx217_0 := xR HB hx217_0 | skip); replace p217 := eq_true p217; replace q217 := eq_true q217
               go_wp2_with (first | (go_at_call 19; (with_reducible refine (gamehallref1_In.calls (rd l0_4 x59_3) 0 (wrap64 (2 * (l0_3.length : Int))) false _ A30.out).mono ?_); rintro e w' ⟨rfl, ⟨nd, rfl⟩⟩; (try exact xE))); go_ret; exact ⟨xer, xW HB⟩
             ·rw [if_neg c27] at H; have c27b0 := decide_eq_false c27; clear c27
              by_cases c32 : (l0_7.length : Int) > 6
              ·rw [if_pos c32] at H; have c32b0 := decide_eq_true c32; have c32b1 : decide (6 < l0_7.length) = true := decide_eq_true (by omega); clear c32; obtain rfl := Option.some.inj H; have hcz33_0 := blkc11 BK212.out
               go_wp2
               go_ret; exact ⟨xer, xW HB⟩
              ·rw [if_neg c32] at H; have c32b0 := decide_eq_false c32; have c32b1 : decide (6 < l0_7.length) = false := decide_eq_false (by omega); clear c32; have H' := xm H; clear H; have hcz34_0 := blkc11 BK212.out
               go_wp2
               go_loopg [76] k3 (fun kq vs76 w' => ∃ (x76_4 : Int), vs76 = .int .i64 x76_4 ∧ Aside0 (gamehallref1_RulesError.l2 kq (l0_3.length : Int) l0_7 (l0_7.length : Int) x76_4 a0_0 a0_1 a0_2 l0_3 l0_4 a0_5 a0_6 l0_7 a0_8 a0_9 a0_10 = some r) ∧ Aside0 (kq ≤ k3) ∧ Aside0 (w'.heap[gb212]? = some (.cells #[.string a0_0, .int .i64 a0_1, .int .i64 a0_2, (.slice A0_3 l0_3.length c0_3), (.slice A0_4 l0_4.length c0_4), .bool a0_5, .bool a0_6, (.slice A0_7 l0_7.length c0_7), .int .i64 a0_8, .int .i64 a0_9, .int .i64 a0_10] 26 (0, 0))) ∧ Aside0 (Below w.heap.size w w'))
               case atStart => exact ⟨(0), (xrf), H', ⟨Nat.le_refl _⟩, ⟨xK BK212⟩, ⟨xW HB⟩⟩
               case round =>
                clear H'; (try clear p2); (try clear q2); (try clear hx2); (try clear p6); (try clear p21); (try clear q21); (try clear hx21); (try clear hx217_0); (try clear p217); (try clear q217); obtain ⟨x76_4, rfl, HA, HK4, BK212, HB⟩ := hrel
                cases gk with
                | zero => exact absurd HA.out (by simp [gamehallref1_RulesError.l2])
                | succ k4 =>
                 have H := HA.out; clear HA; simp only [gamehallref1_RulesError.l2] at H
                 by_cases c35 : x76_4 < (l0_7.length : Int)
                 ·rw [if_pos c35] at H; have c35b0 := decide_eq_true c35; clear c35; obtain ⟨c36b0, H⟩ := xJ H; obtain ⟨c37b0, H⟩ := xJ H; obtain ⟨t221, A38, H⟩ := xH H; (try dsimp only at H)
                  by_cases c39 : t221 = true
                  ·subst c39; rw [if_pos rfl] at H; obtain ⟨t222, A40, H⟩ := xH H; (try dsimp only at H); obtain ⟨t223, A41, H⟩ := xH H; (try dsimp only at H); have HC42 := xm H; clear H; have p219 : 0 ≤ (x76_4 : Int) := xO; have q219 : x76_4 < (l0_7.length : Int) := xO; obtain ⟨ad219, e219, hx219_0, hx219_1, hx219_2, hx219_3⟩ := at_T46 HR0_7.out x76_4 p219 q219
                   cases e219
                   (first | replace hx219_0 := xR HB hx219_0 | skip); (first | replace hx219_1 := xR HB hx219_1 | skip); (first | replace hx219_2 := xR HB hx219_2 | skip); (first | replace hx219_3 := xR HB hx219_3 | skip); replace p219 := eq_true p219; replace q219 := eq_true q219
                   go_upto_if 94 with (first | ((with_reducible refine gate_dst (N := 9) rfl ?_); refine xG (cs := #[.int .i64 0, .int .i64 0, .int .i64 0, .bool false]) (t := 46) ?_; intro gb220 hg w43 hbox hb; have BK220 := xm (hbox); have GW220 := xZ HB hg; have GE220 := xZ HB hg; have NB212_220 := xN BK212 hg; have NB220_212 := xM BK212 hg; replace BK212 := xB BK212 hb; replace HB := xS HB hb; clear hb hbox hg; have hnb44 := NB220_212.out; have hnc44 := NB212_220.out; have hcz45_0 := blkc4 BK220.out) | (go_at_call 19; (with_reducible refine (gamehallref1_In.calls ((rd_T46 l0_7 x76_4).f0) 0 2 true _ A38.out).mono ?_); rintro e w' ⟨rfl, ⟨nd, rfl⟩⟩; (try exact xE)) | (go_at_call 19; (with_reducible refine (gamehallref1_In.calls ((rd_T46 l0_7 x76_4).f2) 1 64 t222 _ A40.out).mono ?_); rintro e w' ⟨rfl, ⟨nd, rfl⟩⟩; (try exact xE)) | (go_at_call 19; (with_reducible refine (gamehallref1_In.calls ((rd_T46 l0_7 x76_4).f1) 0 (wrap64 ((l0_3.length : Int) - 1)) t223 _ A41.out).mono ?_); rintro e w' ⟨rfl, ⟨nd, rfl⟩⟩; (try exact xE)))
                   repeat (go_quiet (first | ((with_reducible refine gate_dst (N := 9) rfl ?_); refine xG (cs := #[.int .i64 0, .int .i64 0, .int .i64 0, .bool false]) (t := 46) ?_; intro gb220 hg w43 hbox hb; have BK220 := xm (hbox); have GW220 := xZ HB hg; have GE220 := xZ HB hg; have NB212_220 := xN BK212 hg; have NB220_212 := xM BK212 hg; replace BK212 := xB BK212 hb; replace HB := xS HB hb; clear hb hbox hg; have hcz45_0 := blkc4 BK220.out) | (go_at_call 19; (with_reducible refine (gamehallref1_In.calls ((rd_T46 l0_7 x76_4).f0) 0 2 true _ A38.out).mono ?_); rintro e w' ⟨rfl, ⟨nd, rfl⟩⟩; (try exact xE)) | (go_at_call 19; (with_reducible refine (gamehallref1_In.calls ((rd_T46 l0_7 x76_4).f2) 1 64 t222 _ A40.out).mono ?_); rintro e w' ⟨rfl, ⟨nd, rfl⟩⟩; (try exact xE)) | (go_at_call 19; (try simp only [i64_w, i32_w]); (with_reducible refine (gamehallref1_In.calls ((rd_T46 l0_7 x76_4).f1) 0 (wrap64 ((l0_3.length : Int) - 1)) t223 _ A41.out).mono ?_); rintro e w' ⟨rfl, ⟨nd, rfl⟩⟩; (try exact xE))); go_upto_if 94 with (first | ((with_reducible refine gate_dst (N := 9) rfl ?_); refine xG (cs := #[.int .i64 0, .int .i64 0, .int .i64 0, .bool false]) (t := 46) ?_; intro gb220 hg w43 hbox hb; have BK220 := xm (hbox); have GW220 := xZ HB hg; have GE220 := xZ HB hg; have NB212_220 := xN BK212 hg; have NB220_212 := xM BK212 hg; replace BK212 := xB BK212 hb; replace HB := xS HB hb; clear hb hbox hg; have hcz45_0 := blkc4 BK220.out) | (go_at_call 19; (with_reducible refine (gamehallref1_In.calls ((rd_T46 l0_7 x76_4).f0) 0 2 true _ A38.out).mono ?_); rintro e w' ⟨rfl, ⟨nd, rfl⟩⟩; (try exact xE)) | (go_at_call 19; (with_reducible refine (gamehallref1_In.calls ((rd_T46 l0_7 x76_4).f2) 1 64 t222 _ A40.out).mono ?_); rintro e w' ⟨rfl, ⟨nd, rfl⟩⟩; (try exact xE)) | (go_at_call 19; (try simp only [i64_w, i32_w]); (with_reducible refine (gamehallref1_In.calls ((rd_T46 l0_7 x76_4).f1) 0 (wrap64 ((l0_3.length : Int) - 1)) t223 _ A41.out).mono ?_); rintro e w' ⟨rfl, ⟨nd, rfl⟩⟩; (try exact xE))))
                   (try have hq220_212 := NB220_212.out); (try have hq212_220 := NB212_220.out); (try simp only [Act.put, List.setIfInBounds_toArray, List.set_cons_zero, List.set_cons_succ])
                   go_cut [10] (fun vs10 wc => ∃ (kq : Nat) (x10_41 : Bool), vs10 = .bool x10_41 ∧ Aside0 (gamehallref1_RulesError.j4 kq (l0_3.length : Int) x10_41 t223 l0_7 (l0_7.length : Int) x76_4 a0_0 a0_1 a0_2 l0_3 l0_4 a0_5 a0_6 l0_7 a0_8 a0_9 a0_10 ((rd_T46 l0_7 x76_4).f0) ((rd_T46 l0_7 x76_4).f1) ((rd_T46 l0_7 x76_4).f2) ((rd_T46 l0_7 x76_4).f3) = some r) ∧ Aside0 (kq ≤ k4) ∧ Aside0 (wc.heap[gb212]? = some (.cells #[.string a0_0, .int .i64 a0_1, .int .i64 a0_2, (.slice A0_3 l0_3.length c0_3), (.slice A0_4 l0_4.length c0_4), .bool a0_5, .bool a0_6, (.slice (some ad219) l0_7.length c0_7), .int .i64 a0_8, .int .i64 a0_9, .int .i64 a0_10] 26 (0, 0))) ∧ Aside0 (wc.heap[gb220]? = some (.cells #[.int .i64 ((rd_T46 l0_7 x76_4).f0), .int .i64 ((rd_T46 l0_7 x76_4).f1), .int .i64 ((rd_T46 l0_7 x76_4).f2), .bool ((rd_T46 l0_7 x76_4).f3)] 46 (0, 0))) ∧ Aside0 (Below w.heap.size w wc))
                   case first =>
                    have H := HC42.out; clear HC42
                    by_cases c46 : ((rd_T46 l0_7 x76_4).f0) = 1
                    ·rw [if_pos c46] at H; have c46b0 := beq_iff_eq.mpr c46; have c46b1 := bne_eq_false_iff_eq.mpr c46; clear c46
                     (first | rw [c46b0] | (simp only [i64_w, i32_w]; rw [c46b0]) | skip)
                     have H' := xm H; clear H; have hcz48_0 := blkc4 BK220.out
                     go_wp2
                     go_meet
                     case rel => exact ⟨_, ((((rd_T46 l0_7 x76_4).f2) == 0)), (xrf), H', ⟨by have := HJ3.out; have := HK2.out; have := HK3.out; have := HK4.out; first | omega | exact Nat.le_refl _⟩, ⟨xK BK212⟩, ⟨xQ BK220⟩, ⟨xW HB⟩⟩
                    ·rw [if_neg c46] at H; have c46b0 := beq_eq_false_iff_ne.mpr c46; have c46b1 := bne_iff_ne.mpr c46
                     (first | rw [c46b0] | (simp only [i64_w, i32_w]; rw [c46b0]) | skip)
                     have H' := xm H; clear H
                     go_wp2
                     go_meet
                     case rel => exact ⟨_, (t222), (xrf), H', ⟨by have := HJ3.out; have := HK2.out; have := HK3.out; have := HK4.out; first | omega | exact Nat.le_refl _⟩, ⟨xK BK212⟩, ⟨xQ BK220⟩, ⟨xW HB⟩⟩
                   case rest =>
                    clear HC42; (try clear p2); (try clear q2); (try clear hx2); (try clear p6); (try clear p21); (try clear q21); (try clear hx21); (try clear hx217_0); (try clear hx219_0); (try clear hx219_1); (try clear hx219_2); (try clear hx219_3); (try clear p217); (try clear p219); (try clear q217); (try clear q219); obtain ⟨kq, x10_41, rfl, HA, HJ41, BK212, BK220, HB⟩ := hcut
                    cases kq with
                    | zero => exact absurd HA.out (by simp [gamehallref1_RulesError.j4])
                    | succ kj41 =>
                     have H := HA.out; clear HA; simp only [gamehallref1_RulesError.j4] at H
                     by_cases c49 : ((rd_T46 l0_7 x76_4).f0) = 0
                     ·rw [if_pos c49] at H; have c49b0 := beq_iff_eq.mpr c49; have c49b1 := bne_eq_false_iff_eq.mpr c49; clear c49
                      by_cases c50 : x10_41 = true
                      ·subst c50; rw [if_pos rfl] at H
                       by_cases c51 : ((rd_T46 l0_7 x76_4).f1) = 0
                       ·rw [if_pos c51] at H; have c51b0 := beq_iff_eq.mpr c51; have c51b1 := bne_eq_false_iff_eq.mpr c51; clear c51; have H' := xm H; clear H; have hcz53_0 := blkc4 BK220.out
                        go_wp2
                        go_roundg kj41
                        case measure => have := HJ3.out; have := HK2.out; have := HK3.out; have := HK4.out; have := HJ41.out; omega
                        case rel => exact ⟨(wrap64 (x76_4 + 1)), (xrf), H', ⟨by have := HJ3.out; have := HK2.out; have := HK3.out; have := HK4.out; have := HJ41.out; omega⟩, ⟨xK BK212⟩, ⟨xW HB⟩⟩
                       ·rw [if_neg c51] at H; have c51b0 := beq_eq_false_iff_ne.mpr c51; have c51b1 := bne_iff_ne.mpr c51; obtain rfl := Option.some.inj H; have hcz55_0 := blkc4 BK220.out
                        go_wp2
                        go_ret; exact ⟨xer, xW HB⟩
                      ·obtain rfl := Bool.eq_false_iff.mpr c50; rw [if_neg xF] at H; obtain rfl := Option.some.inj H; have hcz57_0 := blkc4 BK220.out
                       go_wp2
                       go_ret; exact ⟨xer, xW HB⟩
                     ·rw [if_neg c49] at H; have c49b0 := beq_eq_false_iff_ne.mpr c49; have c49b1 := bne_iff_ne.mpr c49
                      by_cases c58 : x10_41 = true
                      ·subst c58; rw [if_pos rfl] at H
                       by_cases c59 : t223 = true
                       ·subst c59; rw [if_pos rfl] at H; have H' := xm H; clear H; have hcz61_0 := blkc4 BK220.out
                        go_wp2
                        go_roundg kj41
                        case measure => have := HJ3.out; have := HK2.out; have := HK3.out; have := HK4.out; have := HJ41.out; omega
                        case rel => exact ⟨(wrap64 (x76_4 + 1)), (xrf), H', ⟨by have := HJ3.out; have := HK2.out; have := HK3.out; have := HK4.out; have := HJ41.out; omega⟩, ⟨xK BK212⟩, ⟨xW HB⟩⟩
                       ·obtain rfl := Bool.eq_false_iff.mpr c59; rw [if_neg xF] at H; obtain rfl := Option.some.inj H; have hcz63_0 := blkc4 BK220.out
                        go_wp2
                        go_ret; exact ⟨xer, xW HB⟩
                      ·obtain rfl := Bool.eq_false_iff.mpr c58; rw [if_neg xF] at H; obtain rfl := Option.some.inj H; have hcz65_0 := blkc4 BK220.out
                       go_wp2
                       go_ret; exact ⟨xer, xW HB⟩
                  ·obtain rfl := Bool.eq_false_iff.mpr c39; rw [if_neg xF] at H; obtain rfl := Option.some.inj H; have p219 : 0 ≤ (x76_4 : Int) := xO; have q219 : x76_4 < (l0_7.length : Int) := xO; obtain ⟨ad219, e219, hx219_0, hx219_1, hx219_2, hx219_3⟩ := at_T46 HR0_7.out x76_4 p219 q219
                   cases e219
                   (first | replace hx219_0 := xR HB hx219_0 | skip); (first | replace hx219_1 := xR HB hx219_1 | skip); (first | replace hx219_2 := xR HB hx219_2 | skip); (first | replace hx219_3 := xR HB hx219_3 | skip); replace p219 := eq_true p219; replace q219 := eq_true q219
                   go_wp2_with (first | ((with_reducible refine gate_dst (N := 9) rfl ?_); refine xG (cs := #[.int .i64 0, .int .i64 0, .int .i64 0, .bool false]) (t := 46) ?_; intro gb220 hg w66 hbox hb; have BK220 := xm (hbox); have GW220 := xZ HB hg; have GE220 := xZ HB hg; have NB212_220 := xN BK212 hg; have NB220_212 := xM BK212 hg; replace BK212 := xB BK212 hb; replace HB := xS HB hb; clear hb hbox hg; have hnb67 := NB220_212.out; have hnc67 := NB212_220.out; have hcz68_0 := blkc4 BK220.out) | (go_at_call 19; (with_reducible refine (gamehallref1_In.calls ((rd_T46 l0_7 x76_4).f0) 0 2 false _ A38.out).mono ?_); rintro e w' ⟨rfl, ⟨nd, rfl⟩⟩; (try exact xE))); go_ret; exact ⟨xer, xW HB⟩
                 ·rw [if_neg c35] at H; have c35b0 := decide_eq_false c35; clear c35; obtain ⟨t224, A69, H⟩ := xH H; (try dsimp only at H)
                  by_cases c70 : t224 = true
                  ·subst c70; rw [if_pos rfl] at H; obtain ⟨t225, A71, H⟩ := xH H; (try dsimp only at H)
                   by_cases c72 : t225 = true
                   ·subst c72; rw [if_pos rfl] at H
                    by_cases c73 : a0_10 = 0
                    ·rw [if_pos c73] at H; have c73b0 := beq_iff_eq.mpr c73; have c73b1 := bne_eq_false_iff_eq.mpr c73; clear c73; obtain rfl := Option.some.inj H; have hcz74_0 := blkc11 BK212.out; go_wp2_with (first | (go_at_call 19; (with_reducible refine (gamehallref1_In.calls a0_8 0 2 true _ A69.out).mono ?_); rintro e w' ⟨rfl, ⟨nd, rfl⟩⟩; (try exact xE)) | (go_at_call 19; (with_reducible refine (gamehallref1_In.calls a0_9 0 200 true _ A71.out).mono ?_); rintro e w' ⟨rfl, ⟨nd, rfl⟩⟩; (try exact xE))); go_ret; exact ⟨xer, xW HB⟩
                    ·rw [if_neg c73] at H; have c73b0 := beq_eq_false_iff_ne.mpr c73; have c73b1 := bne_iff_ne.mpr c73; replace H := Option.bind_eq_some_iff.mp H; obtain ⟨t226, A750, H⟩ := H; replace H : (if t226 = true then (some 0) else (some 4)) = some r := H; have A75 := xm A750; clear A750
                     by_cases c76 : t226 = true
                     ·subst c76; rw [if_pos rfl] at H; obtain rfl := Option.some.inj H; have hcz77_0 := blkc11 BK212.out; go_wp2_with (first | (go_at_call 19; (with_reducible refine (gamehallref1_In.calls a0_8 0 2 true _ A69.out).mono ?_); rintro e w' ⟨rfl, ⟨nd, rfl⟩⟩; (try exact xE)) | (go_at_call 19; (with_reducible refine (gamehallref1_In.calls a0_9 0 200 true _ A71.out).mono ?_); rintro e w' ⟨rfl, ⟨nd, rfl⟩⟩; (try exact xE)) | (go_at_call 19; (with_reducible refine (gamehallref1_In.calls a0_10 2 5 true _ A75.out).mono ?_); rintro e w' ⟨rfl, ⟨nd, rfl⟩⟩; (try exact xE))); go_ret; exact ⟨xer, xW HB⟩
                     ·obtain rfl := Bool.eq_false_iff.mpr c76; rw [if_neg xF] at H; obtain rfl := Option.some.inj H; have hcz78_0 := blkc11 BK212.out; go_wp2_with (first | (go_at_call 19; (with_reducible refine (gamehallref1_In.calls a0_8 0 2 true _ A69.out).mono ?_); rintro e w' ⟨rfl, ⟨nd, rfl⟩⟩; (try exact xE)) | (go_at_call 19; (with_reducible refine (gamehallref1_In.calls a0_9 0 200 true _ A71.out).mono ?_); rintro e w' ⟨rfl, ⟨nd, rfl⟩⟩; (try exact xE)) | (go_at_call 19; (with_reducible refine (gamehallref1_In.calls a0_10 2 5 false _ A75.out).mono ?_); rintro e w' ⟨rfl, ⟨nd, rfl⟩⟩; (try exact xE))); go_ret; exact ⟨xer, xW HB⟩
                   ·obtain rfl := Bool.eq_false_iff.mpr c72; rw [if_neg xF] at H; obtain rfl := Option.some.inj H; have hcz79_0 := blkc11 BK212.out; go_wp2_with (first | (go_at_call 19; (with_reducible refine (gamehallref1_In.calls a0_8 0 2 true _ A69.out).mono ?_); rintro e w' ⟨rfl, ⟨nd, rfl⟩⟩; (try exact xE)) | (go_at_call 19; (with_reducible refine (gamehallref1_In.calls a0_9 0 200 false _ A71.out).mono ?_); rintro e w' ⟨rfl, ⟨nd, rfl⟩⟩; (try exact xE))); go_ret; exact ⟨xer, xW HB⟩
                  ·obtain rfl := Bool.eq_false_iff.mpr c70; rw [if_neg xF] at H; obtain rfl := Option.some.inj H; have hcz80_0 := blkc11 BK212.out; go_wp2_with (first | (go_at_call 19; (with_reducible refine (gamehallref1_In.calls a0_8 0 2 false _ A69.out).mono ?_); rintro e w' ⟨rfl, ⟨nd, rfl⟩⟩; (try exact xE))); go_ret; exact ⟨xer, xW HB⟩
          ·rw [if_neg c25] at H; have c25b0 := beq_eq_false_iff_ne.mpr c25; have c25b1 := bne_iff_ne.mpr c25; obtain rfl := Option.some.inj H; have hcz81_0 := blkc11 BK212.out
           go_wp2
           go_ret; exact ⟨xer, xW HB⟩
 ·obtain rfl := Bool.eq_false_iff.mpr c3; rw [if_neg xF] at H; obtain rfl := Option.some.inj H; go_enter Tryd.func10, Tryd.ntmps10; go_wp2_with (first | ((with_reducible refine gate_dst (N := 1) rfl ?_); refine xG (cs := #[.string a0_0, .int .i64 a0_1, .int .i64 a0_2, .slice A0_3 l0_3.length c0_3, .slice A0_4 l0_4.length c0_4, .bool a0_5, .bool a0_6, .slice A0_7 l0_7.length c0_7, .int .i64 a0_8, .int .i64 a0_9, .int .i64 a0_10]) (t := 26) ?_; intro gb212 hg w82 hbox hb; have BK212 := xm (hbox); have GW212 := xZ HB hg; have GE212 := xZ HB hg; replace HB := xS HB hb; clear hb hbox hg; have hcz83_0 := blkc11 BK212.out) | (go_at_call 22; (with_reducible refine (gamehallref1_Named.calls k a0_0 false _ A2.out).mono ?_); rintro e w' ⟨rfl, ⟨nd, rfl⟩⟩; (try exact xE))); go_ret; exact ⟨xer, xW HB⟩

end Go.Proofs.YtloadbbndnmdlaaDoor.PPlaceChecks
