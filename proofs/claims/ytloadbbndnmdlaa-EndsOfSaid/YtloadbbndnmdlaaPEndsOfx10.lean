-- Printed by a program of this claim's writer (wip/ext): an extension of the kit's print.
import Derived.Test.YtloadbbndnmdlaaPEndsOfx0
import Derived.Test.YtloadbbndnmdlaaPEndsOfx7
import Derived.Test.YtloadbbndnmdlaaPEndsOfx9
namespace Go.Proofs.Ytloadbbndnmdlaa.PEndsOf
open Go.RowKit Go.Proofs.YtloadbbndnmdlaaW.PrintWords Go.Proofs.YtloadbbndnmdlaaW.PrintLast Go.Proofs.YtloadbbndnmdlaaW.PrintMore
set_option maxHeartbeats 8000000
set_option maxRecDepth 100000
attribute [local go_sem] max2_int min2_int max_two min_two max_three min_three max_four min_four   -- for this text's walks alone
set_option linter.unusedVariables false
set_option linter.unusedSimpArgs false

/-! ### gamehallref1_PlaceError: function 10 -/
mutual
def gamehallref1_PlaceError.j0 : Nat → Int → Bool → List Int → List Int → List Int → Int → Int → Option (Int)
  | 0, _, _, _, _, _, _, _ => none
  | k + 1, x6, x46, z257a, z257b, z257c, z257d, z257e => if x46 = true then (some 3) else ((gamehallref1_In.f z257d 0 1).bind fun t258 => (if t258 = true then ((gamehallref1_In.f z257e 0 200).bind fun t259 => (gamehallref1_PlaceError.j1 k x6 t259 z257a z257b z257c z257d z257e)) else (gamehallref1_PlaceError.j1 k x6 false z257a z257b z257c z257d z257e)))
def gamehallref1_PlaceError.j1 : Nat → Int → Bool → List Int → List Int → List Int → Int → Int → Option (Int)
  | 0, _, _, _, _, _, _, _ => none
  | k + 1, x6, x7, z257a, z257b, z257c, z257d, z257e => gamehallref1_PlaceError.l0 k x6 x7 z257a (z257a.length : Int) 0 z257a z257b z257c z257d z257e
def gamehallref1_PlaceError.l0 : Nat → Int → Bool → List Int → Int → Int → List Int → List Int → List Int → Int → Int → Option (Int)
  | 0, _, _, _, _, _, _, _, _, _, _ => none
  | k + 1, x6, x7, x56, x57, x58, z257a, z257b, z257c, z257d, z257e => if x58 < x57 then (if 0 ≤ x58 then (if x58 < (x56.length : Int) then (if x7 = true then ((gamehallref1_In.f (rd x56 x58) 0 (wrap64 (2 * x6))).bind fun t261 => (gamehallref1_PlaceError.l0 k x6 t261 x56 x57 (wrap64 (x58 + 1)) z257a z257b z257c z257d z257e)) else (gamehallref1_PlaceError.l0 k x6 false x56 x57 (wrap64 (x58 + 1)) z257a z257b z257c z257d z257e)) else (none)) else (none)) else (gamehallref1_PlaceError.l1 k x7 0 z257b z257c)
def gamehallref1_PlaceError.l1 : Nat → Bool → Int → List Int → List Int → Option (Int)
  | 0, _, _, _, _ => none
  | k + 1, x7, x72, x90, x91 => if x72 < 2 then (if 0 ≤ x72 then (if x72 = 0 then (gamehallref1_PlaceError.j4 k x7 x90 x72 x90 x91) else (gamehallref1_PlaceError.j4 k x7 x91 x72 x90 x91)) else (none)) else (if x7 = true then (some 0) else (some 4))
def gamehallref1_PlaceError.j4 : Nat → Bool → List Int → Int → List Int → List Int → Option (Int)
  | 0, _, _, _, _, _ => none
  | k + 1, x7, x11, x72, x90, x91 => gamehallref1_PlaceError.l2 k x7 x72 x11 (x11.length : Int) 0 x90 x91
def gamehallref1_PlaceError.l2 : Nat → Bool → Int → List Int → Int → Int → List Int → List Int → Option (Int)
  | 0, _, _, _, _, _, _, _ => none
  | k + 1, x7, x72, x75, x76, x77, x90, x91 => if x77 < x76 then (if 0 ≤ x77 then (if x77 < (x75.length : Int) then (if x7 = true then ((gamehallref1_In.f (rd x75 x77) 0 1000).bind fun t263 => (gamehallref1_PlaceError.l2 k t263 x72 x75 x76 (wrap64 (x77 + 1)) x90 x91)) else (gamehallref1_PlaceError.l2 k false x72 x75 x76 (wrap64 (x77 + 1)) x90 x91)) else (none)) else (none)) else (gamehallref1_PlaceError.l1 k x7 (wrap64 (x72 + 1)) x90 x91)
end
def gamehallref1_PlaceError.f (k : Nat) (a0_0 : ByteArray) (a0_1 : Int) (a0_2 : Int) (l0_3 : List (S62)) (l0_4 : List Int) (a0_5 : Bool) (a0_6 : Bool) (l0_7 : List (S64)) (a0_8 : Int) (a0_9 : Int) (a0_10 : Int) (l1_0 : List Int) (l1_1 : List Int) (l1_2 : List Int) (a1_3 : Int) (a1_4 : Int) : Option (Int) := (gamehallref1_RulesError.f k a0_0 a0_1 a0_2 l0_3 l0_4 a0_5 a0_6 l0_7 a0_8 a0_9 a0_10).bind fun t257 => (if t257 = 0 then (if (l1_0.length : Int) = (wrap64 (a0_1 * a0_2)) then (if (l1_1.length : Int) = (l0_3.length : Int) then (gamehallref1_PlaceError.j0 k (l0_3.length : Int) ((l1_2.length : Int) != (l0_3.length : Int)) l1_0 l1_1 l1_2 a1_3 a1_4) else (gamehallref1_PlaceError.j0 k (l0_3.length : Int) true l1_0 l1_1 l1_2 a1_3 a1_4)) else (gamehallref1_PlaceError.j0 k (l0_3.length : Int) true l1_0 l1_1 l1_2 a1_3 a1_4)) else (some t257))
theorem gamehallref1_PlaceError.mono_l : ∀ k, L5 (LM (LM (LeO))) (gamehallref1_PlaceError.j0 k) (gamehallref1_PlaceError.j0 (k + 1)) ∧ L5 (LM (LM (LeO))) (gamehallref1_PlaceError.j1 k) (gamehallref1_PlaceError.j1 (k + 1)) ∧ L10 (LeO) (gamehallref1_PlaceError.l0 k) (gamehallref1_PlaceError.l0 (k + 1)) ∧ LM (LM (LM (LM (LeO)))) (gamehallref1_PlaceError.l1 k) (gamehallref1_PlaceError.l1 (k + 1)) ∧ L5 (LeO) (gamehallref1_PlaceError.j4 k) (gamehallref1_PlaceError.j4 (k + 1)) ∧ L5 (LM (LM (LeO))) (gamehallref1_PlaceError.l2 k) (gamehallref1_PlaceError.l2 (k + 1))
  | 0 => by refine ⟨?_, ?_, ?_, ?_, ?_, ?_⟩ <;> (repeat (first | exact LeO.none _ | intro _))
  | k + 1 => by
    obtain ⟨ih0, ih1, ih2, ih3, ih4, ih5⟩ := gamehallref1_PlaceError.mono_l k
    refine ⟨?_, ?_, ?_, ?_, ?_, ?_⟩ <;> ((repeat (first | (with_reducible refine LeO.st ?_) | intro _)); constructor; (first | unfold gamehallref1_PlaceError.j0 | unfold gamehallref1_PlaceError.j1 | unfold gamehallref1_PlaceError.l0 | unfold gamehallref1_PlaceError.l1 | unfold gamehallref1_PlaceError.j4 | unfold gamehallref1_PlaceError.l2); repeat' first | (with_reducible first | apply ih0 | apply ih1 | apply ih2 | apply ih3 | apply ih4 | apply ih5 | apply gamehallref1_RulesError.mono | exact LeO.refl _ | exact LeO.none _ | refine LeO.ite ?_ ?_ | refine LeO.bind ?_ (fun _ => ?_)) | apply ih0 | apply ih1 | apply ih2 | apply ih3 | apply ih4 | apply ih5 | apply gamehallref1_RulesError.mono | exact LeO.none _ | refine LeO.ite ?_ ?_ | refine LeO.bind ?_ (fun _ => ?_))
theorem gamehallref1_PlaceError.mono : ∀ a0 a1 a2 a3 a4 a5 a6 a7 a8 a9 a10 a11 a12 a13 a14 a15 k, LeO (gamehallref1_PlaceError.f k a0 a1 a2 a3 a4 a5 a6 a7 a8 a9 a10 a11 a12 a13 a14 a15) (gamehallref1_PlaceError.f (k + 1) a0 a1 a2 a3 a4 a5 a6 a7 a8 a9 a10 a11 a12 a13 a14 a15) := by
  intros; rename_i k
  obtain ⟨ih0, ih1, ih2, ih3, ih4, ih5⟩ := gamehallref1_PlaceError.mono_l k
  unfold gamehallref1_PlaceError.f
  repeat' first | (with_reducible first | apply ih0 | apply ih1 | apply ih2 | apply ih3 | apply ih4 | apply ih5 | apply gamehallref1_RulesError.mono | exact LeO.refl _ | exact LeO.none _ | refine LeO.ite ?_ ?_ | refine LeO.bind ?_ (fun _ => ?_)) | apply ih0 | apply ih1 | apply ih2 | apply ih3 | apply ih4 | apply ih5 | apply gamehallref1_RulesError.mono | exact LeO.none _ | refine LeO.ite ?_ ?_ | refine LeO.bind ?_ (fun _ => ?_)
theorem gamehallref1_PlaceError.calls (k : Nat) (a0_0 : ByteArray) (a0_1 : Int) (a0_2 : Int) (A0_3 : Option Addr) (c0_3 : Nat) (l0_3 : List (S62)) (A0_4 : Option Addr) (c0_4 : Nat) (l0_4 : List Int) (a0_5 : Bool) (a0_6 : Bool) (A0_7 : Option Addr) (c0_7 : Nat) (l0_7 : List (S64)) (a0_8 : Int) (a0_9 : Int) (a0_10 : Int) (A1_0 : Option Addr) (c1_0 : Nat) (l1_0 : List Int) (A1_1 : Option Addr) (c1_1 : Nat) (l1_1 : List Int) (A1_2 : Option Addr) (c1_2 : Nat) (l1_2 : List Int) (a1_3 : Int) (a1_4 : Int) (r : Int) (w : World) (hr0_3 : Kd.C k62 w A0_3 l0_3.length l0_3) (hc0_3 : l0_3.length ≤ c0_3) (hr0_4 : Kd.C (Kd.int .i64) w A0_4 l0_4.length l0_4) (hc0_4 : l0_4.length ≤ c0_4) (hr0_7 : Kd.C k64 w A0_7 l0_7.length l0_7) (hc0_7 : l0_7.length ≤ c0_7) (hr1_0 : Kd.C (Kd.int .i64) w A1_0 l1_0.length l1_0) (hc1_0 : l1_0.length ≤ c1_0) (hr1_1 : Kd.C (Kd.int .i64) w A1_1 l1_1.length l1_1) (hc1_1 : l1_1.length ≤ c1_1) (hr1_2 : Kd.C (Kd.int .i64) w A1_2 l1_2.length l1_2) (hc1_2 : l1_2.length ≤ c1_2) (h : gamehallref1_PlaceError.f k a0_0 a0_1 a0_2 l0_3 l0_4 a0_5 a0_6 l0_7 a0_8 a0_9 a0_10 l1_0 l1_1 l1_2 a1_3 a1_4 = some r) :
    Calls Try.prog 10 #[.agg #[.string a0_0, .int .i64 a0_1, .int .i64 a0_2, .slice A0_3 l0_3.length c0_3, .slice A0_4 l0_4.length c0_4, .bool a0_5, .bool a0_6, .slice A0_7 l0_7.length c0_7, .int .i64 a0_8, .int .i64 a0_9, .int .i64 a0_10], .agg #[.slice A1_0 l1_0.length c1_0, .slice A1_1 l1_1.length c1_1, .slice A1_2 l1_2.length c1_2, .int .i64 a1_3, .int .i64 a1_4]] w fun e w' => e = .returned (.int .i64 r) ∧ Below w.heap.size w w' := by
 have hu26 := Try.underlying26; have hu29 := Try.underlying29; have hu27 := Try.underlying27; have HR0_3 := xm hr0_3; have HC0_3 := xm hc0_3; clear hr0_3 hc0_3; have HR0_4 := xm hr0_4; have HC0_4 := xm hc0_4; clear hr0_4 hc0_4; have HR0_7 := xm hr0_7; have HC0_7 := xm hc0_7; clear hr0_7 hc0_7; have HR1_0 := xm hr1_0; have HC1_0 := xm hc1_0; clear hr1_0 hc1_0; have HR1_1 := xm hr1_1; have HC1_1 := xm hc1_1; clear hr1_1 hc1_1; have HR1_2 := xm hr1_2; have HC1_2 := xm hc1_2; clear hr1_2 hc1_2; have HB := xm (Below.refl w.heap.size w); have hss_ := @isSome_setCell
 have H : ((gamehallref1_RulesError.f k a0_0 a0_1 a0_2 l0_3 l0_4 a0_5 a0_6 l0_7 a0_8 a0_9 a0_10).bind fun t257 => (if t257 = 0 then (if (l1_0.length : Int) = (wrap64 (a0_1 * a0_2)) then (if (l1_1.length : Int) = (l0_3.length : Int) then (gamehallref1_PlaceError.j0 k (l0_3.length : Int) ((l1_2.length : Int) != (l0_3.length : Int)) l1_0 l1_1 l1_2 a1_3 a1_4) else (gamehallref1_PlaceError.j0 k (l0_3.length : Int) true l1_0 l1_1 l1_2 a1_3 a1_4)) else (gamehallref1_PlaceError.j0 k (l0_3.length : Int) true l1_0 l1_1 l1_2 a1_3 a1_4)) else (some t257))) = some r := h
 clear h; replace H := Option.bind_eq_some_iff.mp H
 obtain ⟨t257, A30, H⟩ := H
 try dsimp only at H
 have A3 := xm A30; clear A30; have DA3 := xm fun (W_ : World) (hb_ : Below w.heap.size w W_) => gamehallref1_RulesError.calls k a0_0 a0_1 a0_2 _ _ l0_3 _ _ l0_4 a0_5 a0_6 _ _ l0_7 a0_8 a0_9 a0_10 t257 W_ (Kd.C_below HR0_3.out hb_) HC0_3.out (Kd.C_below HR0_4.out hb_) HC0_4.out (Kd.C_below HR0_7.out hb_) HC0_7.out A3.out
 by_cases c4 : t257 = 0
 ·rw [if_pos c4] at H
  have c4b0 := beq_iff_eq.mpr c4
  have c4b1 := bne_eq_false_iff_eq.mpr c4
  clear c4; have HC5 := xm H; clear H
  go_enter Try.func10, Try.ntmps10
  go_upto_region 5 with (first | ((with_reducible refine gate_dst (N := 2) rfl ?_); (try (refine gate_guard (by rfl) ?_; dsimp only)); refine xG (cs := #[.string a0_0, .int .i64 a0_1, .int .i64 a0_2, .slice A0_3 l0_3.length c0_3, .slice A0_4 l0_4.length c0_4, .bool a0_5, .bool a0_6, .slice A0_7 l0_7.length c0_7, .int .i64 a0_8, .int .i64 a0_9, .int .i64 a0_10]) (t := 26) ?_; intro gb255 hg w6 hbox hb; have BK255 := xm (hbox); have GW255 := xm (xZ HB hg); have GE255 := xm (xZ HB hg); replace HB := xm (xS HB hb); clear hb hbox hg) | ((with_reducible refine gate_dst (N := 3) rfl ?_); (try (refine gate_guard (by rfl) ?_; dsimp only)); refine xG (cs := #[.slice A1_0 l1_0.length c1_0, .slice A1_1 l1_1.length c1_1, .slice A1_2 l1_2.length c1_2, .int .i64 a1_3, .int .i64 a1_4]) (t := 29) ?_; intro gb256 hg w7 hbox hb; have BK256 := xm (hbox); have GW256 := xm (xZ HB hg); have GE256 := xm (xZ HB hg); have NB255_256 := xm (xN BK255 hg); have NB256_255 := xm (xM BK255 hg); replace BK255 := xm (xB BK255 hb); replace HB := xm (xS HB hb); clear hb hbox hg; have hnb8 := NB255_256.out; have hnc8 := NB256_255.out; have hcz9_0 := blkc11 BK255.out) | ((with_reducible refine gate_callee (f := 28) rfl ?_); refine xL (some 15) Try.func28 #[.agg #[.string a0_0, .int .i64 a0_1, .int .i64 a0_2, .slice A0_3 l0_3.length c0_3, .slice A0_4 l0_4.length c0_4, .bool a0_5, .bool a0_6, .slice A0_7 l0_7.length c0_7, .int .i64 a0_8, .int .i64 a0_9, .int .i64 a0_10]] rfl ?_; (with_reducible refine (DA3.out _ ?sB).mono ?_); (case sB => exact xW HB); rintro e w10 ⟨rfl, hb⟩; refine ⟨_, rfl, ?_⟩; replace BK255 := xm (xB BK255 hb); replace BK256 := xm (xB BK256 hb); replace HB := xm (xS HB hb); (try clear hb); (try clear hb2); (try clear hk); (try clear hi); have hcz11_0 := blkc11 BK255.out))
  (try have hq256_255 := NB256_255.out); (try have hq255_256 := NB255_256.out)
  (try simp only [Act.put, List.setIfInBounds_toArray, List.set_cons_zero, List.set_cons_succ])
  go_cut [46] (fun vs46 wc => ∃ (kq : Nat) (x46_4 : Bool), vs46 = .bool x46_4 ∧ Aside0 (gamehallref1_PlaceError.j0 kq (l0_3.length : Int) x46_4 l1_0 l1_1 l1_2 a1_3 a1_4 = some r) ∧ Aside0 (kq ≤ k) ∧ Aside0 (wc.heap[gb255]? = some (.cells #[.string a0_0, .int .i64 a0_1, .int .i64 a0_2, (.slice A0_3 l0_3.length c0_3), (.slice A0_4 l0_4.length c0_4), .bool a0_5, .bool a0_6, (.slice A0_7 l0_7.length c0_7), .int .i64 a0_8, .int .i64 a0_9, .int .i64 a0_10] 26 (0, 0))) ∧ Aside0 (wc.heap[gb256]? = some (.cells #[(.slice A1_0 l1_0.length c1_0), (.slice A1_1 l1_1.length c1_1), (.slice A1_2 l1_2.length c1_2), .int .i64 a1_3, .int .i64 a1_4] 29 (0, 0))) ∧ Aside0 (Below w.heap.size w wc))
  case first =>
   have H := HC5.out; clear HC5
   by_cases c12 : (l1_0.length : Int) = (wrap64 (a0_1 * a0_2))
   ·rw [if_pos c12] at H
    have c12b0 := beq_iff_eq.mpr c12
    have c12b1 := bne_eq_false_iff_eq.mpr c12
    clear c12
    (first | rw [c12b0] | (simp only [i64_w, i32_w]; rw [c12b0]) | skip)
    by_cases c13 : (l1_1.length : Int) = (l0_3.length : Int)
    ·rw [if_pos c13] at H
     have c13b0 := beq_iff_eq.mpr c13
     have c13b1 := bne_eq_false_iff_eq.mpr c13
     have c13b2 : (l1_1.length == l0_3.length) = true := by first | simpa using c13 | (simp at c13 ⊢; omega)
     clear c13
     have H' := xm H
     clear H; have hcz15_0 := blkc5 BK256.out; have hcz16_0 := blkc11 BK255.out
     go_wp2
     go_meet
     case rel => exact ⟨_, (((l1_2.length : Int) != (l0_3.length : Int))), (xrf), H', ⟨by first | omega | exact Nat.le_refl _⟩, ⟨xK BK255⟩, ⟨xK BK256⟩, ⟨xW HB⟩⟩
    ·rw [if_neg c13] at H
     have c13b0 := beq_eq_false_iff_ne.mpr c13
     have c13b1 := bne_iff_ne.mpr c13
     have c13b2 : (l1_1.length == l0_3.length) = false := by first | simpa using c13 | (simp at c13 ⊢; omega)
     have H' := xm H
     clear H; have hcz18_0 := blkc5 BK256.out; have hcz19_0 := blkc11 BK255.out
     go_wp2
     go_meet
     case rel => exact ⟨_, (true), (xrf), H', ⟨by first | omega | exact Nat.le_refl _⟩, ⟨xK BK255⟩, ⟨xK BK256⟩, ⟨xW HB⟩⟩
   ·rw [if_neg c12] at H
    have c12b0 := beq_eq_false_iff_ne.mpr c12
    have c12b1 := bne_iff_ne.mpr c12
    (first | rw [c12b0] | (simp only [i64_w, i32_w]; rw [c12b0]) | skip)
    have H' := xm H
    clear H; have hcz21_0 := blkc5 BK256.out; have hcz22_0 := blkc11 BK255.out
    go_wp2
    go_meet
    case rel => exact ⟨_, (true), (xrf), H', ⟨by first | omega | exact Nat.le_refl _⟩, ⟨xK BK255⟩, ⟨xK BK256⟩, ⟨xW HB⟩⟩
  case rest =>
   clear HC5; (try clear p2); (try clear p6)
   obtain ⟨kq, x46_4, rfl, HA, HJ4, BK255, BK256, HB⟩ := hcut
   cases kq with
   | zero => exact absurd HA.out (by simp [gamehallref1_PlaceError.j0])
   | succ kj4 =>
    have H := HA.out; clear HA
    simp only [gamehallref1_PlaceError.j0] at H
    by_cases c23 : x46_4 = true
    ·subst c23
     rw [if_pos rfl] at H
     obtain rfl := Option.some.inj H
     go_wp2
     go_ret
     exact ⟨xer, xW HB⟩
    ·replace c23 := Bool.eq_false_iff.mpr c23
     subst c23
     rw [if_neg xF] at H
     have HC24 := xm H; clear H
     go_upto_region 7 with (fail)
     go_cut [7] (fun vs7 wc => ∃ (kq : Nat) (x7_23 : Bool), vs7 = .bool x7_23 ∧ Aside0 (gamehallref1_PlaceError.j1 kq (l0_3.length : Int) x7_23 l1_0 l1_1 l1_2 a1_3 a1_4 = some r) ∧ Aside0 (kq ≤ kj4) ∧ Aside0 (wc.heap[gb255]? = some (.cells #[.string a0_0, .int .i64 a0_1, .int .i64 a0_2, (.slice A0_3 l0_3.length c0_3), (.slice A0_4 l0_4.length c0_4), .bool a0_5, .bool a0_6, (.slice A0_7 l0_7.length c0_7), .int .i64 a0_8, .int .i64 a0_9, .int .i64 a0_10] 26 (0, 0))) ∧ Aside0 (wc.heap[gb256]? = some (.cells #[(.slice A1_0 l1_0.length c1_0), (.slice A1_1 l1_1.length c1_1), (.slice A1_2 l1_2.length c1_2), .int .i64 a1_3, .int .i64 a1_4] 29 (0, 0))) ∧ Aside0 (Below w.heap.size w wc))
     case first =>
      have H := HC24.out; clear HC24; replace H := Option.bind_eq_some_iff.mp H
      obtain ⟨t258, A250, H⟩ := H
      try dsimp only at H
      have A25 := xm A250; clear A250
      by_cases c26 : t258 = true
      ·subst c26
       rw [if_pos rfl] at H
       replace H := Option.bind_eq_some_iff.mp H
       obtain ⟨t259, A270, H⟩ := H
       replace H : (gamehallref1_PlaceError.j1 kj4 (l0_3.length : Int) t259 l1_0 l1_1 l1_2 a1_3 a1_4) = some r := H
       have A27 := xm A270; clear A270
       have H' := xm H
       clear H; have hcz29_0 := blkc5 BK256.out
       go_wp2_with (first | ((with_reducible refine gate_callee (f := 29) rfl ?_); refine xL (some 49) Try.func29 #[.int .i64 a1_3, .int .i64 0, .int .i64 1] rfl ?_; (with_reducible refine (gamehallref1_In.calls a1_3 0 1 true _ A25.out).mono ?_); rintro e w' ⟨rfl, ⟨nd, rfl⟩⟩; refine ⟨_, rfl, ?_⟩) | (go_at_call 29; (with_reducible refine (gamehallref1_In.calls a1_4 0 200 t259 _ A27.out).mono ?_); rintro e w' ⟨rfl, ⟨nd, rfl⟩⟩))
       go_meet
       case rel => exact ⟨_, (t259), (xrf), H', ⟨by have := HJ4.out; first | omega | exact Nat.le_refl _⟩, ⟨xK BK255⟩, ⟨xK BK256⟩, ⟨xW HB⟩⟩
      ·replace c26 := Bool.eq_false_iff.mpr c26
       subst c26
       rw [if_neg xF] at H
       have H' := xm H
       clear H; have hcz31_0 := blkc5 BK256.out
       go_wp2_with (first | ((with_reducible refine gate_callee (f := 29) rfl ?_); refine xL (some 49) Try.func29 #[.int .i64 a1_3, .int .i64 0, .int .i64 1] rfl ?_; (with_reducible refine (gamehallref1_In.calls a1_3 0 1 false _ A25.out).mono ?_); rintro e w' ⟨rfl, ⟨nd, rfl⟩⟩; refine ⟨_, rfl, ?_⟩))
       go_meet
       case rel => exact ⟨_, (false), (xrf), H', ⟨by have := HJ4.out; first | omega | exact Nat.le_refl _⟩, ⟨xK BK255⟩, ⟨xK BK256⟩, ⟨xW HB⟩⟩
     case rest =>
      clear HC24; (try clear p2); (try clear p6); (try clear p2); (try clear p6)
      obtain ⟨kq, x7_23, rfl, HA, HJ23, BK255, BK256, HB⟩ := hcut
      cases kq with
      | zero => exact absurd HA.out (by simp [gamehallref1_PlaceError.j1])
      | succ kj23 =>
       have H := HA.out; clear HA
       simp only [gamehallref1_PlaceError.j1] at H
       have H' := xm H
       clear H; have hcz33_0 := blkc5 BK256.out
       go_wp2
       go_loopg [7, 58] kj23 (fun kq vs7 vs58 w' => ∃ (x7_3 : Bool) (x58_3 : Int), vs7 = .bool x7_3 ∧ vs58 = .int .i64 x58_3 ∧ Aside0 (gamehallref1_PlaceError.l0 kq (l0_3.length : Int) x7_3 l1_0 (l1_0.length : Int) x58_3 l1_0 l1_1 l1_2 a1_3 a1_4 = some r) ∧ Aside0 (kq ≤ kj23) ∧ Aside0 (w'.heap[gb255]? = some (.cells #[.string a0_0, .int .i64 a0_1, .int .i64 a0_2, (.slice A0_3 l0_3.length c0_3), (.slice A0_4 l0_4.length c0_4), .bool a0_5, .bool a0_6, (.slice A0_7 l0_7.length c0_7), .int .i64 a0_8, .int .i64 a0_9, .int .i64 a0_10] 26 (0, 0))) ∧ Aside0 (w'.heap[gb256]? = some (.cells #[(.slice A1_0 l1_0.length c1_0), (.slice A1_1 l1_1.length c1_1), (.slice A1_2 l1_2.length c1_2), .int .i64 a1_3, .int .i64 a1_4] 29 (0, 0))) ∧ Aside0 (Below w.heap.size w w'))
       case atStart => exact ⟨(x7_23), (0), (xrf), (xrf), H', ⟨Nat.le_refl _⟩, ⟨xK BK255⟩, ⟨xK BK256⟩, ⟨xW HB⟩⟩
       case round =>
        clear H'; (try clear p2); (try clear p6); (try clear p2); (try clear p6)
        obtain ⟨x7_3, x58_3, rfl, rfl, HA, HK3, BK255, BK256, HB⟩ := hrel
        cases gk with
        | zero => exact absurd HA.out (by simp [gamehallref1_PlaceError.l0])
        | succ k3 =>
         have H := HA.out; clear HA
         simp only [gamehallref1_PlaceError.l0] at H
         by_cases c34 : x58_3 < (l1_0.length : Int)
         ·rw [if_pos c34] at H
          have c34b0 := decide_eq_true c34
          clear c34
          by_cases c35 : 0 ≤ x58_3
          ·rw [if_pos c35] at H
           have c35b0 := decide_eq_true c35
           clear c35
           by_cases c36 : x58_3 < (l1_0.length : Int)
           ·rw [if_pos c36] at H
            have c36b0 := decide_eq_true c36
            clear c36
            by_cases c37 : x7_3 = true
            ·subst c37
             rw [if_pos rfl] at H
             replace H := Option.bind_eq_some_iff.mp H
             obtain ⟨t261, A380, H⟩ := H
             try dsimp only at H
             have A38 := xm A380; clear A380
             have H' := xm H
             clear H
             have p260 : 0 ≤ (x58_3 : Int) := xO
             have q260 : x58_3 < (l1_0.length : Int) := xO
             obtain ⟨ad260, e260, hx260_0⟩ := Kd.at_int HR1_0.out x58_3 p260 q260
             cases e260
             replace hx260_0 := xR HB hx260_0; replace p260 := eq_true p260; replace q260 := eq_true q260
             go_wp2_with (first | (go_at_call 29; (with_reducible refine (gamehallref1_In.calls (rd l1_0 x58_3) 0 (wrap64 (2 * (l0_3.length : Int))) t261 _ A38.out).mono ?_); rintro e w' ⟨rfl, ⟨nd, rfl⟩⟩))
             go_roundg k3
             case measure => have := HJ4.out; have := HJ23.out; have := HK3.out; omega
             case rel => exact ⟨(t261), (wrap64 (x58_3 + 1)), (xrf), (xrf), H', ⟨by have := HJ4.out; have := HJ23.out; have := HK3.out; omega⟩, ⟨xK BK255⟩, ⟨xK BK256⟩, ⟨xW HB⟩⟩
            ·replace c37 := Bool.eq_false_iff.mpr c37
             subst c37
             rw [if_neg xF] at H
             have H' := xm H
             clear H
             have p260 : 0 ≤ (x58_3 : Int) := xO
             have q260 : x58_3 < (l1_0.length : Int) := xO
             obtain ⟨ad260, e260, hx260_0⟩ := Kd.at_int HR1_0.out x58_3 p260 q260
             cases e260
             replace hx260_0 := xR HB hx260_0; replace p260 := eq_true p260; replace q260 := eq_true q260
             go_wp2
             go_roundg k3
             case measure => have := HJ4.out; have := HJ23.out; have := HK3.out; omega
             case rel => exact ⟨(false), (wrap64 (x58_3 + 1)), (xrf), (xrf), H', ⟨by have := HJ4.out; have := HJ23.out; have := HK3.out; omega⟩, ⟨xK BK255⟩, ⟨xK BK256⟩, ⟨xW HB⟩⟩
           ·rw [if_neg c36] at H
            exact absurd H (by simp)
          ·rw [if_neg c35] at H
           exact absurd H (by simp)
         ·rw [if_neg c34] at H
          have c34b0 := decide_eq_false c34
          clear c34
          have H' := xm H
          clear H; have hcz40_0 := blkc5 BK256.out
          go_wp2
          go_loopg [7, 72] k3 (fun kq vs7 vs72 w' => ∃ (x7_4 : Bool) (x72_4 : Int), vs7 = .bool x7_4 ∧ vs72 = .int .i64 x72_4 ∧ Aside0 (gamehallref1_PlaceError.l1 kq x7_4 x72_4 l1_1 l1_2 = some r) ∧ Aside0 (kq ≤ k3) ∧ Aside0 (w'.heap[gb255]? = some (.cells #[.string a0_0, .int .i64 a0_1, .int .i64 a0_2, (.slice A0_3 l0_3.length c0_3), (.slice A0_4 l0_4.length c0_4), .bool a0_5, .bool a0_6, (.slice A0_7 l0_7.length c0_7), .int .i64 a0_8, .int .i64 a0_9, .int .i64 a0_10] 26 (0, 0))) ∧ Aside0 (w'.heap[gb256]? = some (.cells #[(.slice A1_0 l1_0.length c1_0), (.slice A1_1 l1_1.length c1_1), (.slice A1_2 l1_2.length c1_2), .int .i64 a1_3, .int .i64 a1_4] 29 (0, 0))) ∧ Aside0 (Below w.heap.size w w'))
          case atStart => exact ⟨(x7_3), (0), (xrf), (xrf), H', ⟨Nat.le_refl _⟩, ⟨xK BK255⟩, ⟨xK BK256⟩, ⟨xW HB⟩⟩
          case round =>
           clear H'; (try clear p2); (try clear q2); (try clear hx2); (try clear p6); (try clear p26); (try clear q26); (try clear hx26); (try clear hx260_0); (try clear p2); (try clear p260); (try clear p6); (try clear q260)
           obtain ⟨x7_4, x72_4, rfl, rfl, HA, HK4, BK255, BK256, HB⟩ := hrel
           cases gk with
           | zero => exact absurd HA.out (by simp [gamehallref1_PlaceError.l1])
           | succ k4 =>
            have H := HA.out; clear HA
            simp only [gamehallref1_PlaceError.l1] at H
            by_cases c41 : x72_4 < 2
            ·rw [if_pos c41] at H
             have c41b0 := decide_eq_true c41
             clear c41; have HC42 := xm H; clear H
             go_upto_region 15 with (fail)
             go_cut [11] (fun vs11 wc => ∃ (kq : Nat) (x11_41 : List Int) (Ar11 : Option Addr) (cr11 : Nat), vs11 = .slice Ar11 x11_41.length cr11 ∧ Aside0 (Kd.C (Kd.int .i64) w Ar11 x11_41.length x11_41) ∧ Aside0 (x11_41.length ≤ cr11) ∧ Aside0 (gamehallref1_PlaceError.j4 kq x7_4 x11_41 x72_4 l1_1 l1_2 = some r) ∧ Aside0 (kq ≤ k4) ∧ Aside0 (wc.heap[gb255]? = some (.cells #[.string a0_0, .int .i64 a0_1, .int .i64 a0_2, (.slice A0_3 l0_3.length c0_3), (.slice A0_4 l0_4.length c0_4), .bool a0_5, .bool a0_6, (.slice A0_7 l0_7.length c0_7), .int .i64 a0_8, .int .i64 a0_9, .int .i64 a0_10] 26 (0, 0))) ∧ Aside0 (wc.heap[gb256]? = some (.cells #[(.slice A1_0 l1_0.length c1_0), (.slice A1_1 l1_1.length c1_1), (.slice A1_2 l1_2.length c1_2), .int .i64 a1_3, .int .i64 a1_4] 29 (0, 0))) ∧ Aside0 (Below w.heap.size w wc))
             case first =>
              have H := HC42.out; clear HC42
              by_cases c43 : 0 ≤ x72_4
              ·rw [if_pos c43] at H
               have c43b0 := decide_eq_true c43
               clear c43
               (first | rw [c43b0] | (simp only [i64_w, i32_w]; rw [c43b0]) | skip)
               by_cases c44 : x72_4 = 0
               ·rw [if_pos c44] at H
                have c44b0 := beq_iff_eq.mpr c44
                have c44b1 := bne_eq_false_iff_eq.mpr c44
                clear c44; obtain ⟨c45b, c45g, c45c, c45d⟩ := xar (x72_4 : Int) 0 0 2
                have c45i : ∀ (v0_ v1_ : Value) (w_ : World), (Instr.index 27 (.agg #[v0_, v1_]) (.int .i64 x72_4)).run Try.prog w_ = .ok v0_ w_ := by intro v0_ v1_ w_; have h0_ := c45b c45g; simp [Instr.index, asIntOf, part, isAgg, sizeOf, Try.underlying27, c45c, c45d, h0_] <;> simp [show Try.t23.size = 1 from rfl]
                have H' := xm H
                clear H
                go_wp2
                go_meet
                case rel => exact ⟨_, (l1_1), (A1_1), (c1_1), rfl, ⟨HR1_1.out⟩, ⟨HC1_1.out⟩, H', ⟨by have := HJ4.out; have := HJ23.out; have := HK3.out; have := HK4.out; first | omega | exact Nat.le_refl _⟩, ⟨xK BK255⟩, ⟨xK BK256⟩, ⟨xW HB⟩⟩
               ·rw [if_neg c44] at H
                have c44b0 := beq_eq_false_iff_ne.mpr c44
                have c44b1 := bne_iff_ne.mpr c44
                obtain ⟨c46b, c46g, c46c, c46d⟩ := xar (x72_4 : Int) 1 1 2
                have c46i : ∀ (v0_ v1_ : Value) (w_ : World), (Instr.index 27 (.agg #[v0_, v1_]) (.int .i64 x72_4)).run Try.prog w_ = .ok v1_ w_ := by intro v0_ v1_ w_; have h0_ := c46b c46g; simp [Instr.index, asIntOf, part, isAgg, sizeOf, Try.underlying27, c46c, c46d, h0_] <;> simp [show Try.t23.size = 1 from rfl]
                have H' := xm H
                clear H
                go_wp2
                go_meet
                case rel => exact ⟨_, (l1_2), (A1_2), (c1_2), rfl, ⟨HR1_2.out⟩, ⟨HC1_2.out⟩, H', ⟨by have := HJ4.out; have := HJ23.out; have := HK3.out; have := HK4.out; first | omega | exact Nat.le_refl _⟩, ⟨xK BK255⟩, ⟨xK BK256⟩, ⟨xW HB⟩⟩
              ·rw [if_neg c43] at H
               exact absurd H (by simp)
             case rest =>
              clear HC42; (try clear p2); (try clear q2); (try clear hx2); (try clear p6); (try clear p26); (try clear q26); (try clear hx26); (try clear hx260_0); (try clear p2); (try clear p26); (try clear p260); (try clear p6); (try clear q2); (try clear q26); (try clear q260)
              obtain ⟨kq, x11_41, Ar11, cr11, rfl, HR_11, HC_11, HA, HJ41, BK255, BK256, HB⟩ := hcut
              cases kq with
              | zero => exact absurd HA.out (by simp [gamehallref1_PlaceError.j4])
              | succ kj41 =>
               have H := HA.out; clear HA
               simp only [gamehallref1_PlaceError.j4] at H
               have H' := xm H
               clear H
               go_wp2
               go_loopg [7, 77] kj41 (fun kq vs7 vs77 w' => ∃ (x7_6 : Bool) (x77_6 : Int), vs7 = .bool x7_6 ∧ vs77 = .int .i64 x77_6 ∧ Aside0 (gamehallref1_PlaceError.l2 kq x7_6 x72_4 x11_41 (x11_41.length : Int) x77_6 l1_1 l1_2 = some r) ∧ Aside0 (kq ≤ kj41) ∧ Aside0 (w'.heap[gb255]? = some (.cells #[.string a0_0, .int .i64 a0_1, .int .i64 a0_2, (.slice A0_3 l0_3.length c0_3), (.slice A0_4 l0_4.length c0_4), .bool a0_5, .bool a0_6, (.slice A0_7 l0_7.length c0_7), .int .i64 a0_8, .int .i64 a0_9, .int .i64 a0_10] 26 (0, 0))) ∧ Aside0 (w'.heap[gb256]? = some (.cells #[(.slice A1_0 l1_0.length c1_0), (.slice A1_1 l1_1.length c1_1), (.slice A1_2 l1_2.length c1_2), .int .i64 a1_3, .int .i64 a1_4] 29 (0, 0))) ∧ Aside0 (Below w.heap.size w w'))
               case atStart => exact ⟨(x7_4), (0), (xrf), (xrf), H', ⟨Nat.le_refl _⟩, ⟨xK BK255⟩, ⟨xK BK256⟩, ⟨xW HB⟩⟩
               case round =>
                clear H'; (try clear p2); (try clear q2); (try clear hx2); (try clear p6); (try clear p26); (try clear q26); (try clear hx26); (try clear hx260_0); (try clear p2); (try clear p26); (try clear p260); (try clear p6); (try clear q2); (try clear q26); (try clear q260)
                obtain ⟨x7_6, x77_6, rfl, rfl, HA, HK6, BK255, BK256, HB⟩ := hrel
                cases gk with
                | zero => exact absurd HA.out (by simp [gamehallref1_PlaceError.l2])
                | succ k6 =>
                 have H := HA.out; clear HA
                 simp only [gamehallref1_PlaceError.l2] at H
                 by_cases c47 : x77_6 < (x11_41.length : Int)
                 ·rw [if_pos c47] at H
                  have c47b0 := decide_eq_true c47
                  clear c47
                  by_cases c48 : 0 ≤ x77_6
                  ·rw [if_pos c48] at H
                   have c48b0 := decide_eq_true c48
                   clear c48
                   by_cases c49 : x77_6 < (x11_41.length : Int)
                   ·rw [if_pos c49] at H
                    have c49b0 := decide_eq_true c49
                    clear c49
                    by_cases c50 : x7_6 = true
                    ·subst c50
                     rw [if_pos rfl] at H
                     replace H := Option.bind_eq_some_iff.mp H
                     obtain ⟨t263, A510, H⟩ := H
                     try dsimp only at H
                     have A51 := xm A510; clear A510
                     have H' := xm H
                     clear H
                     have p262 : 0 ≤ (x77_6 : Int) := xO
                     have q262 : x77_6 < (x11_41.length : Int) := xO
                     obtain ⟨ad262, e262, hx262_0⟩ := Kd.at_int HR_11.out x77_6 p262 q262
                     cases e262
                     replace hx262_0 := xR HB hx262_0; replace p262 := eq_true p262; replace q262 := eq_true q262
                     go_wp2_with (first | (go_at_call 29; (with_reducible refine (gamehallref1_In.calls (rd x11_41 x77_6) 0 1000 t263 _ A51.out).mono ?_); rintro e w' ⟨rfl, ⟨nd, rfl⟩⟩))
                     go_roundg k6
                     case measure => have := HJ4.out; have := HJ23.out; have := HK3.out; have := HK4.out; have := HJ41.out; have := HK6.out; omega
                     case rel => exact ⟨(t263), (wrap64 (x77_6 + 1)), (xrf), (xrf), H', ⟨by have := HJ4.out; have := HJ23.out; have := HK3.out; have := HK4.out; have := HJ41.out; have := HK6.out; omega⟩, ⟨xK BK255⟩, ⟨xK BK256⟩, ⟨xW HB⟩⟩
                    ·replace c50 := Bool.eq_false_iff.mpr c50
                     subst c50
                     rw [if_neg xF] at H
                     have H' := xm H
                     clear H
                     have p262 : 0 ≤ (x77_6 : Int) := xO
                     have q262 : x77_6 < (x11_41.length : Int) := xO
                     obtain ⟨ad262, e262, hx262_0⟩ := Kd.at_int HR_11.out x77_6 p262 q262
                     cases e262
                     replace hx262_0 := xR HB hx262_0; replace p262 := eq_true p262; replace q262 := eq_true q262
                     go_wp2
                     go_roundg k6
                     case measure => have := HJ4.out; have := HJ23.out; have := HK3.out; have := HK4.out; have := HJ41.out; have := HK6.out; omega
                     case rel => exact ⟨(false), (wrap64 (x77_6 + 1)), (xrf), (xrf), H', ⟨by have := HJ4.out; have := HJ23.out; have := HK3.out; have := HK4.out; have := HJ41.out; have := HK6.out; omega⟩, ⟨xK BK255⟩, ⟨xK BK256⟩, ⟨xW HB⟩⟩
                   ·rw [if_neg c49] at H
                    exact absurd H (by simp)
                  ·rw [if_neg c48] at H
                   exact absurd H (by simp)
                 ·rw [if_neg c47] at H
                  have c47b0 := decide_eq_false c47
                  clear c47
                  have H' := xm H
                  clear H
                  go_wp2
                  go_roundg k6
                  case measure => have := HJ4.out; have := HJ23.out; have := HK3.out; have := HK4.out; have := HJ41.out; have := HK6.out; omega
                  case rel => exact ⟨(x7_6), (wrap64 (x72_4 + 1)), (xrf), (xrf), H', ⟨by have := HJ4.out; have := HJ23.out; have := HK3.out; have := HK4.out; have := HJ41.out; have := HK6.out; omega⟩, ⟨xK BK255⟩, ⟨xK BK256⟩, ⟨xW HB⟩⟩
            ·rw [if_neg c41] at H
             have c41b0 := decide_eq_false c41
             clear c41
             by_cases c52 : x7_4 = true
             ·subst c52
              rw [if_pos rfl] at H
              obtain rfl := Option.some.inj H
              go_wp2
              go_ret
              exact ⟨xer, xW HB⟩
             ·replace c52 := Bool.eq_false_iff.mpr c52
              subst c52
              rw [if_neg xF] at H
              obtain rfl := Option.some.inj H
              go_wp2
              go_ret
              exact ⟨xer, xW HB⟩
 ·rw [if_neg c4] at H
  have c4b0 := beq_eq_false_iff_ne.mpr c4
  have c4b1 := bne_iff_ne.mpr c4
  obtain rfl := Option.some.inj H
  go_enter Try.func10, Try.ntmps10
  go_wp2_with (first | ((with_reducible refine gate_dst (N := 2) rfl ?_); (try (refine gate_guard (by rfl) ?_; dsimp only)); refine xG (cs := #[.string a0_0, .int .i64 a0_1, .int .i64 a0_2, .slice A0_3 l0_3.length c0_3, .slice A0_4 l0_4.length c0_4, .bool a0_5, .bool a0_6, .slice A0_7 l0_7.length c0_7, .int .i64 a0_8, .int .i64 a0_9, .int .i64 a0_10]) (t := 26) ?_; intro gb255 hg w53 hbox hb; have BK255 := xm (hbox); have GW255 := xm (xZ HB hg); have GE255 := xm (xZ HB hg); replace HB := xm (xS HB hb); clear hb hbox hg) | ((with_reducible refine gate_dst (N := 3) rfl ?_); (try (refine gate_guard (by rfl) ?_; dsimp only)); refine xG (cs := #[.slice A1_0 l1_0.length c1_0, .slice A1_1 l1_1.length c1_1, .slice A1_2 l1_2.length c1_2, .int .i64 a1_3, .int .i64 a1_4]) (t := 29) ?_; intro gb256 hg w54 hbox hb; have BK256 := xm (hbox); have GW256 := xm (xZ HB hg); have GE256 := xm (xZ HB hg); have NB255_256 := xm (xN BK255 hg); have NB256_255 := xm (xM BK255 hg); replace BK255 := xm (xB BK255 hb); replace HB := xm (xS HB hb); clear hb hbox hg; have hnb55 := NB255_256.out; have hnc55 := NB256_255.out; have hcz56_0 := blkc11 BK255.out) | ((with_reducible refine gate_callee (f := 28) rfl ?_); refine xL (some 15) Try.func28 #[.agg #[.string a0_0, .int .i64 a0_1, .int .i64 a0_2, .slice A0_3 l0_3.length c0_3, .slice A0_4 l0_4.length c0_4, .bool a0_5, .bool a0_6, .slice A0_7 l0_7.length c0_7, .int .i64 a0_8, .int .i64 a0_9, .int .i64 a0_10]] rfl ?_; (with_reducible refine (DA3.out _ ?sB).mono ?_); (case sB => exact xW HB); rintro e w57 ⟨rfl, hb⟩; refine ⟨_, rfl, ?_⟩; replace BK255 := xm (xB BK255 hb); replace BK256 := xm (xB BK256 hb); replace HB := xm (xS HB hb); (try clear hb); (try clear hb2); (try clear hk); (try clear hi)))
  go_ret
  exact ⟨xer, xW HB⟩

/-! ### gamehallref1_far: function 31 -/
def gamehallref1_far.f (a0_0 : ByteArray) (a0_1 : Int) (a0_2 : Int) (l0_3 : List (S62)) (l0_4 : List Int) (a0_5 : Bool) (a0_6 : Bool) (l0_7 : List (S64)) (a0_8 : Int) (a0_9 : Int) (a0_10 : Int) (a1 : Int) (a2 : Int) : Option (Bool) := if a1 = 0 then (if a2 = (wrap64 (a0_2 - 1)) then (some true) else (if a1 = 1 then (some (a2 == 0)) else (some false))) else (if a1 = 1 then (some (a2 == 0)) else (some false))
theorem gamehallref1_far.calls (a0_0 : ByteArray) (a0_1 : Int) (a0_2 : Int) (A0_3 : Option Addr) (c0_3 : Nat) (l0_3 : List (S62)) (A0_4 : Option Addr) (c0_4 : Nat) (l0_4 : List Int) (a0_5 : Bool) (a0_6 : Bool) (A0_7 : Option Addr) (c0_7 : Nat) (l0_7 : List (S64)) (a0_8 : Int) (a0_9 : Int) (a0_10 : Int) (a1 : Int) (a2 : Int) (r : Bool) (w : World) (hr0_3 : Kd.C k62 w A0_3 l0_3.length l0_3) (hc0_3 : l0_3.length ≤ c0_3) (hr0_4 : Kd.C (Kd.int .i64) w A0_4 l0_4.length l0_4) (hc0_4 : l0_4.length ≤ c0_4) (hr0_7 : Kd.C k64 w A0_7 l0_7.length l0_7) (hc0_7 : l0_7.length ≤ c0_7) (h : gamehallref1_far.f a0_0 a0_1 a0_2 l0_3 l0_4 a0_5 a0_6 l0_7 a0_8 a0_9 a0_10 a1 a2 = some r) :
    Calls Try.prog 31 #[.agg #[.string a0_0, .int .i64 a0_1, .int .i64 a0_2, .slice A0_3 l0_3.length c0_3, .slice A0_4 l0_4.length c0_4, .bool a0_5, .bool a0_6, .slice A0_7 l0_7.length c0_7, .int .i64 a0_8, .int .i64 a0_9, .int .i64 a0_10], .int .i64 a1, .int .i64 a2] w fun e w' => e = .returned (.bool r) ∧ Below w.heap.size w w' := by
 have hu26 := Try.underlying26; have HR0_3 := xm hr0_3; have HC0_3 := xm hc0_3; clear hr0_3 hc0_3; have HR0_4 := xm hr0_4; have HC0_4 := xm hc0_4; clear hr0_4 hc0_4; have HR0_7 := xm hr0_7; have HC0_7 := xm hc0_7; clear hr0_7 hc0_7; have HB := xm (Below.refl w.heap.size w); have hss_ := @isSome_setCell
 have H : (if a1 = 0 then (if a2 = (wrap64 (a0_2 - 1)) then (some true) else (if a1 = 1 then (some (a2 == 0)) else (some false))) else (if a1 = 1 then (some (a2 == 0)) else (some false))) = some r := h
 clear h
 by_cases c4 : a1 = 0
 ·rw [if_pos c4] at H
  have c4b0 := beq_iff_eq.mpr c4
  have c4b1 := bne_eq_false_iff_eq.mpr c4
  clear c4
  by_cases c5 : a2 = (wrap64 (a0_2 - 1))
  ·rw [if_pos c5] at H
   have c5b0 := beq_iff_eq.mpr c5
   have c5b1 := bne_eq_false_iff_eq.mpr c5
   clear c5
   obtain rfl := Option.some.inj H
   go_enter Try.func31, Try.ntmps31
   go_wp2_with (first | ((with_reducible refine gate_dst (N := 3) rfl ?_); refine xG (cs := #[.string a0_0, .int .i64 a0_1, .int .i64 a0_2, .slice A0_3 l0_3.length c0_3, .slice A0_4 l0_4.length c0_4, .bool a0_5, .bool a0_6, .slice A0_7 l0_7.length c0_7, .int .i64 a0_8, .int .i64 a0_9, .int .i64 a0_10]) (t := 26) ?_; intro gb264 hg w6 hbox hb; have BK264 := xm (hbox); have GW264 := xm (xZ HB hg); have GE264 := xm (xZ HB hg); replace HB := xm (xS HB hb); clear hb hbox hg; have hcz7_0 := blkc11 BK264.out))
   go_ret
   exact ⟨xer, xW HB⟩
  ·rw [if_neg c5] at H
   have c5b0 := beq_eq_false_iff_ne.mpr c5
   have c5b1 := bne_iff_ne.mpr c5
   by_cases c8 : a1 = 1
   ·rw [if_pos c8] at H
    have c8b0 := beq_iff_eq.mpr c8
    have c8b1 := bne_eq_false_iff_eq.mpr c8
    clear c8
    obtain rfl := Option.some.inj H
    go_enter Try.func31, Try.ntmps31
    go_wp2_with (first | ((with_reducible refine gate_dst (N := 3) rfl ?_); refine xG (cs := #[.string a0_0, .int .i64 a0_1, .int .i64 a0_2, .slice A0_3 l0_3.length c0_3, .slice A0_4 l0_4.length c0_4, .bool a0_5, .bool a0_6, .slice A0_7 l0_7.length c0_7, .int .i64 a0_8, .int .i64 a0_9, .int .i64 a0_10]) (t := 26) ?_; intro gb264 hg w9 hbox hb; have BK264 := xm (hbox); have GW264 := xm (xZ HB hg); have GE264 := xm (xZ HB hg); replace HB := xm (xS HB hb); clear hb hbox hg; have hcz10_0 := blkc11 BK264.out))
    go_ret
    exact ⟨xer, xW HB⟩
   ·rw [if_neg c8] at H
    have c8b0 := beq_eq_false_iff_ne.mpr c8
    have c8b1 := bne_iff_ne.mpr c8
    obtain rfl := Option.some.inj H
    go_enter Try.func31, Try.ntmps31
    go_wp2_with (first | ((with_reducible refine gate_dst (N := 3) rfl ?_); refine xG (cs := #[.string a0_0, .int .i64 a0_1, .int .i64 a0_2, .slice A0_3 l0_3.length c0_3, .slice A0_4 l0_4.length c0_4, .bool a0_5, .bool a0_6, .slice A0_7 l0_7.length c0_7, .int .i64 a0_8, .int .i64 a0_9, .int .i64 a0_10]) (t := 26) ?_; intro gb264 hg w11 hbox hb; have BK264 := xm (hbox); have GW264 := xm (xZ HB hg); have GE264 := xm (xZ HB hg); replace HB := xm (xS HB hb); clear hb hbox hg; have hcz12_0 := blkc11 BK264.out))
    go_ret
    exact ⟨xer, xW HB⟩
 ·rw [if_neg c4] at H
  have c4b0 := beq_eq_false_iff_ne.mpr c4
  have c4b1 := bne_iff_ne.mpr c4
  by_cases c13 : a1 = 1
  ·rw [if_pos c13] at H
   have c13b0 := beq_iff_eq.mpr c13
   have c13b1 := bne_eq_false_iff_eq.mpr c13
   clear c13
   obtain rfl := Option.some.inj H
   go_enter Try.func31, Try.ntmps31
   go_wp2_with (first | ((with_reducible refine gate_dst (N := 3) rfl ?_); refine xG (cs := #[.string a0_0, .int .i64 a0_1, .int .i64 a0_2, .slice A0_3 l0_3.length c0_3, .slice A0_4 l0_4.length c0_4, .bool a0_5, .bool a0_6, .slice A0_7 l0_7.length c0_7, .int .i64 a0_8, .int .i64 a0_9, .int .i64 a0_10]) (t := 26) ?_; intro gb264 hg w14 hbox hb; have BK264 := xm (hbox); have GW264 := xm (xZ HB hg); have GE264 := xm (xZ HB hg); replace HB := xm (xS HB hb); clear hb hbox hg))
   go_ret
   exact ⟨xer, xW HB⟩
  ·rw [if_neg c13] at H
   have c13b0 := beq_eq_false_iff_ne.mpr c13
   have c13b1 := bne_iff_ne.mpr c13
   obtain rfl := Option.some.inj H
   go_enter Try.func31, Try.ntmps31
   go_wp2_with (first | ((with_reducible refine gate_dst (N := 3) rfl ?_); refine xG (cs := #[.string a0_0, .int .i64 a0_1, .int .i64 a0_2, .slice A0_3 l0_3.length c0_3, .slice A0_4 l0_4.length c0_4, .bool a0_5, .bool a0_6, .slice A0_7 l0_7.length c0_7, .int .i64 a0_8, .int .i64 a0_9, .int .i64 a0_10]) (t := 26) ?_; intro gb264 hg w15 hbox hb; have BK264 := xm (hbox); have GW264 := xm (xZ HB hg); have GE264 := xm (xZ HB hg); replace HB := xm (xS HB hb); clear hb hbox hg))
   go_ret
   exact ⟨xer, xW HB⟩

/-! ### gamehallref1_Mine: function 36 -/
def gamehallref1_Mine.f (a0 : Int) (a1 : Int) : Option (Bool) := if a0 > 0 then (some ((Int.tmod (wrap64 (a0 - 1)) 2) == a1)) else (some false)
theorem gamehallref1_Mine.calls (a0 : Int) (a1 : Int) (r : Bool) (w : World) (h : gamehallref1_Mine.f a0 a1 = some r) :
    Calls Try.prog 36 #[.int .i64 a0, .int .i64 a1] w fun e w' => e = .returned (.bool r) ∧ Drawn0 w w' := by
 have H : (if a0 > 0 then (some ((Int.tmod (wrap64 (a0 - 1)) 2) == a1)) else (some false)) = some r := h
 clear h
 by_cases c3 : a0 > 0
 ·rw [if_pos c3] at H
  have c3b0 := decide_eq_true c3
  clear c3
  obtain rfl := Option.some.inj H
  go_enter Try.func36, Try.ntmps36
  go_wp2
  go_ret
  exact ⟨xrf, by repeat (first | exact Drawn0.refl _ | apply Drawn0.step)⟩
 ·rw [if_neg c3] at H
  have c3b0 := decide_eq_false c3
  clear c3
  obtain rfl := Option.some.inj H
  go_enter Try.func36, Try.ntmps36
  go_wp2
  go_ret
  exact ⟨xrf, by repeat (first | exact Drawn0.refl _ | apply Drawn0.step)⟩

/-! ### gamehallref1_At: function 47 -/
def gamehallref1_At.f (a0_0 : ByteArray) (a0_1 : Int) (a0_2 : Int) (l0_3 : List (S62)) (l0_4 : List Int) (a0_5 : Bool) (a0_6 : Bool) (l0_7 : List (S64)) (a0_8 : Int) (a0_9 : Int) (a0_10 : Int) (l1_0 : List Int) (l1_1 : List Int) (l1_2 : List Int) (a1_3 : Int) (a1_4 : Int) (a2 : Int) (a3 : Int) : Option (Int) := (gamehallref1_In.f a2 0 (wrap64 (a0_1 - 1))).bind fun t267 => (if t267 = true then ((gamehallref1_In.f a3 0 (wrap64 (a0_2 - 1))).bind fun t268 => (if t268 = true then (if 0 ≤ (wrap64 ((wrap64 (a3 * a0_1)) + a2)) then (if (wrap64 ((wrap64 (a3 * a0_1)) + a2)) < (l1_0.length : Int) then (some (rd l1_0 (wrap64 ((wrap64 (a3 * a0_1)) + a2)))) else (none)) else (none)) else (some (-1)))) else (some (-1)))
theorem gamehallref1_At.calls (a0_0 : ByteArray) (a0_1 : Int) (a0_2 : Int) (A0_3 : Option Addr) (c0_3 : Nat) (l0_3 : List (S62)) (A0_4 : Option Addr) (c0_4 : Nat) (l0_4 : List Int) (a0_5 : Bool) (a0_6 : Bool) (A0_7 : Option Addr) (c0_7 : Nat) (l0_7 : List (S64)) (a0_8 : Int) (a0_9 : Int) (a0_10 : Int) (A1_0 : Option Addr) (c1_0 : Nat) (l1_0 : List Int) (A1_1 : Option Addr) (c1_1 : Nat) (l1_1 : List Int) (A1_2 : Option Addr) (c1_2 : Nat) (l1_2 : List Int) (a1_3 : Int) (a1_4 : Int) (a2 : Int) (a3 : Int) (r : Int) (w : World) (hr0_3 : Kd.C k62 w A0_3 l0_3.length l0_3) (hc0_3 : l0_3.length ≤ c0_3) (hr0_4 : Kd.C (Kd.int .i64) w A0_4 l0_4.length l0_4) (hc0_4 : l0_4.length ≤ c0_4) (hr0_7 : Kd.C k64 w A0_7 l0_7.length l0_7) (hc0_7 : l0_7.length ≤ c0_7) (hr1_0 : Kd.C (Kd.int .i64) w A1_0 l1_0.length l1_0) (hc1_0 : l1_0.length ≤ c1_0) (hr1_1 : Kd.C (Kd.int .i64) w A1_1 l1_1.length l1_1) (hc1_1 : l1_1.length ≤ c1_1) (hr1_2 : Kd.C (Kd.int .i64) w A1_2 l1_2.length l1_2) (hc1_2 : l1_2.length ≤ c1_2) (h : gamehallref1_At.f a0_0 a0_1 a0_2 l0_3 l0_4 a0_5 a0_6 l0_7 a0_8 a0_9 a0_10 l1_0 l1_1 l1_2 a1_3 a1_4 a2 a3 = some r) :
    Calls Try.prog 47 #[.agg #[.string a0_0, .int .i64 a0_1, .int .i64 a0_2, .slice A0_3 l0_3.length c0_3, .slice A0_4 l0_4.length c0_4, .bool a0_5, .bool a0_6, .slice A0_7 l0_7.length c0_7, .int .i64 a0_8, .int .i64 a0_9, .int .i64 a0_10], .agg #[.slice A1_0 l1_0.length c1_0, .slice A1_1 l1_1.length c1_1, .slice A1_2 l1_2.length c1_2, .int .i64 a1_3, .int .i64 a1_4], .int .i64 a2, .int .i64 a3] w fun e w' => e = .returned (.int .i64 r) ∧ Below w.heap.size w w' := by
 have hu26 := Try.underlying26; have hu29 := Try.underlying29; have HR0_3 := xm hr0_3; have HC0_3 := xm hc0_3; clear hr0_3 hc0_3; have HR0_4 := xm hr0_4; have HC0_4 := xm hc0_4; clear hr0_4 hc0_4; have HR0_7 := xm hr0_7; have HC0_7 := xm hc0_7; clear hr0_7 hc0_7; have HR1_0 := xm hr1_0; have HC1_0 := xm hc1_0; clear hr1_0 hc1_0; have HR1_1 := xm hr1_1; have HC1_1 := xm hc1_1; clear hr1_1 hc1_1; have HR1_2 := xm hr1_2; have HC1_2 := xm hc1_2; clear hr1_2 hc1_2; have HB := xm (Below.refl w.heap.size w); have hss_ := @isSome_setCell
 have H : ((gamehallref1_In.f a2 0 (wrap64 (a0_1 - 1))).bind fun t267 => (if t267 = true then ((gamehallref1_In.f a3 0 (wrap64 (a0_2 - 1))).bind fun t268 => (if t268 = true then (if 0 ≤ (wrap64 ((wrap64 (a3 * a0_1)) + a2)) then (if (wrap64 ((wrap64 (a3 * a0_1)) + a2)) < (l1_0.length : Int) then (some (rd l1_0 (wrap64 ((wrap64 (a3 * a0_1)) + a2)))) else (none)) else (none)) else (some (-1)))) else (some (-1)))) = some r := h
 clear h; replace H := Option.bind_eq_some_iff.mp H
 obtain ⟨t267, A50, H⟩ := H
 try dsimp only at H
 have A5 := xm A50; clear A50
 by_cases c6 : t267 = true
 ·subst c6
  rw [if_pos rfl] at H
  replace H := Option.bind_eq_some_iff.mp H
  obtain ⟨t268, A70, H⟩ := H
  try dsimp only at H
  have A7 := xm A70; clear A70
  by_cases c8 : t268 = true
  ·subst c8
   rw [if_pos rfl] at H
   obtain ⟨ji9, hji9⟩ : ∃ j_ : Int, (wrap64 ((wrap64 (a3 * a0_1)) + a2)) = j_ := ⟨_, rfl⟩
   (first | rw [hji9] at H | simp only [hji9] at H)
   (try rw [hji9] at A5)
   (try rw [hji9] at A7)
   have hji9w : (IntKind.i64.wrap ((wrap64 (a3 * a0_1)) + a2)) = ji9 := (i64_w _).trans hji9
   by_cases c10 : 0 ≤ (ji9)
   ·rw [if_pos c10] at H
    have c10b0 := decide_eq_true c10
    clear c10
    by_cases c11 : (ji9) < (l1_0.length : Int)
    ·rw [if_pos c11] at H
     have c11b0 := decide_eq_true c11
     clear c11
     obtain rfl := Option.some.inj H
     go_enter Try.func47, Try.ntmps47
     go_wp2_with (first | ((with_reducible refine gate_dst (N := 4) rfl ?_); refine xG (cs := #[.string a0_0, .int .i64 a0_1, .int .i64 a0_2, .slice A0_3 l0_3.length c0_3, .slice A0_4 l0_4.length c0_4, .bool a0_5, .bool a0_6, .slice A0_7 l0_7.length c0_7, .int .i64 a0_8, .int .i64 a0_9, .int .i64 a0_10]) (t := 26) ?_; intro gb265 hg w12 hbox hb; have BK265 := xm (hbox); have GW265 := xm (xZ HB hg); have GE265 := xm (xZ HB hg); replace HB := xm (xS HB hb); clear hb hbox hg) | ((with_reducible refine gate_dst (N := 5) rfl ?_); refine xG (cs := #[.slice A1_0 l1_0.length c1_0, .slice A1_1 l1_1.length c1_1, .slice A1_2 l1_2.length c1_2, .int .i64 a1_3, .int .i64 a1_4]) (t := 29) ?_; intro gb266 hg w13 hbox hb; have BK266 := xm (hbox); have GW266 := xm (xZ HB hg); have GE266 := xm (xZ HB hg); have NB265_266 := xm (xN BK265 hg); have NB266_265 := xm (xM BK265 hg); replace BK265 := xm (xB BK265 hb); replace HB := xm (xS HB hb); clear hb hbox hg; have hnb14 := NB265_266.out; have hnc14 := NB266_265.out; have hcz15_0 := blkc11 BK265.out) | ((with_reducible refine gate_callee (f := 29) rfl ?_); refine xL (some 13) Try.func29 #[.int .i64 a2, .int .i64 0, .int .i64 (wrap64 (a0_1 - 1))] rfl ?_; (with_reducible refine (gamehallref1_In.calls a2 0 (wrap64 (a0_1 - 1)) true _ A5.out).mono ?_); rintro e w' ⟨rfl, ⟨nd, rfl⟩⟩; refine ⟨_, rfl, ?_⟩) | (go_at_call 29; (with_reducible refine (gamehallref1_In.calls a3 0 (wrap64 (a0_2 - 1)) true _ A7.out).mono ?_); rintro e w' ⟨rfl, ⟨nd, rfl⟩⟩; have hcz16_0 := blkc5 BK266.out; have p269 : 0 ≤ ((ji9) : Int) := xO; have q269 : (ji9) < (l1_0.length : Int) := xO; obtain ⟨ad269, e269, hx269_0⟩ := Kd.at_int HR1_0.out (ji9) p269 q269; cases e269; replace hx269_0 := xR HB hx269_0; replace p269 := eq_true p269; replace q269 := eq_true q269))
     go_ret
     exact ⟨by first | rfl | (simp [errW_none, errW_some] <;> rfl) | (simp only [← hji9]; first | rfl | (simp [errW_none, errW_some] <;> rfl)) | (simp [*, errW_none, errW_some] <;> rfl), xW HB⟩
    ·rw [if_neg c11] at H
     exact absurd H (by simp)
   ·rw [if_neg c10] at H
    exact absurd H (by simp)
  ·replace c8 := Bool.eq_false_iff.mpr c8
   subst c8
   rw [if_neg xF] at H
   obtain rfl := Option.some.inj H
   go_enter Try.func47, Try.ntmps47
   go_wp2_with (first | ((with_reducible refine gate_dst (N := 4) rfl ?_); refine xG (cs := #[.string a0_0, .int .i64 a0_1, .int .i64 a0_2, .slice A0_3 l0_3.length c0_3, .slice A0_4 l0_4.length c0_4, .bool a0_5, .bool a0_6, .slice A0_7 l0_7.length c0_7, .int .i64 a0_8, .int .i64 a0_9, .int .i64 a0_10]) (t := 26) ?_; intro gb265 hg w17 hbox hb; have BK265 := xm (hbox); have GW265 := xm (xZ HB hg); have GE265 := xm (xZ HB hg); replace HB := xm (xS HB hb); clear hb hbox hg) | ((with_reducible refine gate_dst (N := 5) rfl ?_); refine xG (cs := #[.slice A1_0 l1_0.length c1_0, .slice A1_1 l1_1.length c1_1, .slice A1_2 l1_2.length c1_2, .int .i64 a1_3, .int .i64 a1_4]) (t := 29) ?_; intro gb266 hg w18 hbox hb; have BK266 := xm (hbox); have GW266 := xm (xZ HB hg); have GE266 := xm (xZ HB hg); have NB265_266 := xm (xN BK265 hg); have NB266_265 := xm (xM BK265 hg); replace BK265 := xm (xB BK265 hb); replace HB := xm (xS HB hb); clear hb hbox hg; have hnb19 := NB265_266.out; have hnc19 := NB266_265.out; have hcz20_0 := blkc11 BK265.out) | ((with_reducible refine gate_callee (f := 29) rfl ?_); refine xL (some 13) Try.func29 #[.int .i64 a2, .int .i64 0, .int .i64 (wrap64 (a0_1 - 1))] rfl ?_; (with_reducible refine (gamehallref1_In.calls a2 0 (wrap64 (a0_1 - 1)) true _ A5.out).mono ?_); rintro e w' ⟨rfl, ⟨nd, rfl⟩⟩; refine ⟨_, rfl, ?_⟩) | (go_at_call 29; (with_reducible refine (gamehallref1_In.calls a3 0 (wrap64 (a0_2 - 1)) false _ A7.out).mono ?_); rintro e w' ⟨rfl, ⟨nd, rfl⟩⟩))
   go_ret
   exact ⟨xer, xW HB⟩
 ·replace c6 := Bool.eq_false_iff.mpr c6
  subst c6
  rw [if_neg xF] at H
  obtain rfl := Option.some.inj H
  go_enter Try.func47, Try.ntmps47
  go_wp2_with (first | ((with_reducible refine gate_dst (N := 4) rfl ?_); refine xG (cs := #[.string a0_0, .int .i64 a0_1, .int .i64 a0_2, .slice A0_3 l0_3.length c0_3, .slice A0_4 l0_4.length c0_4, .bool a0_5, .bool a0_6, .slice A0_7 l0_7.length c0_7, .int .i64 a0_8, .int .i64 a0_9, .int .i64 a0_10]) (t := 26) ?_; intro gb265 hg w21 hbox hb; have BK265 := xm (hbox); have GW265 := xm (xZ HB hg); have GE265 := xm (xZ HB hg); replace HB := xm (xS HB hb); clear hb hbox hg) | ((with_reducible refine gate_dst (N := 5) rfl ?_); refine xG (cs := #[.slice A1_0 l1_0.length c1_0, .slice A1_1 l1_1.length c1_1, .slice A1_2 l1_2.length c1_2, .int .i64 a1_3, .int .i64 a1_4]) (t := 29) ?_; intro gb266 hg w22 hbox hb; have BK266 := xm (hbox); have GW266 := xm (xZ HB hg); have GE266 := xm (xZ HB hg); have NB265_266 := xm (xN BK265 hg); have NB266_265 := xm (xM BK265 hg); replace BK265 := xm (xB BK265 hb); replace HB := xm (xS HB hb); clear hb hbox hg; have hnb23 := NB265_266.out; have hnc23 := NB266_265.out; have hcz24_0 := blkc11 BK265.out) | ((with_reducible refine gate_callee (f := 29) rfl ?_); refine xL (some 13) Try.func29 #[.int .i64 a2, .int .i64 0, .int .i64 (wrap64 (a0_1 - 1))] rfl ?_; (with_reducible refine (gamehallref1_In.calls a2 0 (wrap64 (a0_1 - 1)) false _ A5.out).mono ?_); rintro e w' ⟨rfl, ⟨nd, rfl⟩⟩; refine ⟨_, rfl, ?_⟩))
  go_ret
  exact ⟨xer, xW HB⟩

/-! ### gamehallref1_reaches: function 37 -/
def gamehallref1_reaches.l0 : Nat → Int → Int → Int → Int → Int → ByteArray → Int → Int → List (S62) → List Int → Bool → Bool → List (S64) → Int → Int → Int → List Int → List Int → List Int → Int → Int → Int → Int → Int → Int → Option (Bool)
  | 0, _, _, _, _, _, _, _, _, _, _, _, _, _, _, _, _, _, _, _, _, _, _, _, _, _ => none
  | k + 1, x3, x11, x12, x13, x14, z271a, z271b, z271c, z271d, z271e, z271f, z271g, z271h, z271i, z271j, z271k, z272a, z272b, z272c, z272d, z272e, z273a, z273b, z273c, z273d => if x14 ≤ z273c then ((gamehallref1_At.f z271a z271b z271c z271d z271e z271f z271g z271h z271i z271j z271k z272a z272b z272c z272d z272e (wrap64 (x12 + (wrap64 (x14 * z273a)))) (wrap64 (x13 + (wrap64 ((wrap64 (x14 * z273b)) * x11))))).bind fun t273 => (if t273 < 0 then (some false) else (if (wrap64 ((wrap64 ((wrap64 ((wrap64 (x13 + (wrap64 ((wrap64 (x14 * z273b)) * x11)))) * z271b)) + x12)) + (wrap64 (x14 * z273a)))) = x3 then ((gamehallref1_Mine.f t273 (wrap64 (1 - z272d))).bind fun t274 => (if t273 = 0 then (if z273d = 2 then (if t274 = true then (some (z273d != 0)) else (some false)) else (some true)) else (if t274 = true then (some (z273d != 0)) else (some false)))) else (if t273 = 0 then (gamehallref1_reaches.l0 k x3 x11 x12 x13 (wrap64 (x14 + 1)) z271a z271b z271c z271d z271e z271f z271g z271h z271i z271j z271k z272a z272b z272c z272d z272e z273a z273b z273c z273d) else (some false))))) else (some false)
def gamehallref1_reaches.f (k : Nat) (a0_0 : ByteArray) (a0_1 : Int) (a0_2 : Int) (l0_3 : List (S62)) (l0_4 : List Int) (a0_5 : Bool) (a0_6 : Bool) (l0_7 : List (S64)) (a0_8 : Int) (a0_9 : Int) (a0_10 : Int) (l1_0 : List Int) (l1_1 : List Int) (l1_2 : List Int) (a1_3 : Int) (a1_4 : Int) (a2 : Int) (a3 : Int) (a4_0 : Int) (a4_1 : Int) (a4_2 : Int) (a4_3 : Int) : Option (Bool) := if a0_1 = 0 then (none) else (gamehallref1_reaches.l0 k a3 (wrap64 (1 - (wrap64 (2 * a1_3)))) (Int.tmod a2 a0_1) (wrap64 (Int.tdiv a2 a0_1)) 1 a0_0 a0_1 a0_2 l0_3 l0_4 a0_5 a0_6 l0_7 a0_8 a0_9 a0_10 l1_0 l1_1 l1_2 a1_3 a1_4 a4_0 a4_1 a4_2 a4_3)
theorem gamehallref1_reaches.mono_l : ∀ k, L10 (L10 (L5 (LeO))) (gamehallref1_reaches.l0 k) (gamehallref1_reaches.l0 (k + 1))
  | 0 => by (repeat (first | exact LeO.none _ | intro _))
  | k + 1 => by
    have ih0 := gamehallref1_reaches.mono_l k
    ((repeat (first | (with_reducible refine LeO.st ?_) | intro _)); constructor; (first | unfold gamehallref1_reaches.l0); repeat' first | (with_reducible first | apply ih0 | exact LeO.refl _ | exact LeO.none _ | refine LeO.ite ?_ ?_ | refine LeO.bind ?_ (fun _ => ?_)) | apply ih0 | exact LeO.none _ | refine LeO.ite ?_ ?_ | refine LeO.bind ?_ (fun _ => ?_))
theorem gamehallref1_reaches.mono : ∀ a0 a1 a2 a3 a4 a5 a6 a7 a8 a9 a10 a11 a12 a13 a14 a15 a16 a17 a18 a19 a20 a21 k, LeO (gamehallref1_reaches.f k a0 a1 a2 a3 a4 a5 a6 a7 a8 a9 a10 a11 a12 a13 a14 a15 a16 a17 a18 a19 a20 a21) (gamehallref1_reaches.f (k + 1) a0 a1 a2 a3 a4 a5 a6 a7 a8 a9 a10 a11 a12 a13 a14 a15 a16 a17 a18 a19 a20 a21) := by
  intros; rename_i k
  have ih0 := gamehallref1_reaches.mono_l k
  unfold gamehallref1_reaches.f
  repeat' first | (with_reducible first | apply ih0 | exact LeO.refl _ | exact LeO.none _ | refine LeO.ite ?_ ?_ | refine LeO.bind ?_ (fun _ => ?_)) | apply ih0 | exact LeO.none _ | refine LeO.ite ?_ ?_ | refine LeO.bind ?_ (fun _ => ?_)
theorem gamehallref1_reaches.calls (k : Nat) (a0_0 : ByteArray) (a0_1 : Int) (a0_2 : Int) (A0_3 : Option Addr) (c0_3 : Nat) (l0_3 : List (S62)) (A0_4 : Option Addr) (c0_4 : Nat) (l0_4 : List Int) (a0_5 : Bool) (a0_6 : Bool) (A0_7 : Option Addr) (c0_7 : Nat) (l0_7 : List (S64)) (a0_8 : Int) (a0_9 : Int) (a0_10 : Int) (A1_0 : Option Addr) (c1_0 : Nat) (l1_0 : List Int) (A1_1 : Option Addr) (c1_1 : Nat) (l1_1 : List Int) (A1_2 : Option Addr) (c1_2 : Nat) (l1_2 : List Int) (a1_3 : Int) (a1_4 : Int) (a2 : Int) (a3 : Int) (a4_0 : Int) (a4_1 : Int) (a4_2 : Int) (a4_3 : Int) (r : Bool) (w : World) (hr0_3 : Kd.C k62 w A0_3 l0_3.length l0_3) (hc0_3 : l0_3.length ≤ c0_3) (hr0_4 : Kd.C (Kd.int .i64) w A0_4 l0_4.length l0_4) (hc0_4 : l0_4.length ≤ c0_4) (hr0_7 : Kd.C k64 w A0_7 l0_7.length l0_7) (hc0_7 : l0_7.length ≤ c0_7) (hr1_0 : Kd.C (Kd.int .i64) w A1_0 l1_0.length l1_0) (hc1_0 : l1_0.length ≤ c1_0) (hr1_1 : Kd.C (Kd.int .i64) w A1_1 l1_1.length l1_1) (hc1_1 : l1_1.length ≤ c1_1) (hr1_2 : Kd.C (Kd.int .i64) w A1_2 l1_2.length l1_2) (hc1_2 : l1_2.length ≤ c1_2) (h : gamehallref1_reaches.f k a0_0 a0_1 a0_2 l0_3 l0_4 a0_5 a0_6 l0_7 a0_8 a0_9 a0_10 l1_0 l1_1 l1_2 a1_3 a1_4 a2 a3 a4_0 a4_1 a4_2 a4_3 = some r) :
    Calls Try.prog 37 #[.agg #[.string a0_0, .int .i64 a0_1, .int .i64 a0_2, .slice A0_3 l0_3.length c0_3, .slice A0_4 l0_4.length c0_4, .bool a0_5, .bool a0_6, .slice A0_7 l0_7.length c0_7, .int .i64 a0_8, .int .i64 a0_9, .int .i64 a0_10], .agg #[.slice A1_0 l1_0.length c1_0, .slice A1_1 l1_1.length c1_1, .slice A1_2 l1_2.length c1_2, .int .i64 a1_3, .int .i64 a1_4], .int .i64 a2, .int .i64 a3, .agg #[.int .i64 a4_0, .int .i64 a4_1, .int .i64 a4_2, .int .i64 a4_3]] w fun e w' => e = .returned (.bool r) ∧ Below w.heap.size w w' := by
 have hu26 := Try.underlying26; have hu29 := Try.underlying29; have hu74 := Try.underlying74; have HR0_3 := xm hr0_3; have HC0_3 := xm hc0_3; clear hr0_3 hc0_3; have HR0_4 := xm hr0_4; have HC0_4 := xm hc0_4; clear hr0_4 hc0_4; have HR0_7 := xm hr0_7; have HC0_7 := xm hc0_7; clear hr0_7 hc0_7; have HR1_0 := xm hr1_0; have HC1_0 := xm hc1_0; clear hr1_0 hc1_0; have HR1_1 := xm hr1_1; have HC1_1 := xm hc1_1; clear hr1_1 hc1_1; have HR1_2 := xm hr1_2; have HC1_2 := xm hc1_2; clear hr1_2 hc1_2; have HB := xm (Below.refl w.heap.size w); have hss_ := @isSome_setCell
 have H : (if a0_1 = 0 then (none) else (gamehallref1_reaches.l0 k a3 (wrap64 (1 - (wrap64 (2 * a1_3)))) (Int.tmod a2 a0_1) (wrap64 (Int.tdiv a2 a0_1)) 1 a0_0 a0_1 a0_2 l0_3 l0_4 a0_5 a0_6 l0_7 a0_8 a0_9 a0_10 l1_0 l1_1 l1_2 a1_3 a1_4 a4_0 a4_1 a4_2 a4_3)) = some r := h
 clear h
 by_cases c6 : a0_1 = 0
 ·rw [if_pos c6] at H
  exact absurd H (by simp)
 ·rw [if_neg c6] at H
  have c6b0 := beq_eq_false_iff_ne.mpr c6
  have c6b1 := bne_iff_ne.mpr c6
  have H' := xm H
  clear H
  go_enter Try.func37, Try.ntmps37
  go_wp2_with (first | ((with_reducible refine gate_dst (N := 5) rfl ?_); refine xG (cs := #[.string a0_0, .int .i64 a0_1, .int .i64 a0_2, .slice A0_3 l0_3.length c0_3, .slice A0_4 l0_4.length c0_4, .bool a0_5, .bool a0_6, .slice A0_7 l0_7.length c0_7, .int .i64 a0_8, .int .i64 a0_9, .int .i64 a0_10]) (t := 26) ?_; intro gb270 hg w7 hbox hb; have BK270 := xm (hbox); have GW270 := xm (xZ HB hg); have GE270 := xm (xZ HB hg); replace HB := xm (xS HB hb); clear hb hbox hg) | ((with_reducible refine gate_dst (N := 6) rfl ?_); refine xG (cs := #[.slice A1_0 l1_0.length c1_0, .slice A1_1 l1_1.length c1_1, .slice A1_2 l1_2.length c1_2, .int .i64 a1_3, .int .i64 a1_4]) (t := 29) ?_; intro gb271 hg w8 hbox hb; have BK271 := xm (hbox); have GW271 := xm (xZ HB hg); have GE271 := xm (xZ HB hg); have NB270_271 := xm (xN BK270 hg); have NB271_270 := xm (xM BK270 hg); replace BK270 := xm (xB BK270 hb); replace HB := xm (xS HB hb); clear hb hbox hg) | ((with_reducible refine gate_dst (N := 9) rfl ?_); refine xG (cs := #[.int .i64 a4_0, .int .i64 a4_1, .int .i64 a4_2, .int .i64 a4_3]) (t := 74) ?_; intro gb272 hg w9 hbox hb; have BK272 := xm (hbox); have GW272 := xm (xZ HB hg); have GE272 := xm (xZ HB hg); have NB270_272 := xm (xN BK270 hg); have NB272_270 := xm (xM BK270 hg); have NB271_272 := xm (xN BK271 hg); have NB272_271 := xm (xM BK271 hg); replace BK270 := xm (xB BK270 hb); replace BK271 := xm (xB BK271 hb); replace HB := xm (xS HB hb); clear hb hbox hg; have hnb10 := NB271_270.out; have hnc10 := NB270_271.out; have hnb11 := NB271_272.out; have hnc11 := NB272_271.out; have hcz12_0 := blkc5 BK271.out; have hnb13 := NB270_272.out; have hnc13 := NB272_270.out; have hcz14_0 := blkc11 BK270.out))
  repeat (go_quiet (first | ((with_reducible refine gate_dst (N := 5) rfl ?_); refine xG (cs := #[.string a0_0, .int .i64 a0_1, .int .i64 a0_2, .slice A0_3 l0_3.length c0_3, .slice A0_4 l0_4.length c0_4, .bool a0_5, .bool a0_6, .slice A0_7 l0_7.length c0_7, .int .i64 a0_8, .int .i64 a0_9, .int .i64 a0_10]) (t := 26) ?_; intro gb270 hg w7 hbox hb; have BK270 := xm (hbox); have GW270 := xm (xZ HB hg); have GE270 := xm (xZ HB hg); replace HB := xm (xS HB hb); clear hb hbox hg) | ((with_reducible refine gate_dst (N := 6) rfl ?_); refine xG (cs := #[.slice A1_0 l1_0.length c1_0, .slice A1_1 l1_1.length c1_1, .slice A1_2 l1_2.length c1_2, .int .i64 a1_3, .int .i64 a1_4]) (t := 29) ?_; intro gb271 hg w8 hbox hb; have BK271 := xm (hbox); have GW271 := xm (xZ HB hg); have GE271 := xm (xZ HB hg); have NB270_271 := xm (xN BK270 hg); have NB271_270 := xm (xM BK270 hg); replace BK270 := xm (xB BK270 hb); replace HB := xm (xS HB hb); clear hb hbox hg) | ((with_reducible refine gate_dst (N := 9) rfl ?_); refine xG (cs := #[.int .i64 a4_0, .int .i64 a4_1, .int .i64 a4_2, .int .i64 a4_3]) (t := 74) ?_; intro gb272 hg w9 hbox hb; have BK272 := xm (hbox); have GW272 := xm (xZ HB hg); have GE272 := xm (xZ HB hg); have NB270_272 := xm (xN BK270 hg); have NB272_270 := xm (xM BK270 hg); have NB271_272 := xm (xN BK271 hg); have NB272_271 := xm (xM BK271 hg); replace BK270 := xm (xB BK270 hb); replace BK271 := xm (xB BK271 hb); replace HB := xm (xS HB hb); clear hb hbox hg; have hcz12_0 := blkc5 BK271.out; have hcz14_0 := blkc11 BK270.out)); try go_wp2_with (first | ((with_reducible refine gate_dst (N := 5) rfl ?_); refine xG (cs := #[.string a0_0, .int .i64 a0_1, .int .i64 a0_2, .slice A0_3 l0_3.length c0_3, .slice A0_4 l0_4.length c0_4, .bool a0_5, .bool a0_6, .slice A0_7 l0_7.length c0_7, .int .i64 a0_8, .int .i64 a0_9, .int .i64 a0_10]) (t := 26) ?_; intro gb270 hg w7 hbox hb; have BK270 := xm (hbox); have GW270 := xm (xZ HB hg); have GE270 := xm (xZ HB hg); replace HB := xm (xS HB hb); clear hb hbox hg) | ((with_reducible refine gate_dst (N := 6) rfl ?_); refine xG (cs := #[.slice A1_0 l1_0.length c1_0, .slice A1_1 l1_1.length c1_1, .slice A1_2 l1_2.length c1_2, .int .i64 a1_3, .int .i64 a1_4]) (t := 29) ?_; intro gb271 hg w8 hbox hb; have BK271 := xm (hbox); have GW271 := xm (xZ HB hg); have GE271 := xm (xZ HB hg); have NB270_271 := xm (xN BK270 hg); have NB271_270 := xm (xM BK270 hg); replace BK270 := xm (xB BK270 hb); replace HB := xm (xS HB hb); clear hb hbox hg) | ((with_reducible refine gate_dst (N := 9) rfl ?_); refine xG (cs := #[.int .i64 a4_0, .int .i64 a4_1, .int .i64 a4_2, .int .i64 a4_3]) (t := 74) ?_; intro gb272 hg w9 hbox hb; have BK272 := xm (hbox); have GW272 := xm (xZ HB hg); have GE272 := xm (xZ HB hg); have NB270_272 := xm (xN BK270 hg); have NB272_270 := xm (xM BK270 hg); have NB271_272 := xm (xN BK271 hg); have NB272_271 := xm (xM BK271 hg); replace BK270 := xm (xB BK270 hb); replace BK271 := xm (xB BK271 hb); replace HB := xm (xS HB hb); clear hb hbox hg; have hcz12_0 := blkc5 BK271.out; have hcz14_0 := blkc11 BK270.out)))
  (try have hq272_270 := NB272_270.out); (try have hq270_272 := NB270_272.out); (try have hq272_271 := NB272_271.out); (try have hq271_272 := NB271_272.out); (try have hq270_271 := NB270_271.out); (try have hq271_270 := NB271_270.out)
  go_loopg [14] k (fun kq vs14 w' => ∃ (x14_1 : Int), vs14 = .int .i64 x14_1 ∧ Aside0 (gamehallref1_reaches.l0 kq a3 (wrap64 (1 - (wrap64 (2 * a1_3)))) (Int.tmod a2 a0_1) (wrap64 (Int.tdiv a2 a0_1)) x14_1 a0_0 a0_1 a0_2 l0_3 l0_4 a0_5 a0_6 l0_7 a0_8 a0_9 a0_10 l1_0 l1_1 l1_2 a1_3 a1_4 a4_0 a4_1 a4_2 a4_3 = some r) ∧ Aside0 (kq ≤ k) ∧ Aside0 (w'.heap[gb270]? = some (.cells #[.string a0_0, .int .i64 a0_1, .int .i64 a0_2, (.slice A0_3 l0_3.length c0_3), (.slice A0_4 l0_4.length c0_4), .bool a0_5, .bool a0_6, (.slice A0_7 l0_7.length c0_7), .int .i64 a0_8, .int .i64 a0_9, .int .i64 a0_10] 26 (0, 0))) ∧ Aside0 (w'.heap[gb271]? = some (.cells #[(.slice A1_0 l1_0.length c1_0), (.slice A1_1 l1_1.length c1_1), (.slice A1_2 l1_2.length c1_2), .int .i64 a1_3, .int .i64 a1_4] 29 (0, 0))) ∧ Aside0 (w'.heap[gb272]? = some (.cells #[.int .i64 a4_0, .int .i64 a4_1, .int .i64 a4_2, .int .i64 a4_3] 74 (0, 0))) ∧ Aside0 (Below w.heap.size w w'))
  case atStart => exact ⟨(1), (xrf), H', ⟨Nat.le_refl _⟩, ⟨xK BK270⟩, ⟨xK BK271⟩, ⟨xK BK272⟩, ⟨xW HB⟩⟩
  case round =>
   clear H'; (try clear p2); (try clear p6)
   obtain ⟨x14_1, rfl, HA, HK1, BK270, BK271, BK272, HB⟩ := hrel
   cases gk with
   | zero => exact absurd HA.out (by simp [gamehallref1_reaches.l0])
   | succ k1 =>
    have H := HA.out; clear HA
    simp only [gamehallref1_reaches.l0] at H
    by_cases c15 : x14_1 ≤ a4_2
    ·rw [if_pos c15] at H
     have c15b0 := decide_eq_true c15
     clear c15; replace H := Option.bind_eq_some_iff.mp H
     obtain ⟨t273, A160, H⟩ := H
     try dsimp only at H
     have A16 := xm A160; clear A160; have DA16 := xm fun (W_ : World) (hb_ : Below w.heap.size w W_) => gamehallref1_At.calls a0_0 a0_1 a0_2 _ _ l0_3 _ _ l0_4 a0_5 a0_6 _ _ l0_7 a0_8 a0_9 a0_10 _ _ l1_0 _ _ l1_1 _ _ l1_2 a1_3 a1_4 (wrap64 ((Int.tmod a2 a0_1) + (wrap64 (x14_1 * a4_0)))) (wrap64 ((wrap64 (Int.tdiv a2 a0_1)) + (wrap64 ((wrap64 (x14_1 * a4_1)) * (wrap64 (1 - (wrap64 (2 * a1_3)))))))) t273 W_ (Kd.C_below HR0_3.out hb_) HC0_3.out (Kd.C_below HR0_4.out hb_) HC0_4.out (Kd.C_below HR0_7.out hb_) HC0_7.out (Kd.C_below HR1_0.out hb_) HC1_0.out (Kd.C_below HR1_1.out hb_) HC1_1.out (Kd.C_below HR1_2.out hb_) HC1_2.out A16.out
     by_cases c17 : t273 < 0
     ·rw [if_pos c17] at H
      have c17b0 := decide_eq_true c17
      clear c17
      obtain rfl := Option.some.inj H
      have hcz20_0 := blkc4 BK272.out; have hcz22_0 := blkc11 BK270.out; have hcz23_0 := blkc5 BK271.out
      go_wp2_with (first | (go_at_call 47; (with_reducible refine (DA16.out _ ?sB).mono ?_); (case sB => exact xW HB); rintro e w24 ⟨rfl, hb⟩; replace BK270 := xm (xB BK270 hb); replace BK271 := xm (xB BK271 hb); replace BK272 := xm (xB BK272 hb); replace HB := xm (xS HB hb); (try clear hb); (try clear hb2); (try clear hk); (try clear hi)))
      go_ret
      exact ⟨xer, xW HB⟩
     ·rw [if_neg c17] at H
      have c17b0 := decide_eq_false c17
      clear c17
      by_cases c25 : (wrap64 ((wrap64 ((wrap64 ((wrap64 ((wrap64 (Int.tdiv a2 a0_1)) + (wrap64 ((wrap64 (x14_1 * a4_1)) * (wrap64 (1 - (wrap64 (2 * a1_3)))))))) * a0_1)) + (Int.tmod a2 a0_1))) + (wrap64 (x14_1 * a4_0)))) = a3
      ·rw [if_pos c25] at H
       have c25b0 := beq_iff_eq.mpr c25
       have c25b1 := bne_eq_false_iff_eq.mpr c25
       clear c25; replace H := Option.bind_eq_some_iff.mp H
       obtain ⟨t274, A260, H⟩ := H
       try dsimp only at H
       have A26 := xm A260; clear A260
       by_cases c27 : t273 = 0
       ·rw [if_pos c27] at H
        have c27b0 := beq_iff_eq.mpr c27
        have c27b1 := bne_eq_false_iff_eq.mpr c27
        clear c27
        by_cases c28 : a4_3 = 2
        ·rw [if_pos c28] at H
         have c28b0 := beq_iff_eq.mpr c28
         have c28b1 := bne_eq_false_iff_eq.mpr c28
         clear c28
         by_cases c29 : t274 = true
         ·subst c29
          rw [if_pos rfl] at H
          obtain rfl := Option.some.inj H
          have hcz32_0 := blkc4 BK272.out; have hcz34_0 := blkc11 BK270.out; have hcz35_0 := blkc5 BK271.out
          go_wp2_with (first | (go_at_call 47; (with_reducible refine (DA16.out _ ?sB).mono ?_); (case sB => exact xW HB); rintro e w36 ⟨rfl, hb⟩; replace BK270 := xm (xB BK270 hb); replace BK271 := xm (xB BK271 hb); replace BK272 := xm (xB BK272 hb); replace HB := xm (xS HB hb); (try clear hb); (try clear hb2); (try clear hk); (try clear hi); have hcz37_0 := blkc4 BK272.out; have hcz38_0 := blkc11 BK270.out; have hcz39_0 := blkc5 BK271.out) | (go_at_call 36; (with_reducible refine (gamehallref1_Mine.calls t273 (wrap64 (1 - a1_3)) true _ A26.out).mono ?_); rintro e w' ⟨rfl, ⟨nd, rfl⟩⟩; (try first | exact ⟨rfl, _, World.drewN_drewN _ _ _⟩ | exact ⟨rfl, _, Eq.trans (World.drewN_drewN _ _ _) (congrArg (World.drewN _) (Nat.add_assoc _ _ _))⟩)))
          go_ret
          exact ⟨xer, xW HB⟩
         ·replace c29 := Bool.eq_false_iff.mpr c29
          subst c29
          rw [if_neg xF] at H
          obtain rfl := Option.some.inj H
          have hcz42_0 := blkc4 BK272.out; have hcz44_0 := blkc11 BK270.out; have hcz45_0 := blkc5 BK271.out
          go_wp2_with (first | (go_at_call 47; (with_reducible refine (DA16.out _ ?sB).mono ?_); (case sB => exact xW HB); rintro e w46 ⟨rfl, hb⟩; replace BK270 := xm (xB BK270 hb); replace BK271 := xm (xB BK271 hb); replace BK272 := xm (xB BK272 hb); replace HB := xm (xS HB hb); (try clear hb); (try clear hb2); (try clear hk); (try clear hi); have hcz47_0 := blkc4 BK272.out; have hcz48_0 := blkc11 BK270.out; have hcz49_0 := blkc5 BK271.out) | (go_at_call 36; (with_reducible refine (gamehallref1_Mine.calls t273 (wrap64 (1 - a1_3)) false _ A26.out).mono ?_); rintro e w' ⟨rfl, ⟨nd, rfl⟩⟩; (try first | exact ⟨rfl, _, World.drewN_drewN _ _ _⟩ | exact ⟨rfl, _, Eq.trans (World.drewN_drewN _ _ _) (congrArg (World.drewN _) (Nat.add_assoc _ _ _))⟩)))
          go_ret
          exact ⟨xer, xW HB⟩
        ·rw [if_neg c28] at H
         have c28b0 := beq_eq_false_iff_ne.mpr c28
         have c28b1 := bne_iff_ne.mpr c28
         obtain rfl := Option.some.inj H
         have hcz52_0 := blkc4 BK272.out; have hcz54_0 := blkc11 BK270.out; have hcz55_0 := blkc5 BK271.out
         go_wp2_with (first | (go_at_call 47; (with_reducible refine (DA16.out _ ?sB).mono ?_); (case sB => exact xW HB); rintro e w56 ⟨rfl, hb⟩; replace BK270 := xm (xB BK270 hb); replace BK271 := xm (xB BK271 hb); replace BK272 := xm (xB BK272 hb); replace HB := xm (xS HB hb); (try clear hb); (try clear hb2); (try clear hk); (try clear hi); have hcz57_0 := blkc4 BK272.out; have hcz58_0 := blkc11 BK270.out; have hcz59_0 := blkc5 BK271.out) | (go_at_call 36; (with_reducible refine (gamehallref1_Mine.calls t273 (wrap64 (1 - a1_3)) t274 _ A26.out).mono ?_); rintro e w' ⟨rfl, ⟨nd, rfl⟩⟩; (try first | exact ⟨rfl, _, World.drewN_drewN _ _ _⟩ | exact ⟨rfl, _, Eq.trans (World.drewN_drewN _ _ _) (congrArg (World.drewN _) (Nat.add_assoc _ _ _))⟩)))
         go_ret
         exact ⟨xer, xW HB⟩
       ·rw [if_neg c27] at H
        have c27b0 := beq_eq_false_iff_ne.mpr c27
        have c27b1 := bne_iff_ne.mpr c27
        by_cases c60 : t274 = true
        ·subst c60
         rw [if_pos rfl] at H
         obtain rfl := Option.some.inj H
         have hcz63_0 := blkc4 BK272.out; have hcz65_0 := blkc11 BK270.out; have hcz66_0 := blkc5 BK271.out
         go_wp2_with (first | (go_at_call 47; (with_reducible refine (DA16.out _ ?sB).mono ?_); (case sB => exact xW HB); rintro e w67 ⟨rfl, hb⟩; replace BK270 := xm (xB BK270 hb); replace BK271 := xm (xB BK271 hb); replace BK272 := xm (xB BK272 hb); replace HB := xm (xS HB hb); (try clear hb); (try clear hb2); (try clear hk); (try clear hi); have hcz68_0 := blkc4 BK272.out; have hcz69_0 := blkc11 BK270.out; have hcz70_0 := blkc5 BK271.out) | (go_at_call 36; (with_reducible refine (gamehallref1_Mine.calls t273 (wrap64 (1 - a1_3)) true _ A26.out).mono ?_); rintro e w' ⟨rfl, ⟨nd, rfl⟩⟩; (try first | exact ⟨rfl, _, World.drewN_drewN _ _ _⟩ | exact ⟨rfl, _, Eq.trans (World.drewN_drewN _ _ _) (congrArg (World.drewN _) (Nat.add_assoc _ _ _))⟩)))
         go_ret
         exact ⟨xer, xW HB⟩
        ·replace c60 := Bool.eq_false_iff.mpr c60
         subst c60
         rw [if_neg xF] at H
         obtain rfl := Option.some.inj H
         have hcz73_0 := blkc4 BK272.out; have hcz75_0 := blkc11 BK270.out; have hcz76_0 := blkc5 BK271.out
         go_wp2_with (first | (go_at_call 47; (with_reducible refine (DA16.out _ ?sB).mono ?_); (case sB => exact xW HB); rintro e w77 ⟨rfl, hb⟩; replace BK270 := xm (xB BK270 hb); replace BK271 := xm (xB BK271 hb); replace BK272 := xm (xB BK272 hb); replace HB := xm (xS HB hb); (try clear hb); (try clear hb2); (try clear hk); (try clear hi); have hcz78_0 := blkc4 BK272.out; have hcz79_0 := blkc11 BK270.out; have hcz80_0 := blkc5 BK271.out) | (go_at_call 36; (with_reducible refine (gamehallref1_Mine.calls t273 (wrap64 (1 - a1_3)) false _ A26.out).mono ?_); rintro e w' ⟨rfl, ⟨nd, rfl⟩⟩; (try first | exact ⟨rfl, _, World.drewN_drewN _ _ _⟩ | exact ⟨rfl, _, Eq.trans (World.drewN_drewN _ _ _) (congrArg (World.drewN _) (Nat.add_assoc _ _ _))⟩)))
         go_ret
         exact ⟨xer, xW HB⟩
      ·rw [if_neg c25] at H
       have c25b0 := beq_eq_false_iff_ne.mpr c25
       have c25b1 := bne_iff_ne.mpr c25
       by_cases c81 : t273 = 0
       ·rw [if_pos c81] at H
        have c81b0 := beq_iff_eq.mpr c81
        have c81b1 := bne_eq_false_iff_eq.mpr c81
        clear c81
        have H' := xm H
        clear H; have hcz84_0 := blkc4 BK272.out; have hcz86_0 := blkc11 BK270.out; have hcz87_0 := blkc5 BK271.out
        go_wp2_with (first | (go_at_call 47; (with_reducible refine (DA16.out _ ?sB).mono ?_); (case sB => exact xW HB); rintro e w88 ⟨rfl, hb⟩; replace BK270 := xm (xB BK270 hb); replace BK271 := xm (xB BK271 hb); replace BK272 := xm (xB BK272 hb); replace HB := xm (xS HB hb); (try clear hb); (try clear hb2); (try clear hk); (try clear hi); have hcz89_0 := blkc4 BK272.out; have hcz90_0 := blkc11 BK270.out))
        go_roundg k1
        case measure => have := HK1.out; omega
        case rel => exact ⟨(wrap64 (x14_1 + 1)), (xrf), H', ⟨by have := HK1.out; omega⟩, ⟨xK BK270⟩, ⟨xK BK271⟩, ⟨xK BK272⟩, ⟨xW HB⟩⟩
       ·rw [if_neg c81] at H
        have c81b0 := beq_eq_false_iff_ne.mpr c81
        have c81b1 := bne_iff_ne.mpr c81
        obtain rfl := Option.some.inj H
        have hcz93_0 := blkc4 BK272.out; have hcz95_0 := blkc11 BK270.out; have hcz96_0 := blkc5 BK271.out
        go_wp2_with (first | (go_at_call 47; (with_reducible refine (DA16.out _ ?sB).mono ?_); (case sB => exact xW HB); rintro e w97 ⟨rfl, hb⟩; replace BK270 := xm (xB BK270 hb); replace BK271 := xm (xB BK271 hb); replace BK272 := xm (xB BK272 hb); replace HB := xm (xS HB hb); (try clear hb); (try clear hb2); (try clear hk); (try clear hi); have hcz98_0 := blkc4 BK272.out; have hcz99_0 := blkc11 BK270.out))
        go_ret
        exact ⟨xer, xW HB⟩
    ·rw [if_neg c15] at H
     have c15b0 := decide_eq_false c15
     clear c15
     obtain rfl := Option.some.inj H
     have hcz102_0 := blkc4 BK272.out
     go_wp2
     go_ret
     exact ⟨xer, xW HB⟩

end Go.Proofs.Ytloadbbndnmdlaa.PEndsOf
