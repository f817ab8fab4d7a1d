-- Printed by a program of this claim's writer (wip/ext): an extension of the kit's print.
import Derived.Test.YtkkgpabjpnkjjaaDoorPRuletextPrintsx0
namespace Go.Proofs.YtkkgpabjpnkjjaaDoor.PRuletextPrints
open Go.RowKit Go.Proofs.YtkkgpabjpnkjjaaDoorW.PrintWords Go.Proofs.YtkkgpabjpnkjjaaDoorW.PrintLast Go.Proofs.YtkkgpabjpnkjjaaDoorW.PrintMore
set_option maxHeartbeats 8000000
set_option maxRecDepth 100000
attribute [local go_sem] max2_int min2_int max_two min_two max_three min_three max_four min_four   -- for this text's walks alone
set_option linter.unusedVariables false
set_option linter.unusedSimpArgs false

/-! ### gamehallref1_In: function 17 -/
def gamehallref1_In.f (a0 : Int) (a1 : Int) (a2 : Int) : Option (Bool) := if a0 ≥ a1 then (some (decide (a0 ≤ a2))) else (some false)
theorem gamehallref1_In.calls (a0 : Int) (a1 : Int) (a2 : Int) (r : Bool) (w : World) (h : gamehallref1_In.f a0 a1 a2 = some r) :
    Calls Tryd.prog 17 #[.int .i64 a0, .int .i64 a1, .int .i64 a2] w fun e w' => e = .returned (.bool r) ∧ Drawn0 w w' := by
 have H : (if a0 ≥ a1 then (some (decide (a0 ≤ a2))) else (some false)) = some r := h; clear h
 by_cases c4 : a0 ≥ a1
 ·rw [if_pos c4] at H; have c4b0 := decide_eq_true c4; clear c4; obtain rfl := Option.some.inj H; go_enter Tryd.func17, Tryd.ntmps17
  go_wp2
  go_ret; exact ⟨xrf, by repeat (first | exact Drawn0.refl _ | apply Drawn0.step)⟩
 ·rw [if_neg c4] at H; have c4b0 := decide_eq_false c4; clear c4; obtain rfl := Option.some.inj H; go_enter Tryd.func17, Tryd.ntmps17
  go_wp2
  go_ret; exact ⟨xrf, by repeat (first | exact Drawn0.refl _ | apply Drawn0.step)⟩

/-! ### gamehallref1_Named: function 16 -/
def gamehallref1_Named.l0 : Nat → ByteArray → Int → Int → Option (Bool)
  | 0, _, _, _ => none
  | k + 1, x0, x6, x7 => if x7 < x6 then (if 0 ≤ x7 then (if x7 < (x0.size : Int) then ((gamehallref1_In.f (wrap64 (bt x0 x7)) 48 57).bind fun t256 => (if t256 = true then (if x7 = 0 then (some false) else (gamehallref1_Named.l0 k x0 x6 (wrap64 (x7 + 1)))) else ((gamehallref1_In.f (wrap64 (bt x0 x7)) 65 90).bind fun t257 => (if t257 = true then (gamehallref1_Named.l0 k x0 x6 (wrap64 (x7 + 1))) else (some false))))) else (none)) else (none)) else ((gamehallref1_In.f (x0.size : Int) 1 8).bind fun t255 => (some t255))
def gamehallref1_Named.f (k : Nat) (a0 : ByteArray) : Option (Bool) := gamehallref1_Named.l0 k a0 (a0.size : Int) 0
theorem gamehallref1_Named.mono_l : ∀ k, LM (LM (LM (LeO))) (gamehallref1_Named.l0 k) (gamehallref1_Named.l0 (k + 1))
  | 0 => by (repeat (first | exact LeO.none _ | intro _))
  | k + 1 => by
    have ih0 := gamehallref1_Named.mono_l k
    ((repeat (first | (with_reducible refine LeO.st ?_) | intro _)); constructor; (first | unfold gamehallref1_Named.l0); repeat' first | (with_reducible first | apply ih0 | exact LeO.refl _ | exact LeO.none _ | refine LeO.ite ?_ ?_ | refine LeO.bind ?_ (fun _ => ?_)) | apply ih0 | exact LeO.none _ | refine LeO.ite ?_ ?_ | refine LeO.bind ?_ (fun _ => ?_))
theorem gamehallref1_Named.mono : ∀ a0 k, LeO (gamehallref1_Named.f k a0) (gamehallref1_Named.f (k + 1) a0) := by
  intros; rename_i k; have ih0 := gamehallref1_Named.mono_l k
  unfold gamehallref1_Named.f
  repeat' first | (with_reducible first | apply ih0 | exact LeO.refl _ | exact LeO.none _ | refine LeO.ite ?_ ?_ | refine LeO.bind ?_ (fun _ => ?_)) | apply ih0 | exact LeO.none _ | refine LeO.ite ?_ ?_ | refine LeO.bind ?_ (fun _ => ?_)
theorem gamehallref1_Named.calls (k : Nat) (a0 : ByteArray) (r : Bool) (w : World) (h : gamehallref1_Named.f k a0 = some r) :
    Calls Tryd.prog 16 #[.string a0] w fun e w' => e = .returned (.bool r) ∧ Drawn0 w w' := by
 have H : (gamehallref1_Named.l0 k a0 (a0.size : Int) 0) = some r := h; clear h; have H' := xm H; clear H; go_enter Tryd.func16, Tryd.ntmps16
 go_wp2
 go_loopg [7] k (fun kq vs7 w' => ∃ (x7_1 : Int), vs7 = .int .i64 x7_1 ∧ Aside0 (gamehallref1_Named.l0 kq a0 (a0.size : Int) x7_1 = some r) ∧ Aside0 (kq ≤ k) ∧ Drawn0 w w')
 case atStart => exact ⟨(0), (xrf), H', ⟨Nat.le_refl _⟩, by repeat (first | exact Drawn0.refl _ | apply Drawn0.step)⟩
 case round =>
  clear H'; obtain ⟨x7_1, rfl, HA, HK1, ⟨m1, rfl⟩⟩ := hrel
  cases gk with
  | zero => exact absurd HA.out (by simp [gamehallref1_Named.l0])
  | succ k1 =>
   have H := HA.out; clear HA; simp only [gamehallref1_Named.l0] at H
   by_cases c2 : x7_1 < (a0.size : Int)
   ·rw [if_pos c2] at H; have c2b0 := decide_eq_true c2; clear c2; obtain ⟨c3b0, H⟩ := xJ H; obtain ⟨c4b0, H⟩ := xJ H; obtain ⟨t256, A6, H⟩ := xH H; (try dsimp only at H)
    by_cases c7 : t256 = true
    ·subst c7; rw [if_pos rfl] at H
     by_cases c8 : x7_1 = 0
     ·rw [if_pos c8] at H; have c8b0 := beq_iff_eq.mpr c8; have c8b1 := bne_eq_false_iff_eq.mpr c8; clear c8; obtain rfl := Option.some.inj H; have p5 : 0 ≤ (x7_1 : Int) := xO; have q5 : x7_1 < (a0.size : Int) := xO; have hx5 := bt_at a0 x7_1; replace p5 := eq_true p5; replace q5 := eq_true q5; go_wp2_with (first | ((with_reducible refine gate_callee (f := 17) rfl ?_); refine xL (some 14) Tryd.func17 #[.int .i64 (wrap64 (bt a0 x7_1)), .int .i64 48, .int .i64 57] rfl ?_; (with_reducible refine (gamehallref1_In.calls (wrap64 (bt a0 x7_1)) 48 57 true _ A6.out).mono ?_); rintro e w' ⟨rfl, ⟨nd, rfl⟩⟩; refine ⟨_, rfl, ?_⟩)); go_ret; exact ⟨xrf, by repeat (first | exact Drawn0.refl _ | apply Drawn0.step)⟩
     ·rw [if_neg c8] at H; have c8b0 := beq_eq_false_iff_ne.mpr c8; have c8b1 := bne_iff_ne.mpr c8; have H' := xm H; clear H; have p5 : 0 ≤ (x7_1 : Int) := xO; have q5 : x7_1 < (a0.size : Int) := xO; have hx5 := bt_at a0 x7_1; replace p5 := eq_true p5; replace q5 := eq_true q5; go_wp2_with (first | ((with_reducible refine gate_callee (f := 17) rfl ?_); refine xL (some 14) Tryd.func17 #[.int .i64 (wrap64 (bt a0 x7_1)), .int .i64 48, .int .i64 57] rfl ?_; (with_reducible refine (gamehallref1_In.calls (wrap64 (bt a0 x7_1)) 48 57 true _ A6.out).mono ?_); rintro e w' ⟨rfl, ⟨nd, rfl⟩⟩; refine ⟨_, rfl, ?_⟩)); go_roundg k1
      case measure => have := HK1.out; omega
      case rel => exact ⟨(wrap64 (x7_1 + 1)), (xrf), H', ⟨by have := HK1.out; omega⟩, by repeat (first | exact Drawn0.refl _ | apply Drawn0.step)⟩
    ·obtain rfl := Bool.eq_false_iff.mpr c7; rw [if_neg xF] at H; obtain ⟨t257, A10, H⟩ := xH H; (try dsimp only at H)
     by_cases c11 : t257 = true
     ·subst c11; rw [if_pos rfl] at H; have H' := xm H; clear H; have p5 : 0 ≤ (x7_1 : Int) := xO; have q5 : x7_1 < (a0.size : Int) := xO; have hx5 := bt_at a0 x7_1; replace p5 := eq_true p5; replace q5 := eq_true q5; go_wp2_with (first | ((with_reducible refine gate_callee (f := 17) rfl ?_); refine xL (some 14) Tryd.func17 #[.int .i64 (wrap64 (bt a0 x7_1)), .int .i64 48, .int .i64 57] rfl ?_; (with_reducible refine (gamehallref1_In.calls (wrap64 (bt a0 x7_1)) 48 57 false _ A6.out).mono ?_); rintro e w' ⟨rfl, ⟨nd, rfl⟩⟩; refine ⟨_, rfl, ?_⟩; have p9 : 0 ≤ (x7_1 : Int) := xO; have q9 : x7_1 < (a0.size : Int) := xO; have hx9 := bt_at a0 x7_1; replace p9 := eq_true p9; replace q9 := eq_true q9) | (go_at_call 17; (with_reducible refine (gamehallref1_In.calls (wrap64 (bt a0 x7_1)) 65 90 true _ A10.out).mono ?_); rintro e w' ⟨rfl, ⟨nd, rfl⟩⟩)); go_roundg k1
      case measure => have := HK1.out; omega
      case rel => exact ⟨(wrap64 (x7_1 + 1)), (xrf), H', ⟨by have := HK1.out; omega⟩, by repeat (first | exact Drawn0.refl _ | apply Drawn0.step)⟩
     ·obtain rfl := Bool.eq_false_iff.mpr c11; rw [if_neg xF] at H; obtain rfl := Option.some.inj H; have p5 : 0 ≤ (x7_1 : Int) := xO; have q5 : x7_1 < (a0.size : Int) := xO; have hx5 := bt_at a0 x7_1; replace p5 := eq_true p5; replace q5 := eq_true q5; go_wp2_with (first | ((with_reducible refine gate_callee (f := 17) rfl ?_); refine xL (some 14) Tryd.func17 #[.int .i64 (wrap64 (bt a0 x7_1)), .int .i64 48, .int .i64 57] rfl ?_; (with_reducible refine (gamehallref1_In.calls (wrap64 (bt a0 x7_1)) 48 57 false _ A6.out).mono ?_); rintro e w' ⟨rfl, ⟨nd, rfl⟩⟩; refine ⟨_, rfl, ?_⟩; have p9 : 0 ≤ (x7_1 : Int) := xO; have q9 : x7_1 < (a0.size : Int) := xO; have hx9 := bt_at a0 x7_1; replace p9 := eq_true p9; replace q9 := eq_true q9) | (go_at_call 17; (with_reducible refine (gamehallref1_In.calls (wrap64 (bt a0 x7_1)) 65 90 false _ A10.out).mono ?_); rintro e w' ⟨rfl, ⟨nd, rfl⟩⟩)); go_ret; exact ⟨xrf, by repeat (first | exact Drawn0.refl _ | apply Drawn0.step)⟩
   ·rw [if_neg c2] at H; have c2b0 := decide_eq_false c2; clear c2; replace H := Option.bind_eq_some_iff.mp H; obtain ⟨t255, A120, H⟩ := H; replace H : (some t255) = some r := H; have A12 := xm A120; clear A120; obtain rfl := Option.some.inj H; go_wp2_with (first | ((with_reducible refine gate_callee (f := 17) rfl ?_); refine xL (some 35) Tryd.func17 #[.int .i64 (a0.size : Int), .int .i64 1, .int .i64 8] rfl ?_; (with_reducible refine (gamehallref1_In.calls (a0.size : Int) 1 8 t255 _ A12.out).mono ?_); rintro e w' ⟨rfl, ⟨nd, rfl⟩⟩; refine ⟨_, rfl, ?_⟩)); go_ret; exact ⟨xrf, by repeat (first | exact Drawn0.refl _ | apply Drawn0.step)⟩

/-! ### gamehallref1_pieceError: function 18 -/
mutual
def gamehallref1_pieceError.l0 : Nat → List (S38) → Int → Int → Int → Int → Int → List (S47) → Option (Int)
  | 0, _, _, _, _, _, _, _ => none
  | k + 1, x0, x18, x19, z260a, z260b, z260c, z260d => if x19 < x18 then (if 0 ≤ x19 then (if x19 < (x0.length : Int) then (if ((rd_T38 x0 x19).f0) = z260a then (some 7) else (gamehallref1_pieceError.l0 k x0 x18 (wrap64 (x19 + 1)) z260a z260b z260c z260d)) else (none)) else (none)) else ((gamehallref1_In.f z260b 0 64).bind fun t262 => (if t262 = true then ((gamehallref1_In.f z260c 0 (x0.length : Int)).bind fun t263 => (gamehallref1_pieceError.j1 k (!t263) z260a z260b z260c z260d)) else (gamehallref1_pieceError.j1 k true z260a z260b z260c z260d)))
def gamehallref1_pieceError.j1 : Nat → Bool → Int → Int → Int → List (S47) → Option (Int)
  | 0, _, _, _, _, _ => none
  | k + 1, x42, z260a, z260b, z260c, z260d => if x42 = true then (some 4) else (if (z260d.length : Int) > 16 then (some 2) else (gamehallref1_pieceError.l1 k z260d (z260d.length : Int) 0))
def gamehallref1_pieceError.l1 : Nat → List (S47) → Int → Int → Option (Int)
  | 0, _, _, _ => none
  | k + 1, x48, x49, x50 => if x50 < x49 then (if 0 ≤ x50 then (if x50 < (x48.length : Int) then ((gamehallref1_In.f ((rd_T47 x48 x50).f0) (-7) 7).bind fun t266 => (if t266 = true then ((gamehallref1_In.f ((rd_T47 x48 x50).f1) (-7) 7).bind fun t267 => (if t267 = true then (if ((rd_T47 x48 x50).f0) = 0 then (if ((rd_T47 x48 x50).f1) = 0 then (some 4) else ((gamehallref1_In.f ((rd_T47 x48 x50).f2) 1 7).bind fun t268 => (if t268 = true then ((gamehallref1_In.f ((rd_T47 x48 x50).f3) 0 2).bind fun t269 => (if t269 = true then (gamehallref1_pieceError.l1 k x48 x49 (wrap64 (x50 + 1))) else (some 4))) else (some 4)))) else ((gamehallref1_In.f ((rd_T47 x48 x50).f2) 1 7).bind fun t270 => (if t270 = true then ((gamehallref1_In.f ((rd_T47 x48 x50).f3) 0 2).bind fun t271 => (if t271 = true then (gamehallref1_pieceError.l1 k x48 x49 (wrap64 (x50 + 1))) else (some 4))) else (some 4)))) else (some 4))) else (some 4))) else (none)) else (none)) else (some 0)
end
def gamehallref1_pieceError.f (k : Nat) (l0 : List (S38)) (a1 : Int) : Option (Int) := if 0 ≤ a1 then (if a1 < (l0.length : Int) then ((gamehallref1_In.f (wrap64 ((rd_T38 l0 a1).f0)) 65 90).bind fun t260 => (if t260 = true then (gamehallref1_pieceError.l0 k l0 a1 0 ((rd_T38 l0 a1).f0) ((rd_T38 l0 a1).f1) ((rd_T38 l0 a1).f2) ((rd_T38 l0 a1).f3)) else (some 6))) else (none)) else (none)
theorem gamehallref1_pieceError.mono_l : ∀ k, L5 (LM (LM (LeO))) (gamehallref1_pieceError.l0 k) (gamehallref1_pieceError.l0 (k + 1)) ∧ L5 (LeO) (gamehallref1_pieceError.j1 k) (gamehallref1_pieceError.j1 (k + 1)) ∧ LM (LM (LM (LeO))) (gamehallref1_pieceError.l1 k) (gamehallref1_pieceError.l1 (k + 1))
  | 0 => by refine ⟨?_, ?_, ?_⟩ <;> (repeat (first | exact LeO.none _ | intro _))
  | k + 1 => by
    obtain ⟨ih0, ih1, ih2⟩ := gamehallref1_pieceError.mono_l k; refine ⟨?_, ?_, ?_⟩ <;> ((repeat (first | (with_reducible refine LeO.st ?_) | intro _)); constructor; (first | unfold gamehallref1_pieceError.l0 | unfold gamehallref1_pieceError.j1 | unfold gamehallref1_pieceError.l1); repeat' first | (with_reducible first | apply ih0 | apply ih1 | apply ih2 | exact LeO.refl _ | exact LeO.none _ | refine LeO.ite ?_ ?_ | refine LeO.bind ?_ (fun _ => ?_)) | apply ih0 | apply ih1 | apply ih2 | exact LeO.none _ | refine LeO.ite ?_ ?_ | refine LeO.bind ?_ (fun _ => ?_))
theorem gamehallref1_pieceError.mono : ∀ a0 a1 k, LeO (gamehallref1_pieceError.f k a0 a1) (gamehallref1_pieceError.f (k + 1) a0 a1) := by
  intros; rename_i k; obtain ⟨ih0, ih1, ih2⟩ := gamehallref1_pieceError.mono_l k
  unfold gamehallref1_pieceError.f
  repeat' first | (with_reducible first | apply ih0 | apply ih1 | apply ih2 | exact LeO.refl _ | exact LeO.none _ | refine LeO.ite ?_ ?_ | refine LeO.bind ?_ (fun _ => ?_)) | apply ih0 | apply ih1 | apply ih2 | exact LeO.none _ | refine LeO.ite ?_ ?_ | refine LeO.bind ?_ (fun _ => ?_)
theorem gamehallref1_pieceError.calls (k : Nat) (A0 : Option Addr) (c0 : Nat) (l0 : List (S38)) (a1 : Int) (r : Int) (w : World) (hr0 : Kd.C k38 w A0 l0.length l0) (hc0 : l0.length ≤ c0) (h : gamehallref1_pieceError.f k l0 a1 = some r) :
    Calls Tryd.prog 18 #[.slice A0 l0.length c0, .int .i64 a1] w fun e w' => e = .returned (.int .i64 r) ∧ Below w.heap.size w w' := by
 have hu38 := Tryd.underlying38; have hu47 := Tryd.underlying47; have HR0 := xm hr0; have HC0 := xm hc0; clear hr0 hc0; have HB := xm (Below.refl w.heap.size w); have hss_ := @isSome_setCell; have H : (if 0 ≤ a1 then (if a1 < (l0.length : Int) then ((gamehallref1_In.f (wrap64 ((rd_T38 l0 a1).f0)) 65 90).bind fun t260 => (if t260 = true then (gamehallref1_pieceError.l0 k l0 a1 0 ((rd_T38 l0 a1).f0) ((rd_T38 l0 a1).f1) ((rd_T38 l0 a1).f2) ((rd_T38 l0 a1).f3)) else (some 6))) else (none)) else (none)) = some r := h; clear h; obtain ⟨c3b0, H⟩ := xJ H; obtain ⟨c4b0, H⟩ := xJ H; obtain ⟨t260, A5, H⟩ := xH H; (try dsimp only at H)
 by_cases c6 : t260 = true
 ·subst c6; rw [if_pos rfl] at H; have H' := xm H; clear H; have p258 : 0 ≤ (a1 : Int) := xO; have q258 : a1 < (l0.length : Int) := xO; obtain ⟨ad258, A258_3, c258_3, e258, hx258_0, hx258_1, hx258_2, hx258_3, hl258_3, hi258_3⟩ := at_T38 HR0.out a1 p258 q258
  cases e258
  have HR258_3 := xm hi258_3; have HC258_3 := xm hl258_3; clear hi258_3 hl258_3; replace p258 := eq_true p258; replace q258 := eq_true q258; go_enter Tryd.func18, Tryd.ntmps18; go_wp2_with (first | ((with_reducible refine gate_dst (N := 5) rfl ?_); (try (refine gate_guard (by rfl) ?_; dsimp only)); refine xG (cs := #[.int .u8 0, .int .i64 0, .int .i64 0, .slice none 0 0]) (t := 38) ?_; intro gb259 hg w7 hbox hb; have BK259 := xm (hbox); have GW259 := xZ HB hg; have GE259 := xZ HB hg; replace HB := xS HB hb; clear hb hbox hg; have hcz8_0 := blkc4 BK259.out) | (go_at_call 17; (with_reducible refine (gamehallref1_In.calls (wrap64 ((rd_T38 l0 a1).f0)) 65 90 true _ A5.out).mono ?_); rintro e w' ⟨rfl, ⟨nd, rfl⟩⟩; (try exact xE)))
  go_loopg [19] k (fun kq vs19 w' => ∃ (x19_1 : Int), vs19 = .int .i64 x19_1 ∧ Aside0 (gamehallref1_pieceError.l0 kq l0 a1 x19_1 ((rd_T38 l0 a1).f0) ((rd_T38 l0 a1).f1) ((rd_T38 l0 a1).f2) ((rd_T38 l0 a1).f3) = some r) ∧ Aside0 (kq ≤ k) ∧ Aside0 (w'.heap[gb259]? = some (.cells #[.int .u8 ((rd_T38 l0 a1).f0), .int .i64 ((rd_T38 l0 a1).f1), .int .i64 ((rd_T38 l0 a1).f2), (.slice A258_3 ((rd_T38 l0 a1).f3).length c258_3)] 38 (0, 0))) ∧ Aside0 (Below w.heap.size w w'))
  case atStart => exact ⟨(0), (xrf), H', ⟨Nat.le_refl _⟩, ⟨xQ BK259⟩, ⟨xW HB⟩⟩
  case round =>
   clear H'; (try clear p2); (try clear q2); (try clear hx2); (try clear p6); (try clear hx258_0); (try clear hx258_1); (try clear hx258_2); (try clear hx258_3); (try clear p258); (try clear q258); obtain ⟨x19_1, rfl, HA, HK1, BK259, HB⟩ := hrel
   cases gk with
   | zero => exact absurd HA.out (by simp [gamehallref1_pieceError.l0])
   | succ k1 =>
    have H := HA.out; clear HA; simp only [gamehallref1_pieceError.l0] at H
    by_cases c9 : x19_1 < a1
    ·rw [if_pos c9] at H; have c9b0 := decide_eq_true c9; clear c9; obtain ⟨c10b0, H⟩ := xJ H; obtain ⟨c11b0, H⟩ := xJ H
     by_cases c12 : ((rd_T38 l0 x19_1).f0) = ((rd_T38 l0 a1).f0)
     ·rw [if_pos c12] at H; have c12b0 := beq_iff_eq.mpr c12; have c12b1 := bne_eq_false_iff_eq.mpr c12; clear c12; obtain rfl := Option.some.inj H; have p261 : 0 ≤ (x19_1 : Int) := xO; have q261 : x19_1 < (l0.length : Int) := xO; obtain ⟨ad261, A261_3, c261_3, e261, hx261_0, hx261_1, hx261_2, hx261_3, hl261_3, hi261_3⟩ := at_T38 HR0.out x19_1 p261 q261; obtain rfl : ad258 = ad261 := (by injection e261)
      (first | replace hx261_0 := xR HB hx261_0 | skip); (first | replace hx261_1 := xR HB hx261_1 | skip); (first | replace hx261_2 := xR HB hx261_2 | skip); (first | replace hx261_3 := xR HB hx261_3 | skip); have HR261_3 := xm hi261_3; have HC261_3 := xm hl261_3; clear hi261_3 hl261_3; replace p261 := eq_true p261; replace q261 := eq_true q261; have hcz13_0 := blkc4 BK259.out
      go_wp2
      repeat (go_quiet (fail); try go_wp2)
      go_ret; exact ⟨xer, xW HB⟩
     ·rw [if_neg c12] at H; have c12b0 := beq_eq_false_iff_ne.mpr c12; have c12b1 := bne_iff_ne.mpr c12; have H' := xm H; clear H; have p261 : 0 ≤ (x19_1 : Int) := xO; have q261 : x19_1 < (l0.length : Int) := xO; obtain ⟨ad261, A261_3, c261_3, e261, hx261_0, hx261_1, hx261_2, hx261_3, hl261_3, hi261_3⟩ := at_T38 HR0.out x19_1 p261 q261; obtain rfl : ad258 = ad261 := (by injection e261)
      (first | replace hx261_0 := xR HB hx261_0 | skip); (first | replace hx261_1 := xR HB hx261_1 | skip); (first | replace hx261_2 := xR HB hx261_2 | skip); (first | replace hx261_3 := xR HB hx261_3 | skip); have HR261_3 := xm hi261_3; have HC261_3 := xm hl261_3; clear hi261_3 hl261_3; replace p261 := eq_true p261; replace q261 := eq_true q261; have hcz14_0 := blkc4 BK259.out
      go_wp2
      repeat (go_quiet (fail); try go_wp2)
      go_roundg k1
      case measure => have := HK1.out; omega
      case rel => exact ⟨(wrap64 (x19_1 + 1)), (xrf), H', ⟨by have := HK1.out; omega⟩, ⟨xK BK259⟩, ⟨xW HB⟩⟩
    ·rw [if_neg c9] at H; have c9b0 := decide_eq_false c9; clear c9; have HC15 := xm H; clear H
     go_upto_region 10 with (fail)
     go_cut [42] (fun vs42 wc => ∃ (kq : Nat) (x42_14 : Bool), vs42 = .bool x42_14 ∧ Aside0 (gamehallref1_pieceError.j1 kq x42_14 ((rd_T38 l0 a1).f0) ((rd_T38 l0 a1).f1) ((rd_T38 l0 a1).f2) ((rd_T38 l0 a1).f3) = some r) ∧ Aside0 (kq ≤ k1) ∧ Aside0 (wc.heap[gb259]? = some (.cells #[.int .u8 ((rd_T38 l0 a1).f0), .int .i64 ((rd_T38 l0 a1).f1), .int .i64 ((rd_T38 l0 a1).f2), (.slice A258_3 ((rd_T38 l0 a1).f3).length c258_3)] 38 (0, 0))) ∧ Aside0 (Below w.heap.size w wc))
     case first =>
      have H := HC15.out; clear HC15; obtain ⟨t262, A16, H⟩ := xH H; (try dsimp only at H)
      by_cases c17 : t262 = true
      ·subst c17; rw [if_pos rfl] at H; obtain ⟨t263, A18, H⟩ := xH H; (try dsimp only at H); have H' := xm H; clear H; have hcz19_0 := blkc4 BK259.out; go_wp2_with (first | (go_at_call 17; (with_reducible refine (gamehallref1_In.calls ((rd_T38 l0 a1).f1) 0 64 true _ A16.out).mono ?_); rintro e w' ⟨rfl, ⟨nd, rfl⟩⟩; (try exact xE)) | (go_at_call 17; (with_reducible refine (gamehallref1_In.calls ((rd_T38 l0 a1).f2) 0 (l0.length : Int) t263 _ A18.out).mono ?_); rintro e w' ⟨rfl, ⟨nd, rfl⟩⟩; (try exact xE))); go_meet
       case rel => exact ⟨_, (!t263), (xrf), H', ⟨by have := HK1.out; first | omega | exact Nat.le_refl _⟩, ⟨xK BK259⟩, ⟨xW HB⟩⟩
      ·obtain rfl := Bool.eq_false_iff.mpr c17; rw [if_neg xF] at H; have H' := xm H; clear H; have hcz20_0 := blkc4 BK259.out; go_wp2_with (first | (go_at_call 17; (with_reducible refine (gamehallref1_In.calls ((rd_T38 l0 a1).f1) 0 64 false _ A16.out).mono ?_); rintro e w' ⟨rfl, ⟨nd, rfl⟩⟩; (try exact xE))); go_meet
       case rel => exact ⟨_, (true), (xrf), H', ⟨by have := HK1.out; first | omega | exact Nat.le_refl _⟩, ⟨xK BK259⟩, ⟨xW HB⟩⟩
     case rest =>
      clear HC15; (try clear p2); (try clear q2); (try clear hx2); (try clear p6); (try clear hx258_0); (try clear hx258_1); (try clear hx258_2); (try clear hx258_3); (try clear hx261_0); (try clear hx261_1); (try clear hx261_2); (try clear hx261_3); (try clear p258); (try clear p261); (try clear q258); (try clear q261); obtain ⟨kq, x42_14, rfl, HA, HJ14, BK259, HB⟩ := hcut
      cases kq with
      | zero => exact absurd HA.out (by simp [gamehallref1_pieceError.j1])
      | succ kj14 =>
       have H := HA.out; clear HA; simp only [gamehallref1_pieceError.j1] at H
       by_cases c21 : x42_14 = true
       ·subst c21; rw [if_pos rfl] at H; obtain rfl := Option.some.inj H
        go_wp2
        go_ret; exact ⟨xer, xW HB⟩
       ·obtain rfl := Bool.eq_false_iff.mpr c21; rw [if_neg xF] at H
        by_cases c22 : (((rd_T38 l0 a1).f3).length : Int) > 16
        ·rw [if_pos c22] at H; have c22b0 := decide_eq_true c22; have c22b1 : decide (16 < ((rd_T38 l0 a1).f3).length) = true := decide_eq_true (by omega); clear c22; obtain rfl := Option.some.inj H; have hcz23_0 := blkc4 BK259.out
         go_wp2
         go_ret; exact ⟨xer, xW HB⟩
        ·rw [if_neg c22] at H; have c22b0 := decide_eq_false c22; have c22b1 : decide (16 < ((rd_T38 l0 a1).f3).length) = false := decide_eq_false (by omega); clear c22; have H' := xm H; clear H; have hcz24_0 := blkc4 BK259.out
         go_wp2
         go_loopg [50] kj14 (fun kq vs50 w' => ∃ (x50_3 : Int), vs50 = .int .i64 x50_3 ∧ Aside0 (gamehallref1_pieceError.l1 kq ((rd_T38 l0 a1).f3) (((rd_T38 l0 a1).f3).length : Int) x50_3 = some r) ∧ Aside0 (kq ≤ kj14) ∧ Aside0 (w'.heap[gb259]? = some (.cells #[.int .u8 ((rd_T38 l0 a1).f0), .int .i64 ((rd_T38 l0 a1).f1), .int .i64 ((rd_T38 l0 a1).f2), (.slice A258_3 ((rd_T38 l0 a1).f3).length c258_3)] 38 (0, 0))) ∧ Aside0 (Below w.heap.size w w'))
         case atStart => exact ⟨(0), (xrf), H', ⟨Nat.le_refl _⟩, ⟨xK BK259⟩, ⟨xW HB⟩⟩
         case round =>
          clear H'; (try clear p2); (try clear q2); (try clear hx2); (try clear p6); (try clear hx258_0); (try clear hx258_1); (try clear hx258_2); (try clear hx258_3); (try clear hx261_0); (try clear hx261_1); (try clear hx261_2); (try clear hx261_3); (try clear p258); (try clear p261); (try clear q258); (try clear q261); obtain ⟨x50_3, rfl, HA, HK3, BK259, HB⟩ := hrel
          cases gk with
          | zero => exact absurd HA.out (by simp [gamehallref1_pieceError.l1])
          | succ k3 =>
           have H := HA.out; clear HA; simp only [gamehallref1_pieceError.l1] at H
           by_cases c25 : x50_3 < (((rd_T38 l0 a1).f3).length : Int)
           ·rw [if_pos c25] at H; have c25b0 := decide_eq_true c25; clear c25; obtain ⟨c26b0, H⟩ := xJ H; obtain ⟨c27b0, H⟩ := xJ H; obtain ⟨t266, A28, H⟩ := xH H; (try dsimp only at H)
            by_cases c29 : t266 = true
            ·subst c29; rw [if_pos rfl] at H; obtain ⟨t267, A30, H⟩ := xH H; (try dsimp only at H)
             by_cases c31 : t267 = true
             ·subst c31; rw [if_pos rfl] at H
              by_cases c32 : ((rd_T47 ((rd_T38 l0 a1).f3) x50_3).f0) = 0
              ·rw [if_pos c32] at H; have c32b0 := beq_iff_eq.mpr c32; have c32b1 := bne_eq_false_iff_eq.mpr c32; clear c32
               by_cases c33 : ((rd_T47 ((rd_T38 l0 a1).f3) x50_3).f1) = 0
               ·rw [if_pos c33] at H; have c33b0 := beq_iff_eq.mpr c33; have c33b1 := bne_eq_false_iff_eq.mpr c33; clear c33; obtain rfl := Option.some.inj H; have p264 : 0 ≤ (x50_3 : Int) := xO; have q264 : x50_3 < (((rd_T38 l0 a1).f3).length : Int) := xO; obtain ⟨ad264, e264, hx264_0, hx264_1, hx264_2, hx264_3⟩ := at_T47 HR258_3.out x50_3 p264 q264
                cases e264
                (first | replace hx264_0 := xR HB hx264_0 | skip); (first | replace hx264_1 := xR HB hx264_1 | skip); (first | replace hx264_2 := xR HB hx264_2 | skip); (first | replace hx264_3 := xR HB hx264_3 | skip); replace p264 := eq_true p264; replace q264 := eq_true q264
                go_wp2_with (first | ((with_reducible refine gate_dst (N := 8) rfl ?_); (try (refine gate_guard (by rfl) ?_; dsimp only)); refine xG (cs := #[.int .i64 0, .int .i64 0, .int .i64 0, .int .i64 0]) (t := 47) ?_; intro gb265 hg w34 hbox hb; have BK265 := xm (hbox); have GW265 := xZ HB hg; have GE265 := xZ HB hg; have NB259_265 := xN BK259 hg; have NB265_259 := xM BK259 hg; replace BK259 := xB BK259 hb; replace HB := xS HB hb; clear hb hbox hg; have hnb35 := NB265_259.out; have hnc35 := NB259_265.out; have hcz36_0 := blkc4 BK265.out) | (go_at_call 17; (with_reducible refine (gamehallref1_In.calls ((rd_T47 ((rd_T38 l0 a1).f3) x50_3).f0) (-7) 7 true _ A28.out).mono ?_); rintro e w' ⟨rfl, ⟨nd, rfl⟩⟩; (try exact xE)) | (go_at_call 17; (with_reducible refine (gamehallref1_In.calls ((rd_T47 ((rd_T38 l0 a1).f3) x50_3).f1) (-7) 7 true _ A30.out).mono ?_); rintro e w' ⟨rfl, ⟨nd, rfl⟩⟩; (try exact xE))); go_ret; exact ⟨xer, xW HB⟩
               ·rw [if_neg c33] at H; have c33b0 := beq_eq_false_iff_ne.mpr c33; have c33b1 := bne_iff_ne.mpr c33; obtain ⟨t268, A37, H⟩ := xH H; (try dsimp only at H)
                by_cases c38 : t268 = true
                ·subst c38; rw [if_pos rfl] at H; obtain ⟨t269, A39, H⟩ := xH H; (try dsimp only at H)
                 by_cases c40 : t269 = true
                 ·subst c40; rw [if_pos rfl] at H; have H' := xm H; clear H; have p264 : 0 ≤ (x50_3 : Int) := xO; have q264 : x50_3 < (((rd_T38 l0 a1).f3).length : Int) := xO; obtain ⟨ad264, e264, hx264_0, hx264_1, hx264_2, hx264_3⟩ := at_T47 HR258_3.out x50_3 p264 q264
                  cases e264
                  (first | replace hx264_0 := xR HB hx264_0 | skip); (first | replace hx264_1 := xR HB hx264_1 | skip); (first | replace hx264_2 := xR HB hx264_2 | skip); (first | replace hx264_3 := xR HB hx264_3 | skip); replace p264 := eq_true p264; replace q264 := eq_true q264
                  go_wp2_with (first | ((with_reducible refine gate_dst (N := 8) rfl ?_); (try (refine gate_guard (by rfl) ?_; dsimp only)); refine xG (cs := #[.int .i64 0, .int .i64 0, .int .i64 0, .int .i64 0]) (t := 47) ?_; intro gb265 hg w41 hbox hb; have BK265 := xm (hbox); have GW265 := xZ HB hg; have GE265 := xZ HB hg; have NB259_265 := xN BK259 hg; have NB265_259 := xM BK259 hg; replace BK259 := xB BK259 hb; replace HB := xS HB hb; clear hb hbox hg; have hnb42 := NB265_259.out; have hnc42 := NB259_265.out; have hcz43_0 := blkc4 BK265.out) | (go_at_call 17; (with_reducible refine (gamehallref1_In.calls ((rd_T47 ((rd_T38 l0 a1).f3) x50_3).f0) (-7) 7 true _ A28.out).mono ?_); rintro e w' ⟨rfl, ⟨nd, rfl⟩⟩; (try exact xE)) | (go_at_call 17; (with_reducible refine (gamehallref1_In.calls ((rd_T47 ((rd_T38 l0 a1).f3) x50_3).f1) (-7) 7 true _ A30.out).mono ?_); rintro e w' ⟨rfl, ⟨nd, rfl⟩⟩; (try exact xE)) | (go_at_call 17; (with_reducible refine (gamehallref1_In.calls ((rd_T47 ((rd_T38 l0 a1).f3) x50_3).f2) 1 7 true _ A37.out).mono ?_); rintro e w' ⟨rfl, ⟨nd, rfl⟩⟩; (try exact xE)) | (go_at_call 17; (with_reducible refine (gamehallref1_In.calls ((rd_T47 ((rd_T38 l0 a1).f3) x50_3).f3) 0 2 true _ A39.out).mono ?_); rintro e w' ⟨rfl, ⟨nd, rfl⟩⟩; (try exact xE))); go_roundg k3
                  case measure => have := HK1.out; have := HJ14.out; have := HK3.out; omega
                  case rel => exact ⟨(wrap64 (x50_3 + 1)), (xrf), H', ⟨by have := HK1.out; have := HJ14.out; have := HK3.out; omega⟩, ⟨xK BK259⟩, ⟨xW HB⟩⟩
                 ·obtain rfl := Bool.eq_false_iff.mpr c40; rw [if_neg xF] at H; obtain rfl := Option.some.inj H; have p264 : 0 ≤ (x50_3 : Int) := xO; have q264 : x50_3 < (((rd_T38 l0 a1).f3).length : Int) := xO; obtain ⟨ad264, e264, hx264_0, hx264_1, hx264_2, hx264_3⟩ := at_T47 HR258_3.out x50_3 p264 q264
                  cases e264
                  (first | replace hx264_0 := xR HB hx264_0 | skip); (first | replace hx264_1 := xR HB hx264_1 | skip); (first | replace hx264_2 := xR HB hx264_2 | skip); (first | replace hx264_3 := xR HB hx264_3 | skip); replace p264 := eq_true p264; replace q264 := eq_true q264
                  go_wp2_with (first | ((with_reducible refine gate_dst (N := 8) rfl ?_); (try (refine gate_guard (by rfl) ?_; dsimp only)); refine xG (cs := #[.int .i64 0, .int .i64 0, .int .i64 0, .int .i64 0]) (t := 47) ?_; intro gb265 hg w44 hbox hb; have BK265 := xm (hbox); have GW265 := xZ HB hg; have GE265 := xZ HB hg; have NB259_265 := xN BK259 hg; have NB265_259 := xM BK259 hg; replace BK259 := xB BK259 hb; replace HB := xS HB hb; clear hb hbox hg; have hnb45 := NB265_259.out; have hnc45 := NB259_265.out; have hcz46_0 := blkc4 BK265.out) | (go_at_call 17; (with_reducible refine (gamehallref1_In.calls ((rd_T47 ((rd_T38 l0 a1).f3) x50_3).f0) (-7) 7 true _ A28.out).mono ?_); rintro e w' ⟨rfl, ⟨nd, rfl⟩⟩; (try exact xE)) | (go_at_call 17; (with_reducible refine (gamehallref1_In.calls ((rd_T47 ((rd_T38 l0 a1).f3) x50_3).f1) (-7) 7 true _ A30.out).mono ?_); rintro e w' ⟨rfl, ⟨nd, rfl⟩⟩; (try exact xE)) | (go_at_call 17; (with_reducible refine (gamehallref1_In.calls ((rd_T47 ((rd_T38 l0 a1).f3) x50_3).f2) 1 7 true _ A37.out).mono ?_); rintro e w' ⟨rfl, ⟨nd, rfl⟩⟩; (try exact xE)) | (go_at_call 17; (with_reducible refine (gamehallref1_In.calls ((rd_T47 ((rd_T38 l0 a1).f3) x50_3).f3) 0 2 false _ A39.out).mono ?_); rintro e w' ⟨rfl, ⟨nd, rfl⟩⟩; (try exact xE))); go_ret; exact ⟨xer, xW HB⟩
                ·obtain rfl := Bool.eq_false_iff.mpr c38; rw [if_neg xF] at H; obtain rfl := Option.some.inj H; have p264 : 0 ≤ (x50_3 : Int) := xO; have q264 : x50_3 < (((rd_T38 l0 a1).f3).length : Int) := xO; obtain ⟨ad264, e264, hx264_0, hx264_1, hx264_2, hx264_3⟩ := at_T47 HR258_3.out x50_3 p264 q264
                 cases e264
                 (first | replace hx264_0 := xR HB hx264_0 | skip); (first | replace hx264_1 := xR HB hx264_1 | skip); (first | replace hx264_2 := xR HB hx264_2 | skip); (first | replace hx264_3 := xR HB hx264_3 | skip); replace p264 := eq_true p264; replace q264 := eq_true q264
                 go_wp2_with (first | ((with_reducible refine gate_dst (N := 8) rfl ?_); (try (refine gate_guard (by rfl) ?_; dsimp only)); refine xG (cs := #[.int .i64 0, .int .i64 0, .int .i64 0, .int .i64 0]) (t := 47) ?_; intro gb265 hg w47 hbox hb; have BK265 := xm (hbox); have GW265 := xZ HB hg; have GE265 := xZ HB hg; have NB259_265 := xN BK259 hg; have NB265_259 := xM BK259 hg; replace BK259 := xB BK259 hb; replace HB := xS HB hb; clear hb hbox hg; have hnb48 := NB265_259.out; have hnc48 := NB259_265.out; have hcz49_0 := blkc4 BK265.out) | (go_at_call 17; (with_reducible refine (gamehallref1_In.calls ((rd_T47 ((rd_T38 l0 a1).f3) x50_3).f0) (-7) 7 true _ A28.out).mono ?_); rintro e w' ⟨rfl, ⟨nd, rfl⟩⟩; (try exact xE)) | (go_at_call 17; (with_reducible refine (gamehallref1_In.calls ((rd_T47 ((rd_T38 l0 a1).f3) x50_3).f1) (-7) 7 true _ A30.out).mono ?_); rintro e w' ⟨rfl, ⟨nd, rfl⟩⟩; (try exact xE)) | (go_at_call 17; (with_reducible refine (gamehallref1_In.calls ((rd_T47 ((rd_T38 l0 a1).f3) x50_3).f2) 1 7 false _ A37.out).mono ?_); rintro e w' ⟨rfl, ⟨nd, rfl⟩⟩; (try exact xE))); go_ret; exact ⟨xer, xW HB⟩
              ·rw [if_neg c32] at H; have c32b0 := beq_eq_false_iff_ne.mpr c32; have c32b1 := bne_iff_ne.mpr c32; obtain ⟨t270, A50, H⟩ := xH H; (try dsimp only at H)
               by_cases c51 : t270 = true
               ·subst c51; rw [if_pos rfl] at H; obtain ⟨t271, A52, H⟩ := xH H; (try dsimp only at H)
                by_cases c53 : t271 = true
                ·subst c53; rw [if_pos rfl] at H; have H' := xm H; clear H; have p264 : 0 ≤ (x50_3 : Int) := xO; have q264 : x50_3 < (((rd_T38 l0 a1).f3).length : Int) := xO; obtain ⟨ad264, e264, hx264_0, hx264_1, hx264_2, hx264_3⟩ := at_T47 HR258_3.out x50_3 p264 q264
                 cases e264
                 (first | replace hx264_0 := xR HB hx264_0 | skip); (first | replace hx264_1 := xR HB hx264_1 | skip); (first | replace hx264_2 := xR HB hx264_2 | skip); (first | replace hx264_3 := xR HB hx264_3 | skip); replace p264 := eq_true p264; replace q264 := eq_true q264
                 go_wp2_with (first | ((with_reducible refine gate_dst (N := 8) rfl ?_); (try (refine gate_guard (by rfl) ?_; dsimp only)); refine xG (cs := #[.int .i64 0, .int .i64 0, .int .i64 0, .int .i64 0]) (t := 47) ?_; intro gb265 hg w54 hbox hb; have BK265 := xm (hbox); have GW265 := xZ HB hg; have GE265 := xZ HB hg; have NB259_265 := xN BK259 hg; have NB265_259 := xM BK259 hg; replace BK259 := xB BK259 hb; replace HB := xS HB hb; clear hb hbox hg; have hnb55 := NB265_259.out; have hnc55 := NB259_265.out; have hcz56_0 := blkc4 BK265.out) | (go_at_call 17; (with_reducible refine (gamehallref1_In.calls ((rd_T47 ((rd_T38 l0 a1).f3) x50_3).f0) (-7) 7 true _ A28.out).mono ?_); rintro e w' ⟨rfl, ⟨nd, rfl⟩⟩; (try exact xE)) | (go_at_call 17; (with_reducible refine (gamehallref1_In.calls ((rd_T47 ((rd_T38 l0 a1).f3) x50_3).f1) (-7) 7 true _ A30.out).mono ?_); rintro e w' ⟨rfl, ⟨nd, rfl⟩⟩; (try exact xE)) | (go_at_call 17; (with_reducible refine (gamehallref1_In.calls ((rd_T47 ((rd_T38 l0 a1).f3) x50_3).f2) 1 7 true _ A50.out).mono ?_); rintro e w' ⟨rfl, ⟨nd, rfl⟩⟩; (try exact xE)) | (go_at_call 17; (with_reducible refine (gamehallref1_In.calls ((rd_T47 ((rd_T38 l0 a1).f3) x50_3).f3) 0 2 true _ A52.out).mono ?_); rintro e w' ⟨rfl, ⟨nd, rfl⟩⟩; (try exact xE))); go_roundg k3
                 case measure => have := HK1.out; have := HJ14.out; have := HK3.out; omega
                 case rel => exact ⟨(wrap64 (x50_3 + 1)), (xrf), H', ⟨by have := HK1.out; have := HJ14.out; have := HK3.out; omega⟩, ⟨xK BK259⟩, ⟨xW HB⟩⟩
                ·obtain rfl := Bool.eq_false_iff.mpr c53; rw [if_neg xF] at H; obtain rfl := Option.some.inj H; have p264 : 0 ≤ (x50_3 : Int) := xO; have q264 : x50_3 < (((rd_T38 l0 a1).f3).length : Int) := xO; obtain ⟨ad264, e264, hx264_0, hx264_1, hx264_2, hx264_3⟩ := at_T47 HR258_3.out x50_3 p264 q264
                 cases e264
                 (first | replace hx264_0 := xR HB hx264_0 | skip); (first | replace hx264_1 := xR HB hx264_1 | skip); (first | replace hx264_2 := xR HB hx264_2 | skip); (first | replace hx264_3 := xR HB hx264_3 | skip); replace p264 := eq_true p264; replace q264 := eq_true q264
                 go_wp2_with (first | ((with_reducible refine gate_dst (N := 8) rfl ?_); (try (refine gate_guard (by rfl) ?_; dsimp only)); refine xG (cs := #[.int .i64 0, .int .i64 0, .int .i64 0, .int .i64 0]) (t := 47) ?_; intro gb265 hg w57 hbox hb; have BK265 := xm (hbox); have GW265 := xZ HB hg; have GE265 := xZ HB hg; have NB259_265 := xN BK259 hg; have NB265_259 := xM BK259 hg; replace BK259 := xB BK259 hb; replace HB := xS HB hb; clear hb hbox hg; have hnb58 := NB265_259.out; have hnc58 := NB259_265.out; have hcz59_0 := blkc4 BK265.out) | (go_at_call 17; (with_reducible refine (gamehallref1_In.calls ((rd_T47 ((rd_T38 l0 a1).f3) x50_3).f0) (-7) 7 true _ A28.out).mono ?_); rintro e w' ⟨rfl, ⟨nd, rfl⟩⟩; (try exact xE)) | (go_at_call 17; (with_reducible refine (gamehallref1_In.calls ((rd_T47 ((rd_T38 l0 a1).f3) x50_3).f1) (-7) 7 true _ A30.out).mono ?_); rintro e w' ⟨rfl, ⟨nd, rfl⟩⟩; (try exact xE)) | (go_at_call 17; (with_reducible refine (gamehallref1_In.calls ((rd_T47 ((rd_T38 l0 a1).f3) x50_3).f2) 1 7 true _ A50.out).mono ?_); rintro e w' ⟨rfl, ⟨nd, rfl⟩⟩; (try exact xE)) | (go_at_call 17; (with_reducible refine (gamehallref1_In.calls ((rd_T47 ((rd_T38 l0 a1).f3) x50_3).f3) 0 2 false _ A52.out).mono ?_); rintro e w' ⟨rfl, ⟨nd, rfl⟩⟩; (try exact xE))); go_ret; exact ⟨xer, xW HB⟩
               ·obtain rfl := Bool.eq_false_iff.mpr c51; rw [if_neg xF] at H; obtain rfl := Option.some.inj H; have p264 : 0 ≤ (x50_3 : Int) := xO; have q264 : x50_3 < (((rd_T38 l0 a1).f3).length : Int) := xO; obtain ⟨ad264, e264, hx264_0, hx264_1, hx264_2, hx264_3⟩ := at_T47 HR258_3.out x50_3 p264 q264
                cases e264
                (first | replace hx264_0 := xR HB hx264_0 | skip); (first | replace hx264_1 := xR HB hx264_1 | skip); (first | replace hx264_2 := xR HB hx264_2 | skip); (first | replace hx264_3 := xR HB hx264_3 | skip); replace p264 := eq_true p264; replace q264 := eq_true q264
                go_wp2_with (first | ((with_reducible refine gate_dst (N := 8) rfl ?_); (try (refine gate_guard (by rfl) ?_; dsimp only)); refine xG (cs := #[.int .i64 0, .int .i64 0, .int .i64 0, .int .i64 0]) (t := 47) ?_; intro gb265 hg w60 hbox hb; have BK265 := xm (hbox); have GW265 := xZ HB hg; have GE265 := xZ HB hg; have NB259_265 := xN BK259 hg; have NB265_259 := xM BK259 hg; replace BK259 := xB BK259 hb; replace HB := xS HB hb; clear hb hbox hg; have hnb61 := NB265_259.out; have hnc61 := NB259_265.out; have hcz62_0 := blkc4 BK265.out) | (go_at_call 17; (with_reducible refine (gamehallref1_In.calls ((rd_T47 ((rd_T38 l0 a1).f3) x50_3).f0) (-7) 7 true _ A28.out).mono ?_); rintro e w' ⟨rfl, ⟨nd, rfl⟩⟩; (try exact xE)) | (go_at_call 17; (with_reducible refine (gamehallref1_In.calls ((rd_T47 ((rd_T38 l0 a1).f3) x50_3).f1) (-7) 7 true _ A30.out).mono ?_); rintro e w' ⟨rfl, ⟨nd, rfl⟩⟩; (try exact xE)) | (go_at_call 17; (with_reducible refine (gamehallref1_In.calls ((rd_T47 ((rd_T38 l0 a1).f3) x50_3).f2) 1 7 false _ A50.out).mono ?_); rintro e w' ⟨rfl, ⟨nd, rfl⟩⟩; (try exact xE))); go_ret; exact ⟨xer, xW HB⟩
             ·obtain rfl := Bool.eq_false_iff.mpr c31; rw [if_neg xF] at H; obtain rfl := Option.some.inj H; have p264 : 0 ≤ (x50_3 : Int) := xO; have q264 : x50_3 < (((rd_T38 l0 a1).f3).length : Int) := xO; obtain ⟨ad264, e264, hx264_0, hx264_1, hx264_2, hx264_3⟩ := at_T47 HR258_3.out x50_3 p264 q264
              cases e264
              (first | replace hx264_0 := xR HB hx264_0 | skip); (first | replace hx264_1 := xR HB hx264_1 | skip); (first | replace hx264_2 := xR HB hx264_2 | skip); (first | replace hx264_3 := xR HB hx264_3 | skip); replace p264 := eq_true p264; replace q264 := eq_true q264
              go_wp2_with (first | ((with_reducible refine gate_dst (N := 8) rfl ?_); (try (refine gate_guard (by rfl) ?_; dsimp only)); refine xG (cs := #[.int .i64 0, .int .i64 0, .int .i64 0, .int .i64 0]) (t := 47) ?_; intro gb265 hg w63 hbox hb; have BK265 := xm (hbox); have GW265 := xZ HB hg; have GE265 := xZ HB hg; have NB259_265 := xN BK259 hg; have NB265_259 := xM BK259 hg; replace BK259 := xB BK259 hb; replace HB := xS HB hb; clear hb hbox hg; have hnb64 := NB265_259.out; have hnc64 := NB259_265.out; have hcz65_0 := blkc4 BK265.out) | (go_at_call 17; (with_reducible refine (gamehallref1_In.calls ((rd_T47 ((rd_T38 l0 a1).f3) x50_3).f0) (-7) 7 true _ A28.out).mono ?_); rintro e w' ⟨rfl, ⟨nd, rfl⟩⟩; (try exact xE)) | (go_at_call 17; (with_reducible refine (gamehallref1_In.calls ((rd_T47 ((rd_T38 l0 a1).f3) x50_3).f1) (-7) 7 false _ A30.out).mono ?_); rintro e w' ⟨rfl, ⟨nd, rfl⟩⟩; (try exact xE))); go_ret; exact ⟨xer, xW HB⟩
            ·obtain rfl := Bool.eq_false_iff.mpr c29; rw [if_neg xF] at H; obtain rfl := Option.some.inj H; have p264 : 0 ≤ (x50_3 : Int) := xO; have q264 : x50_3 < (((rd_T38 l0 a1).f3).length : Int) := xO; obtain ⟨ad264, e264, hx264_0, hx264_1, hx264_2, hx264_3⟩ := at_T47 HR258_3.out x50_3 p264 q264
             cases e264
             (first | replace hx264_0 := xR HB hx264_0 | skip); (first | replace hx264_1 := xR HB hx264_1 | skip); (first | replace hx264_2 := xR HB hx264_2 | skip); (first | replace hx264_3 := xR HB hx264_3 | skip); replace p264 := eq_true p264; replace q264 := eq_true q264
             go_wp2_with (first | ((with_reducible refine gate_dst (N := 8) rfl ?_); (try (refine gate_guard (by rfl) ?_; dsimp only)); refine xG (cs := #[.int .i64 0, .int .i64 0, .int .i64 0, .int .i64 0]) (t := 47) ?_; intro gb265 hg w66 hbox hb; have BK265 := xm (hbox); have GW265 := xZ HB hg; have GE265 := xZ HB hg; have NB259_265 := xN BK259 hg; have NB265_259 := xM BK259 hg; replace BK259 := xB BK259 hb; replace HB := xS HB hb; clear hb hbox hg; have hnb67 := NB265_259.out; have hnc67 := NB259_265.out; have hcz68_0 := blkc4 BK265.out) | (go_at_call 17; (with_reducible refine (gamehallref1_In.calls ((rd_T47 ((rd_T38 l0 a1).f3) x50_3).f0) (-7) 7 false _ A28.out).mono ?_); rintro e w' ⟨rfl, ⟨nd, rfl⟩⟩; (try exact xE))); go_ret; exact ⟨xer, xW HB⟩
           ·rw [if_neg c25] at H; have c25b0 := decide_eq_false c25; clear c25; obtain rfl := Option.some.inj H
            go_wp2
            go_ret; exact ⟨xer, xW HB⟩
 ·obtain rfl := Bool.eq_false_iff.mpr c6; rw [if_neg xF] at H; obtain rfl := Option.some.inj H; have p258 : 0 ≤ (a1 : Int) := xO; have q258 : a1 < (l0.length : Int) := xO; obtain ⟨ad258, A258_3, c258_3, e258, hx258_0, hx258_1, hx258_2, hx258_3, hl258_3, hi258_3⟩ := at_T38 HR0.out a1 p258 q258
  cases e258
  have HR258_3 := xm hi258_3; have HC258_3 := xm hl258_3; clear hi258_3 hl258_3; replace p258 := eq_true p258; replace q258 := eq_true q258; go_enter Tryd.func18, Tryd.ntmps18; go_wp2_with (first | ((with_reducible refine gate_dst (N := 5) rfl ?_); (try (refine gate_guard (by rfl) ?_; dsimp only)); refine xG (cs := #[.int .u8 0, .int .i64 0, .int .i64 0, .slice none 0 0]) (t := 38) ?_; intro gb259 hg w69 hbox hb; have BK259 := xm (hbox); have GW259 := xZ HB hg; have GE259 := xZ HB hg; replace HB := xS HB hb; clear hb hbox hg; have hcz70_0 := blkc4 BK259.out) | (go_at_call 17; (with_reducible refine (gamehallref1_In.calls (wrap64 ((rd_T38 l0 a1).f0)) 65 90 false _ A5.out).mono ?_); rintro e w' ⟨rfl, ⟨nd, rfl⟩⟩; (try exact xE))); go_ret; exact ⟨xer, xW HB⟩

end Go.Proofs.YtkkgpabjpnkjjaaDoor.PRuletextPrints
