-- Printed by a program of this claim's writer (wip/ext): an extension of the kit's print.
import Derived.Test.YtloadbbndnmdlaaPEndsOfx0
import Derived.Test.YtloadbbndnmdlaaPEndsOfx10
import Derived.Test.YtloadbbndnmdlaaPEndsOfx11
namespace Go.Proofs.Ytloadbbndnmdlaa.PEndsOf
open Go.RowKit Go.Proofs.YtloadbbndnmdlaaW.PrintWords Go.Proofs.YtloadbbndnmdlaaW.PrintLast Go.Proofs.YtloadbbndnmdlaaW.PrintMore
set_option maxHeartbeats 8000000
set_option maxRecDepth 100000
attribute [local go_sem] max2_int min2_int max_two min_two max_three min_three max_four min_four   -- for this text's walks alone
set_option linter.unusedVariables false
set_option linter.unusedSimpArgs false

/-! ### gamehallref1_Moves: function 23 -/
mutual
def gamehallref1_Moves.l0 : Nat → List (S39) → Int → ByteArray → Int → Int → List (S62) → List Int → Bool → Bool → List (S64) → Int → Int → Int → List Int → List Int → List Int → Int → Int → Option ((List (S39)))
  | 0, _, _, _, _, _, _, _, _, _, _, _, _, _, _, _, _, _, _ => none
  | k + 1, x5, x6, z295a, z295b, z295c, z295d, z295e, z295f, z295g, z295h, z295i, z295j, z295k, z296a, z296b, z296c, z296d, z296e => if x6 < (z296a.length : Int) then (gamehallref1_Moves.l1 k x5 x6 (z296a.length : Int) 0 z295a z295b z295c z295d z295e z295f z295g z295h z295i z295j z295k z296a z296b z296c z296d z296e) else (some x5)
def gamehallref1_Moves.l1 : Nat → List (S39) → Int → Int → Int → ByteArray → Int → Int → List (S62) → List Int → Bool → Bool → List (S64) → Int → Int → Int → List Int → List Int → List Int → Int → Int → Option ((List (S39)))
  | 0, _, _, _, _, _, _, _, _, _, _, _, _, _, _, _, _, _, _, _, _ => none
  | k + 1, x5, x6, x19, x20, z295a, z295b, z295c, z295d, z295e, z295f, z295g, z295h, z295i, z295j, z295k, z296a, z296b, z296c, z296d, z296e => if x20 < x19 then (gamehallref1_Moves.l2 k x5 x6 x20 x19 x20 (z295d.length : Int) 0 z295a z295b z295c z295d z295e z295f z295g z295h z295i z295j z295k z296a z296b z296c z296d z296e) else (gamehallref1_Moves.l0 k x5 (wrap64 (x6 + 1)) z295a z295b z295c z295d z295e z295f z295g z295h z295i z295j z295k z296a z296b z296c z296d z296e)
def gamehallref1_Moves.l2 : Nat → List (S39) → Int → Int → Int → Int → Int → Int → ByteArray → Int → Int → List (S62) → List Int → Bool → Bool → List (S64) → Int → Int → Int → List Int → List Int → List Int → Int → Int → Option ((List (S39)))
  | 0, _, _, _, _, _, _, _, _, _, _, _, _, _, _, _, _, _, _, _, _, _, _, _ => none
  | k + 1, x5, x6, x7, x19, x20, x25, x26, z295a, z295b, z295c, z295d, z295e, z295f, z295g, z295h, z295i, z295j, z295k, z296a, z296b, z296c, z296d, z296e => if x26 < x25 then ((gamehallref1_Allowed.f k z295a z295b z295c z295d z295e z295f z295g z295h z295i z295j z295k z296a z296b z296c z296d z296e x6 x7 x26).bind fun t297 => (if t297 = true then (if x5.length < 5864062014805 then (gamehallref1_Moves.l2 k (x5 ++ [(⟨x6, x7, x26⟩ : S39)]) x6 x7 x19 x20 x25 (wrap64 (x26 + 1)) z295a z295b z295c z295d z295e z295f z295g z295h z295i z295j z295k z296a z296b z296c z296d z296e) else (none)) else (gamehallref1_Moves.l2 k x5 x6 x7 x19 x20 x25 (wrap64 (x26 + 1)) z295a z295b z295c z295d z295e z295f z295g z295h z295i z295j z295k z296a z296b z296c z296d z296e))) else (gamehallref1_Moves.l1 k x5 x6 x19 (wrap64 (x20 + 1)) z295a z295b z295c z295d z295e z295f z295g z295h z295i z295j z295k z296a z296b z296c z296d z296e)
end
def gamehallref1_Moves.f (k : Nat) (a0_0 : ByteArray) (a0_1 : Int) (a0_2 : Int) (l0_3 : List (S62)) (l0_4 : List Int) (a0_5 : Bool) (a0_6 : Bool) (l0_7 : List (S64)) (a0_8 : Int) (a0_9 : Int) (a0_10 : Int) (l1_0 : List Int) (l1_1 : List Int) (l1_2 : List Int) (a1_3 : Int) (a1_4 : Int) : Option ((List (S39))) := gamehallref1_Moves.l0 k ([] : List (S39)) (-1) a0_0 a0_1 a0_2 l0_3 l0_4 a0_5 a0_6 l0_7 a0_8 a0_9 a0_10 l1_0 l1_1 l1_2 a1_3 a1_4
theorem gamehallref1_Moves.mono_l : ∀ k, L10 (L5 (LM (LM (LM (LeO))))) (gamehallref1_Moves.l0 k) (gamehallref1_Moves.l0 (k + 1)) ∧ L10 (L10 (LeO)) (gamehallref1_Moves.l1 k) (gamehallref1_Moves.l1 (k + 1)) ∧ L10 (L10 (LM (LM (LM (LeO))))) (gamehallref1_Moves.l2 k) (gamehallref1_Moves.l2 (k + 1))
  | 0 => by refine ⟨?_, ?_, ?_⟩ <;> (repeat (first | exact LeO.none _ | intro _))
  | k + 1 => by
    obtain ⟨ih0, ih1, ih2⟩ := gamehallref1_Moves.mono_l k
    refine ⟨?_, ?_, ?_⟩ <;> ((repeat (first | (with_reducible refine LeO.st ?_) | intro _)); constructor; (first | unfold gamehallref1_Moves.l0 | unfold gamehallref1_Moves.l1 | unfold gamehallref1_Moves.l2); repeat' first | (with_reducible first | apply ih0 | apply ih1 | apply ih2 | apply gamehallref1_Allowed.mono | exact LeO.refl _ | exact LeO.none _ | refine LeO.ite ?_ ?_ | refine LeO.bind ?_ (fun _ => ?_)) | apply ih0 | apply ih1 | apply ih2 | apply gamehallref1_Allowed.mono | exact LeO.none _ | refine LeO.ite ?_ ?_ | refine LeO.bind ?_ (fun _ => ?_))
theorem gamehallref1_Moves.mono : ∀ a0 a1 a2 a3 a4 a5 a6 a7 a8 a9 a10 a11 a12 a13 a14 a15 k, LeO (gamehallref1_Moves.f k a0 a1 a2 a3 a4 a5 a6 a7 a8 a9 a10 a11 a12 a13 a14 a15) (gamehallref1_Moves.f (k + 1) a0 a1 a2 a3 a4 a5 a6 a7 a8 a9 a10 a11 a12 a13 a14 a15) := by
  intros; rename_i k
  obtain ⟨ih0, ih1, ih2⟩ := gamehallref1_Moves.mono_l k
  unfold gamehallref1_Moves.f
  repeat' first | (with_reducible first | apply ih0 | apply ih1 | apply ih2 | apply gamehallref1_Allowed.mono | exact LeO.refl _ | exact LeO.none _ | refine LeO.ite ?_ ?_ | refine LeO.bind ?_ (fun _ => ?_)) | apply ih0 | apply ih1 | apply ih2 | apply gamehallref1_Allowed.mono | exact LeO.none _ | refine LeO.ite ?_ ?_ | refine LeO.bind ?_ (fun _ => ?_)
theorem gamehallref1_Moves.calls (k : Nat) (a0_0 : ByteArray) (a0_1 : Int) (a0_2 : Int) (A0_3 : Option Addr) (c0_3 : Nat) (l0_3 : List (S62)) (A0_4 : Option Addr) (c0_4 : Nat) (l0_4 : List Int) (a0_5 : Bool) (a0_6 : Bool) (A0_7 : Option Addr) (c0_7 : Nat) (l0_7 : List (S64)) (a0_8 : Int) (a0_9 : Int) (a0_10 : Int) (A1_0 : Option Addr) (c1_0 : Nat) (l1_0 : List Int) (A1_1 : Option Addr) (c1_1 : Nat) (l1_1 : List Int) (A1_2 : Option Addr) (c1_2 : Nat) (l1_2 : List Int) (a1_3 : Int) (a1_4 : Int) (r : List (S39)) (w : World) (hr0_3 : Kd.C k62 w A0_3 l0_3.length l0_3) (hc0_3 : l0_3.length ≤ c0_3) (hr0_4 : Kd.C (Kd.int .i64) w A0_4 l0_4.length l0_4) (hc0_4 : l0_4.length ≤ c0_4) (hr0_7 : Kd.C k64 w A0_7 l0_7.length l0_7) (hc0_7 : l0_7.length ≤ c0_7) (hr1_0 : Kd.C (Kd.int .i64) w A1_0 l1_0.length l1_0) (hc1_0 : l1_0.length ≤ c1_0) (hr1_1 : Kd.C (Kd.int .i64) w A1_1 l1_1.length l1_1) (hc1_1 : l1_1.length ≤ c1_1) (hr1_2 : Kd.C (Kd.int .i64) w A1_2 l1_2.length l1_2) (hc1_2 : l1_2.length ≤ c1_2) (h : gamehallref1_Moves.f k a0_0 a0_1 a0_2 l0_3 l0_4 a0_5 a0_6 l0_7 a0_8 a0_9 a0_10 l1_0 l1_1 l1_2 a1_3 a1_4 = some r) :
    Calls Try.prog 23 #[.agg #[.string a0_0, .int .i64 a0_1, .int .i64 a0_2, .slice A0_3 l0_3.length c0_3, .slice A0_4 l0_4.length c0_4, .bool a0_5, .bool a0_6, .slice A0_7 l0_7.length c0_7, .int .i64 a0_8, .int .i64 a0_9, .int .i64 a0_10], .agg #[.slice A1_0 l1_0.length c1_0, .slice A1_1 l1_1.length c1_1, .slice A1_2 l1_2.length c1_2, .int .i64 a1_3, .int .i64 a1_4]] w fun e w' => ∃ v0_ : Value, e = .returned (v0_) ∧ Kd.R k39 39 w' w.heap.size (fun _ => True) v0_ r ∧ Below w.heap.size w w' := by
 have hu26 := Try.underlying26; have hu29 := Try.underlying29; have hu39 := Try.underlying39; have HR0_3 := xm hr0_3; have HC0_3 := xm hc0_3; clear hr0_3 hc0_3; have HR0_4 := xm hr0_4; have HC0_4 := xm hc0_4; clear hr0_4 hc0_4; have HR0_7 := xm hr0_7; have HC0_7 := xm hc0_7; clear hr0_7 hc0_7; have HR1_0 := xm hr1_0; have HC1_0 := xm hc1_0; clear hr1_0 hc1_0; have HR1_1 := xm hr1_1; have HC1_1 := xm hc1_1; clear hr1_1 hc1_1; have HR1_2 := xm hr1_2; have HC1_2 := xm hc1_2; clear hr1_2 hc1_2; have HB := xm (Below.refl w.heap.size w); have hss_ := @isSome_setCell
 have H : (gamehallref1_Moves.l0 k ([] : List (S39)) (-1) a0_0 a0_1 a0_2 l0_3 l0_4 a0_5 a0_6 l0_7 a0_8 a0_9 a0_10 l1_0 l1_1 l1_2 a1_3 a1_4) = some r := h
 clear h
 have H' := xm H
 clear H
 go_enter Try.func23, Try.ntmps23
 go_wp2_with (first | ((with_reducible refine gate_dst (N := 2) rfl ?_); refine xG (cs := #[.string a0_0, .int .i64 a0_1, .int .i64 a0_2, .slice A0_3 l0_3.length c0_3, .slice A0_4 l0_4.length c0_4, .bool a0_5, .bool a0_6, .slice A0_7 l0_7.length c0_7, .int .i64 a0_8, .int .i64 a0_9, .int .i64 a0_10]) (t := 26) ?_; intro gb294 hg w3 hbox hb; have BK294 := xm (hbox); have GW294 := xm (xZ HB hg); have GE294 := xm (xZ HB hg); replace HB := xm (xS HB hb); clear hb hbox hg) | ((with_reducible refine gate_dst (N := 3) rfl ?_); refine xG (cs := #[.slice A1_0 l1_0.length c1_0, .slice A1_1 l1_1.length c1_1, .slice A1_2 l1_2.length c1_2, .int .i64 a1_3, .int .i64 a1_4]) (t := 29) ?_; intro gb295 hg w4 hbox hb; have BK295 := xm (hbox); have GW295 := xm (xZ HB hg); have GE295 := xm (xZ HB hg); have NB294_295 := xm (xN BK294 hg); have NB295_294 := xm (xM BK294 hg); replace BK294 := xm (xB BK294 hb); replace HB := xm (xS HB hb); clear hb hbox hg))
 (try have hq295_294 := NB295_294.out); (try have hq294_295 := NB294_295.out)
 go_loopg [5, 6] k (fun kq vs5 vs6 w' => ∃ (x5_1 : List (S39)) (x6_1 : Int), vs6 = .int .i64 x6_1 ∧ Aside0 (gamehallref1_Moves.l0 kq x5_1 x6_1 a0_0 a0_1 a0_2 l0_3 l0_4 a0_5 a0_6 l0_7 a0_8 a0_9 a0_10 l1_0 l1_1 l1_2 a1_3 a1_4 = some r) ∧ Aside0 (kq ≤ k) ∧ Aside0 (Kd.R k39 39 w' w.heap.size (fun _ => True) vs5 x5_1) ∧ Aside0 (w'.heap[gb294]? = some (.cells #[.string a0_0, .int .i64 a0_1, .int .i64 a0_2, (.slice A0_3 l0_3.length c0_3), (.slice A0_4 l0_4.length c0_4), .bool a0_5, .bool a0_6, (.slice A0_7 l0_7.length c0_7), .int .i64 a0_8, .int .i64 a0_9, .int .i64 a0_10] 26 (0, 0))) ∧ Aside0 (w'.heap[gb295]? = some (.cells #[(.slice A1_0 l1_0.length c1_0), (.slice A1_1 l1_1.length c1_1), (.slice A1_2 l1_2.length c1_2), .int .i64 a1_3, .int .i64 a1_4] 29 (0, 0))) ∧ Aside0 (Below w.heap.size w w'))
 case atStart => exact ⟨(([] : List (S39))), ((-1)), (xrf), H', ⟨Nat.le_refl _⟩, ⟨by first | exact Kd.R_nil _ _ _ _ _ | exact Kd.N_nil _ _ _ _ _ | exact Kd.V_nil _ _ _ _ _ | exact Kd.Q_nil _ _ _ _ _ | exact Kd.S_nil _ _ _ _ _⟩, ⟨xK BK294⟩, ⟨xK BK295⟩, ⟨xW HB⟩⟩
 case round =>
  clear H'; (try clear p2)
  obtain ⟨x5_1, x6_1, rfl, HA, HK1, HO_5, BK294, BK295, HB⟩ := hrel
  cases gk with
  | zero => exact absurd HA.out (by simp [gamehallref1_Moves.l0])
  | succ k1 =>
   have H := HA.out; clear HA
   simp only [gamehallref1_Moves.l0] at H
   by_cases c5 : x6_1 < (l1_0.length : Int)
   ·rw [if_pos c5] at H
    have c5b0 := decide_eq_true c5
    clear c5
    have H' := xm H
    clear H; have hcz7_0 := blkc5 BK295.out
    go_wp2
    go_loopg [5, 20] k1 (fun kq vs5 vs20 w' => ∃ (x5_2 : List (S39)) (x20_2 : Int), vs20 = .int .i64 x20_2 ∧ Aside0 (gamehallref1_Moves.l1 kq x5_2 x6_1 (l1_0.length : Int) x20_2 a0_0 a0_1 a0_2 l0_3 l0_4 a0_5 a0_6 l0_7 a0_8 a0_9 a0_10 l1_0 l1_1 l1_2 a1_3 a1_4 = some r) ∧ Aside0 (kq ≤ k1) ∧ Aside0 (Kd.R k39 39 w' w.heap.size (fun _ => True) vs5 x5_2) ∧ Aside0 (w'.heap[gb294]? = some (.cells #[.string a0_0, .int .i64 a0_1, .int .i64 a0_2, (.slice A0_3 l0_3.length c0_3), (.slice A0_4 l0_4.length c0_4), .bool a0_5, .bool a0_6, (.slice A0_7 l0_7.length c0_7), .int .i64 a0_8, .int .i64 a0_9, .int .i64 a0_10] 26 (0, 0))) ∧ Aside0 (w'.heap[gb295]? = some (.cells #[(.slice A1_0 l1_0.length c1_0), (.slice A1_1 l1_1.length c1_1), (.slice A1_2 l1_2.length c1_2), .int .i64 a1_3, .int .i64 a1_4] 29 (0, 0))) ∧ Aside0 (Below w.heap.size w w'))
    case atStart => exact ⟨(x5_1), (0), (xrf), H', ⟨Nat.le_refl _⟩, ⟨by (with_reducible repeat (first | apply Kd.R_alloc | apply Kd.R_drewN | apply Kd.R_drew)); exact HO_5.out⟩, ⟨xK BK294⟩, ⟨xK BK295⟩, ⟨xW HB⟩⟩
    case round =>
     clear H'; (try clear p2); (try clear p2)
     obtain ⟨x5_2, x20_2, rfl, HA, HK2, HO_5, BK294, BK295, HB⟩ := hrel
     cases gk with
     | zero => exact absurd HA.out (by simp [gamehallref1_Moves.l1])
     | succ k2 =>
      have H := HA.out; clear HA
      simp only [gamehallref1_Moves.l1] at H
      by_cases c8 : x20_2 < (l1_0.length : Int)
      ·rw [if_pos c8] at H
       have c8b0 := decide_eq_true c8
       clear c8
       have H' := xm H
       clear H; have hcz10_0 := blkc11 BK294.out
       go_wp2
       go_loopg [5, 26] k2 (fun kq vs5 vs26 w' => ∃ (x5_3 : List (S39)) (x26_3 : Int), vs26 = .int .i64 x26_3 ∧ Aside0 (gamehallref1_Moves.l2 kq x5_3 x6_1 x20_2 (l1_0.length : Int) x20_2 (l0_3.length : Int) x26_3 a0_0 a0_1 a0_2 l0_3 l0_4 a0_5 a0_6 l0_7 a0_8 a0_9 a0_10 l1_0 l1_1 l1_2 a1_3 a1_4 = some r) ∧ Aside0 (kq ≤ k2) ∧ Aside0 (Kd.R k39 39 w' w.heap.size (fun _ => True) vs5 x5_3) ∧ Aside0 (w'.heap[gb294]? = some (.cells #[.string a0_0, .int .i64 a0_1, .int .i64 a0_2, (.slice A0_3 l0_3.length c0_3), (.slice A0_4 l0_4.length c0_4), .bool a0_5, .bool a0_6, (.slice A0_7 l0_7.length c0_7), .int .i64 a0_8, .int .i64 a0_9, .int .i64 a0_10] 26 (0, 0))) ∧ Aside0 (w'.heap[gb295]? = some (.cells #[(.slice A1_0 l1_0.length c1_0), (.slice A1_1 l1_1.length c1_1), (.slice A1_2 l1_2.length c1_2), .int .i64 a1_3, .int .i64 a1_4] 29 (0, 0))) ∧ Aside0 (Below w.heap.size w w'))
       case atStart => exact ⟨(x5_2), (0), (xrf), H', ⟨Nat.le_refl _⟩, ⟨by (with_reducible repeat (first | apply Kd.R_alloc | apply Kd.R_drewN | apply Kd.R_drew)); exact HO_5.out⟩, ⟨xK BK294⟩, ⟨xK BK295⟩, ⟨xW HB⟩⟩
       case round =>
        clear H'; (try clear p2); (try clear p2)
        obtain ⟨x5_3, x26_3, rfl, HA, HK3, HO_5, BK294, BK295, HB⟩ := hrel
        cases gk with
        | zero => exact absurd HA.out (by simp [gamehallref1_Moves.l2])
        | succ k3 =>
         have H := HA.out; clear HA
         simp only [gamehallref1_Moves.l2] at H
         by_cases c11 : x26_3 < (l0_3.length : Int)
         ·rw [if_pos c11] at H
          have c11b0 := decide_eq_true c11
          clear c11; replace H := Option.bind_eq_some_iff.mp H
          obtain ⟨t297, A120, H⟩ := H
          try dsimp only at H
          have A12 := xm A120; clear A120
          by_cases c13 : t297 = true
          ·subst c13
           rw [if_pos rfl] at H
           by_cases c14 : x5_3.length < 5864062014805
           ·rw [if_pos c14] at H
            have LMc14 := xm c14; clear c14
            obtain ⟨y298, hy298⟩ : ∃ y_ : List (S39), y_ = (x5_3 ++ [(⟨x6_1, x20_2, x26_3⟩ : S39)]) := ⟨_, rfl⟩
            replace H : (gamehallref1_Moves.l2 k3 y298 x6_1 x20_2 (l1_0.length : Int) x20_2 (l0_3.length : Int) (wrap64 (x26_3 + 1)) a0_0 a0_1 a0_2 l0_3 l0_4 a0_5 a0_6 l0_7 a0_8 a0_9 a0_10 l1_0 l1_1 l1_2 a1_3 a1_4) = some r := by first | (rw [hy298]; with_reducible exact H) | (have H2_ := (Option.bind_some _ _).symm.trans H; rw [hy298]; with_reducible exact H2_) | (have H2_ := (Option.bind_some _ _).symm.trans H; with_reducible exact H2_) | with_reducible exact H | (rw [hy298]; exact H) | exact H
            have Ny298 := xm hy298; clear hy298
            have H' := xm H
            clear H
            go_wp2_with (first | ((with_reducible refine gate_dst (N := 9) rfl ?_); refine xG (cs := #[.int .i64 0, .int .i64 0, .int .i64 0]) (t := 39) ?_; intro gb296 hg w15 hbox hb; have BK296 := xm (hbox); have GW296 := xm (xZ HB hg); have GE296 := xm (xZ HB hg); have NB294_296 := xm (xN BK294 hg); have NB296_294 := xm (xM BK294 hg); have NB295_296 := xm (xN BK295 hg); have NB296_295 := xm (xM BK295 hg); replace HO_5 := xm (Kd.R_below (Kd.R_elderB (by (with_reducible repeat (first | apply Kd.R_alloc | apply Kd.R_drewN | apply Kd.R_drew)); exact HO_5.out) gb296 (Nat.le_of_eq hg.symm)) hb); replace BK294 := xm (xB BK294 hb); replace BK295 := xm (xB BK295 hb); replace HB := xm (xS HB hb); clear hb hbox hg; have hnb16 := NB296_294.out; have hnc16 := NB294_296.out; have hnb17 := NB296_295.out; have hnc17 := NB295_296.out; have hcz18_0 := blkc3 BK296.out; have hcz20_0 := blkc11 BK294.out; have hcz21_0 := blkc5 BK295.out) | ((with_reducible refine gate_callee (f := 17) rfl ?_); refine xL (some 36) Try.func17 #[.agg #[.string a0_0, .int .i64 a0_1, .int .i64 a0_2, .slice A0_3 l0_3.length c0_3, .slice A0_4 l0_4.length c0_4, .bool a0_5, .bool a0_6, .slice A0_7 l0_7.length c0_7, .int .i64 a0_8, .int .i64 a0_9, .int .i64 a0_10], .agg #[.slice A1_0 l1_0.length c1_0, .slice A1_1 l1_1.length c1_1, .slice A1_2 l1_2.length c1_2, .int .i64 a1_3, .int .i64 a1_4], .agg #[.int .i64 x6_1, .int .i64 x20_2, .int .i64 x26_3]] rfl ?_; (with_reducible refine (gamehallref1_Allowed.calls k3 a0_0 a0_1 a0_2 _ _ l0_3 _ _ l0_4 a0_5 a0_6 _ _ l0_7 a0_8 a0_9 a0_10 _ _ l1_0 _ _ l1_1 _ _ l1_2 a1_3 a1_4 x6_1 x20_2 x26_3 true _ ?side1 ?side2 ?side3 ?side4 ?side5 ?side6 ?side7 ?side8 ?side9 ?side10 ?side11 ?side12 A12.out).mono ?_); (case side1 => exact Kd.C_below HR0_3.out (xW HB)); (case side2 => exact HC0_3.out); (case side3 => exact Kd.C_below HR0_4.out (xW HB)); (case side4 => exact HC0_4.out); (case side5 => exact Kd.C_below HR0_7.out (xW HB)); (case side6 => exact HC0_7.out); (case side7 => exact Kd.C_below HR1_0.out (xW HB)); (case side8 => exact HC1_0.out); (case side9 => exact Kd.C_below HR1_1.out (xW HB)); (case side10 => exact HC1_1.out); (case side11 => exact Kd.C_below HR1_2.out (xW HB)); (case side12 => exact HC1_2.out); rintro e w22 ⟨rfl, hb⟩; refine ⟨_, rfl, ?_⟩; replace HO_5 := xm (Kd.R_below (by (with_reducible repeat (first | apply Kd.R_alloc | apply Kd.R_drewN | apply Kd.R_drew)); exact (Kd.R_mono (Kd.R_far (p := ⟨gb296, 2, none⟩) (Kd.R_far (p := ⟨gb296, 1, none⟩) (Kd.R_far (p := ⟨gb296, 0, none⟩) (Kd.R_mono HO_5.out (fun k_ hk => (⟨hk, hk.2⟩ : _ ∧ k_ ≠ gb296))) (fun _ hk => hk.2) (.int .i64 x6_1)) (fun _ hk => hk.2) (.int .i64 x20_2)) (fun _ hk => hk.2) (.int .i64 x26_3)) (fun _ h_ => h_.1))) hb); replace BK294 := xm (xB BK294 hb); replace BK295 := xm (xB BK295 hb); replace BK296 := xm (xP (l' := [.int .i64 x6_1, .int .i64 x20_2, .int .i64 x26_3]) BK296 hb); replace HB := xm (xS HB hb); (try clear hb); (try clear hb2); (try clear hk); (try clear hi); have hcz23_0 := blkc3 BK296.out) | ((with_reducible refine gate_builtin (b := .append) (xs := #[.tmp 37, .tmp 39]) rfl ?_); at_builtin; refine Kd.R_append k39 (w0 := w) w.heap.size rfl (.tmp 37) (.tmp 39) 50 39 (.agg #[(.int .i64 0), (.int .i64 0), (.int .i64 0)]) 24 rfl Try.underlying50 info39 rfl (by decide) (by omega) u5 x5_3 (⟨x6_1, x20_2, x26_3⟩ : S39) [.int .i64 x6_1, .int .i64 x20_2, .int .i64 x26_3] (fun k_ => k_ ≠ gb296) (fun _ => False) rfl rfl ?aP (fun _ hk => hk.elim) ?aF ?aO ?aB ?aS ?aL ?_; (case aP => exact k39_mkM _ _ _ (⟨x6_1, x20_2, x26_3⟩ : S39)); (case aB => exact (xW HB)); (case aF => exact (fun k_ hk => Kd.freshB (g := gb296) (o := .cells #[.int .i64 x6_1, .int .i64 x20_2, .int .i64 x26_3] 39 (0, 0)) (xK BK296) k_ hk)); (case aO => exact (by (with_reducible repeat (first | apply Kd.R_alloc | apply Kd.R_drewN | apply Kd.R_drew)); exact Kd.R_mono HO_5.out (fun _ hk => hk.2))); (case aS => exact (below_size (xW HB))); (case aL => have := LMc14.out; omega); intro v299 w24 ho hb hg hat; rw [← Ny298.out] at ho; have HO300 := xm (ho); replace BK294 := xm (blk_grown (g := gb294) (o := .cells #[.string a0_0, .int .i64 a0_1, .int .i64 a0_2, .slice A0_3 l0_3.length c0_3, .slice A0_4 l0_4.length c0_4, .bool a0_5, .bool a0_6, .slice A0_7 l0_7.length c0_7, .int .i64 a0_8, .int .i64 a0_9, .int .i64 a0_10] 26 (0, 0)) (xK BK294) hg (Kd.R_ne HO_5.out BK294.out (by decide))); replace BK295 := xm (blk_grown (g := gb295) (o := .cells #[.slice A1_0 l1_0.length c1_0, .slice A1_1 l1_1.length c1_1, .slice A1_2 l1_2.length c1_2, .int .i64 a1_3, .int .i64 a1_4] 29 (0, 0)) (xK BK295) hg (Kd.R_ne HO_5.out BK295.out (by decide))); replace BK296 := xm (blk_grown (g := gb296) (o := .cells #[.int .i64 x6_1, .int .i64 x20_2, .int .i64 x26_3] 39 (0, 0)) (xK BK296) hg (Kd.R_away HO_5.out (fun _ hk => hk.2))); replace HB := xm (hb); clear HO_5; clear ho hb hg hat))
            go_roundg k3
            case measure => have := HK1.out; have := HK2.out; have := HK3.out; omega
            case rel => exact ⟨(y298), (wrap64 (x26_3 + 1)), (xrf), H', ⟨by have := HK1.out; have := HK2.out; have := HK3.out; omega⟩, ⟨by (with_reducible repeat (first | apply Kd.R_alloc | apply Kd.R_drewN | apply Kd.R_drew)); exact Kd.R_mono HO300.out (fun _ hk => trivial)⟩, ⟨xK BK294⟩, ⟨xK BK295⟩, ⟨xW HB⟩⟩
           ·rw [if_neg c14] at H
            exact absurd H (by simp)
          ·replace c13 := Bool.eq_false_iff.mpr c13
           subst c13
           rw [if_neg xF] at H
           have H' := xm H
           clear H
           go_wp2_with (first | ((with_reducible refine gate_dst (N := 9) rfl ?_); refine xG (cs := #[.int .i64 0, .int .i64 0, .int .i64 0]) (t := 39) ?_; intro gb296 hg w25 hbox hb; have BK296 := xm (hbox); have GW296 := xm (xZ HB hg); have GE296 := xm (xZ HB hg); have NB294_296 := xm (xN BK294 hg); have NB296_294 := xm (xM BK294 hg); have NB295_296 := xm (xN BK295 hg); have NB296_295 := xm (xM BK295 hg); replace HO_5 := xm (Kd.R_below (Kd.R_elderB (by (with_reducible repeat (first | apply Kd.R_alloc | apply Kd.R_drewN | apply Kd.R_drew)); exact HO_5.out) gb296 (Nat.le_of_eq hg.symm)) hb); replace BK294 := xm (xB BK294 hb); replace BK295 := xm (xB BK295 hb); replace HB := xm (xS HB hb); clear hb hbox hg; have hnb26 := NB296_294.out; have hnc26 := NB294_296.out; have hnb27 := NB296_295.out; have hnc27 := NB295_296.out; have hcz28_0 := blkc3 BK296.out; have hcz30_0 := blkc11 BK294.out; have hcz31_0 := blkc5 BK295.out) | ((with_reducible refine gate_callee (f := 17) rfl ?_); refine xL (some 36) Try.func17 #[.agg #[.string a0_0, .int .i64 a0_1, .int .i64 a0_2, .slice A0_3 l0_3.length c0_3, .slice A0_4 l0_4.length c0_4, .bool a0_5, .bool a0_6, .slice A0_7 l0_7.length c0_7, .int .i64 a0_8, .int .i64 a0_9, .int .i64 a0_10], .agg #[.slice A1_0 l1_0.length c1_0, .slice A1_1 l1_1.length c1_1, .slice A1_2 l1_2.length c1_2, .int .i64 a1_3, .int .i64 a1_4], .agg #[.int .i64 x6_1, .int .i64 x20_2, .int .i64 x26_3]] rfl ?_; (with_reducible refine (gamehallref1_Allowed.calls k3 a0_0 a0_1 a0_2 _ _ l0_3 _ _ l0_4 a0_5 a0_6 _ _ l0_7 a0_8 a0_9 a0_10 _ _ l1_0 _ _ l1_1 _ _ l1_2 a1_3 a1_4 x6_1 x20_2 x26_3 false _ ?side1 ?side2 ?side3 ?side4 ?side5 ?side6 ?side7 ?side8 ?side9 ?side10 ?side11 ?side12 A12.out).mono ?_); (case side1 => exact Kd.C_below HR0_3.out (xW HB)); (case side2 => exact HC0_3.out); (case side3 => exact Kd.C_below HR0_4.out (xW HB)); (case side4 => exact HC0_4.out); (case side5 => exact Kd.C_below HR0_7.out (xW HB)); (case side6 => exact HC0_7.out); (case side7 => exact Kd.C_below HR1_0.out (xW HB)); (case side8 => exact HC1_0.out); (case side9 => exact Kd.C_below HR1_1.out (xW HB)); (case side10 => exact HC1_1.out); (case side11 => exact Kd.C_below HR1_2.out (xW HB)); (case side12 => exact HC1_2.out); rintro e w32 ⟨rfl, hb⟩; refine ⟨_, rfl, ?_⟩; replace HO_5 := xm (Kd.R_below (by (with_reducible repeat (first | apply Kd.R_alloc | apply Kd.R_drewN | apply Kd.R_drew)); exact (Kd.R_mono (Kd.R_far (p := ⟨gb296, 2, none⟩) (Kd.R_far (p := ⟨gb296, 1, none⟩) (Kd.R_far (p := ⟨gb296, 0, none⟩) (Kd.R_mono HO_5.out (fun k_ hk => (⟨hk, hk.2⟩ : _ ∧ k_ ≠ gb296))) (fun _ hk => hk.2) (.int .i64 x6_1)) (fun _ hk => hk.2) (.int .i64 x20_2)) (fun _ hk => hk.2) (.int .i64 x26_3)) (fun _ h_ => h_.1))) hb); replace BK294 := xm (xB BK294 hb); replace BK295 := xm (xB BK295 hb); replace BK296 := xm (xP (l' := [.int .i64 x6_1, .int .i64 x20_2, .int .i64 x26_3]) BK296 hb); replace HB := xm (xS HB hb); (try clear hb); (try clear hb2); (try clear hk); (try clear hi)))
           go_roundg k3
           case measure => have := HK1.out; have := HK2.out; have := HK3.out; omega
           case rel => exact ⟨(x5_3), (wrap64 (x26_3 + 1)), (xrf), H', ⟨by have := HK1.out; have := HK2.out; have := HK3.out; omega⟩, ⟨by (with_reducible repeat (first | apply Kd.R_alloc | apply Kd.R_drewN | apply Kd.R_drew)); exact Kd.R_mono HO_5.out (fun _ hk => trivial)⟩, ⟨xK BK294⟩, ⟨xK BK295⟩, ⟨xW HB⟩⟩
         ·rw [if_neg c11] at H
          have c11b0 := decide_eq_false c11
          clear c11
          have H' := xm H
          clear H
          go_wp2
          go_roundg k3
          case measure => have := HK1.out; have := HK2.out; have := HK3.out; omega
          case rel => exact ⟨(x5_3), (wrap64 (x20_2 + 1)), (xrf), H', ⟨by have := HK1.out; have := HK2.out; have := HK3.out; omega⟩, ⟨by (with_reducible repeat (first | apply Kd.R_alloc | apply Kd.R_drewN | apply Kd.R_drew)); exact HO_5.out⟩, ⟨xK BK294⟩, ⟨xK BK295⟩, ⟨xW HB⟩⟩
      ·rw [if_neg c8] at H
       have c8b0 := decide_eq_false c8
       clear c8
       have H' := xm H
       clear H
       go_wp2
       go_roundg k2
       case measure => have := HK1.out; have := HK2.out; omega
       case rel => exact ⟨(x5_2), (wrap64 (x6_1 + 1)), (xrf), H', ⟨by have := HK1.out; have := HK2.out; omega⟩, ⟨by (with_reducible repeat (first | apply Kd.R_alloc | apply Kd.R_drewN | apply Kd.R_drew)); exact HO_5.out⟩, ⟨xK BK294⟩, ⟨xK BK295⟩, ⟨xW HB⟩⟩
   ·rw [if_neg c5] at H
    have c5b0 := decide_eq_false c5
    clear c5
    obtain rfl := Option.some.inj H
    have hcz34_0 := blkc5 BK295.out
    go_wp2
    go_ret
    exact ⟨_, xer, by (with_reducible repeat (first | apply Kd.R_alloc | apply Kd.R_drewN | apply Kd.R_drew)); exact HO_5.out, xW HB⟩

/-! ### gamehallref1_lined: function 30 -/
mutual
def gamehallref1_lined.l0 : Nat → Int → Int → Int → Int → ByteArray → Int → Int → List (S62) → List Int → Bool → Bool → List (S64) → Int → Int → Int → List Int → List Int → List Int → Int → Int → Option (Bool)
  | 0, _, _, _, _, _, _, _, _, _, _, _, _, _, _, _, _, _, _, _, _ => none
  | k + 1, x2, x3, x16, x17, z302a, z302b, z302c, z302d, z302e, z302f, z302g, z302h, z302i, z302j, z302k, z303a, z303b, z303c, z303d, z303e => if x17 < x16 then (gamehallref1_lined.l1 k x2 x3 x17 x16 x17 z302b 0 z302a z302b z302c z302d z302e z302f z302g z302h z302i z302j z302k z303a z303b z303c z303d z303e) else (some false)
def gamehallref1_lined.l1 : Nat → Int → Int → Int → Int → Int → Int → Int → ByteArray → Int → Int → List (S62) → List Int → Bool → Bool → List (S64) → Int → Int → Int → List Int → List Int → List Int → Int → Int → Option (Bool)
  | 0, _, _, _, _, _, _, _, _, _, _, _, _, _, _, _, _, _, _, _, _, _, _, _ => none
  | k + 1, x2, x3, x9, x16, x17, x21, x22, z302a, z302b, z302c, z302d, z302e, z302f, z302g, z302h, z302i, z302j, z302k, z303a, z303b, z303c, z303d, z303e => if x22 < x21 then (gamehallref1_lined.l2 k x2 x3 x9 x22 x16 x17 x21 x22 0 z302a z302b z302c z302d z302e z302f z302g z302h z302i z302j z302k z303a z303b z303c z303d z303e) else (gamehallref1_lined.l0 k x2 x3 x16 (wrap64 (x17 + 1)) z302a z302b z302c z302d z302e z302f z302g z302h z302i z302j z302k z303a z303b z303c z303d z303e)
def gamehallref1_lined.l2 : Nat → Int → Int → Int → Int → Int → Int → Int → Int → Int → ByteArray → Int → Int → List (S62) → List Int → Bool → Bool → List (S64) → Int → Int → Int → List Int → List Int → List Int → Int → Int → Option (Bool)
  | 0, _, _, _, _, _, _, _, _, _, _, _, _, _, _, _, _, _, _, _, _, _, _, _, _, _ => none
  | k + 1, x2, x3, x9, x10, x16, x17, x21, x22, x25, z302a, z302b, z302c, z302d, z302e, z302f, z302g, z302h, z302i, z302j, z302k, z303a, z303b, z303c, z303d, z303e => if x25 < 4 then ((some (([(-1), 0, (-1), 1] : List Int) : List Int)).bind fun y303 => (if 0 ≤ x25 then (if x25 < (y303.length : Int) then ((some (([0, (-1), (-1), (-1)] : List Int) : List Int)).bind fun y307 => (if x25 < (y307.length : Int) then (gamehallref1_lined.l3 k x2 x3 x9 x10 (rd y303 x25) (rd y307 x25) 0 x16 x17 x21 x22 x25 z302a z302b z302c z302d z302e z302f z302g z302h z302i z302j z302k z303a z303b z303c z303d z303e) else (none))) else (none)) else (none))) else (gamehallref1_lined.l1 k x2 x3 x9 x16 x17 x21 (wrap64 (x22 + 1)) z302a z302b z302c z302d z302e z302f z302g z302h z302i z302j z302k z303a z303b z303c z303d z303e)
def gamehallref1_lined.l3 : Nat → Int → Int → Int → Int → Int → Int → Int → Int → Int → Int → Int → Int → ByteArray → Int → Int → List (S62) → List Int → Bool → Bool → List (S64) → Int → Int → Int → List Int → List Int → List Int → Int → Int → Option (Bool)
  | 0, _, _, _, _, _, _, _, _, _, _, _, _, _, _, _, _, _, _, _, _, _, _, _, _, _, _, _, _ => none
  | k + 1, x2, x3, x9, x10, x12, x13, x14, x16, x17, x21, x22, x25, z302a, z302b, z302c, z302d, z302e, z302f, z302g, z302h, z302i, z302j, z302k, z303a, z303b, z303c, z303d, z303e => (gamehallref1_At.f z302a z302b z302c z302d z302e z302f z302g z302h z302i z302j z302k z303a z303b z303c z303d z303e (wrap64 (x10 + (wrap64 (x14 * x12)))) (wrap64 (x9 + (wrap64 (x14 * x13))))).bind fun t311 => ((gamehallref1_Mine.f t311 x2).bind fun t312 => (if t312 = true then (gamehallref1_lined.l3 k x2 x3 x9 x10 x12 x13 (wrap64 (x14 + 1)) x16 x17 x21 x22 x25 z302a z302b z302c z302d z302e z302f z302g z302h z302i z302j z302k z303a z303b z303c z303d z303e) else (if x14 ≥ x3 then (some true) else (gamehallref1_lined.l2 k x2 x3 x9 x10 x16 x17 x21 x22 (wrap64 (x25 + 1)) z302a z302b z302c z302d z302e z302f z302g z302h z302i z302j z302k z303a z303b z303c z303d z303e))))
end
def gamehallref1_lined.f (k : Nat) (a0_0 : ByteArray) (a0_1 : Int) (a0_2 : Int) (l0_3 : List (S62)) (l0_4 : List Int) (a0_5 : Bool) (a0_6 : Bool) (l0_7 : List (S64)) (a0_8 : Int) (a0_9 : Int) (a0_10 : Int) (l1_0 : List Int) (l1_1 : List Int) (l1_2 : List Int) (a1_3 : Int) (a1_4 : Int) (a2 : Int) (a3 : Int) : Option (Bool) := gamehallref1_lined.l0 k a2 a3 a0_2 0 a0_0 a0_1 a0_2 l0_3 l0_4 a0_5 a0_6 l0_7 a0_8 a0_9 a0_10 l1_0 l1_1 l1_2 a1_3 a1_4
theorem gamehallref1_lined.mono_l : ∀ k, L10 (L10 (LeO)) (gamehallref1_lined.l0 k) (gamehallref1_lined.l0 (k + 1)) ∧ L10 (L10 (LM (LM (LM (LeO))))) (gamehallref1_lined.l1 k) (gamehallref1_lined.l1 (k + 1)) ∧ L10 (L10 (L5 (LeO))) (gamehallref1_lined.l2 k) (gamehallref1_lined.l2 (k + 1)) ∧ L10 (L10 (L5 (LM (LM (LM (LeO)))))) (gamehallref1_lined.l3 k) (gamehallref1_lined.l3 (k + 1))
  | 0 => by refine ⟨?_, ?_, ?_, ?_⟩ <;> (repeat (first | exact LeO.none _ | intro _))
  | k + 1 => by
    obtain ⟨ih0, ih1, ih2, ih3⟩ := gamehallref1_lined.mono_l k
    refine ⟨?_, ?_, ?_, ?_⟩ <;> ((repeat (first | (with_reducible refine LeO.st ?_) | intro _)); constructor; (first | unfold gamehallref1_lined.l0 | unfold gamehallref1_lined.l1 | unfold gamehallref1_lined.l2 | unfold gamehallref1_lined.l3); repeat' first | (with_reducible first | apply ih0 | apply ih1 | apply ih2 | apply ih3 | exact LeO.refl _ | exact LeO.none _ | refine LeO.ite ?_ ?_ | refine LeO.bind ?_ (fun _ => ?_)) | apply ih0 | apply ih1 | apply ih2 | apply ih3 | exact LeO.none _ | refine LeO.ite ?_ ?_ | refine LeO.bind ?_ (fun _ => ?_))
theorem gamehallref1_lined.mono : ∀ a0 a1 a2 a3 a4 a5 a6 a7 a8 a9 a10 a11 a12 a13 a14 a15 a16 a17 k, LeO (gamehallref1_lined.f k a0 a1 a2 a3 a4 a5 a6 a7 a8 a9 a10 a11 a12 a13 a14 a15 a16 a17) (gamehallref1_lined.f (k + 1) a0 a1 a2 a3 a4 a5 a6 a7 a8 a9 a10 a11 a12 a13 a14 a15 a16 a17) := by
  intros; rename_i k
  obtain ⟨ih0, ih1, ih2, ih3⟩ := gamehallref1_lined.mono_l k
  unfold gamehallref1_lined.f
  repeat' first | (with_reducible first | apply ih0 | apply ih1 | apply ih2 | apply ih3 | exact LeO.refl _ | exact LeO.none _ | refine LeO.ite ?_ ?_ | refine LeO.bind ?_ (fun _ => ?_)) | apply ih0 | apply ih1 | apply ih2 | apply ih3 | exact LeO.none _ | refine LeO.ite ?_ ?_ | refine LeO.bind ?_ (fun _ => ?_)
def gamehallref1_lined.T10 : Bool × List (List Nat × List Nat) := (true, [([], []), ([], []), ([0, 1], [0, 1]), ([2], [2]), ([], []), ([], []), ([4, 5], [4, 5]), ([6], [6]), ([3, 0, 1, 2, 3], [3]), ([7, 8, 0, 1, 2, 3, 4, 5, 6, 7, 8], [7])])
def gamehallref1_lined.B10 : List Nat := [0, 0, 3, 7, 0, 0, 48, 112, 15, 511]
theorem gamehallref1_lined.tab10 : rtab .any (opsOf Try.f30 10) = gamehallref1_lined.T10 := by kernel_rfl
theorem gamehallref1_lined.bits10 : waitsOk gamehallref1_lined.T10.2 gamehallref1_lined.B10 = true := by kernel_rfl
theorem gamehallref1_lined.calls (k : Nat) (a0_0 : ByteArray) (a0_1 : Int) (a0_2 : Int) (A0_3 : Option Addr) (c0_3 : Nat) (l0_3 : List (S62)) (A0_4 : Option Addr) (c0_4 : Nat) (l0_4 : List Int) (a0_5 : Bool) (a0_6 : Bool) (A0_7 : Option Addr) (c0_7 : Nat) (l0_7 : List (S64)) (a0_8 : Int) (a0_9 : Int) (a0_10 : Int) (A1_0 : Option Addr) (c1_0 : Nat) (l1_0 : List Int) (A1_1 : Option Addr) (c1_1 : Nat) (l1_1 : List Int) (A1_2 : Option Addr) (c1_2 : Nat) (l1_2 : List Int) (a1_3 : Int) (a1_4 : Int) (a2 : Int) (a3 : Int) (r : Bool) (w : World) (hr0_3 : Kd.C k62 w A0_3 l0_3.length l0_3) (hc0_3 : l0_3.length ≤ c0_3) (hr0_4 : Kd.C (Kd.int .i64) w A0_4 l0_4.length l0_4) (hc0_4 : l0_4.length ≤ c0_4) (hr0_7 : Kd.C k64 w A0_7 l0_7.length l0_7) (hc0_7 : l0_7.length ≤ c0_7) (hr1_0 : Kd.C (Kd.int .i64) w A1_0 l1_0.length l1_0) (hc1_0 : l1_0.length ≤ c1_0) (hr1_1 : Kd.C (Kd.int .i64) w A1_1 l1_1.length l1_1) (hc1_1 : l1_1.length ≤ c1_1) (hr1_2 : Kd.C (Kd.int .i64) w A1_2 l1_2.length l1_2) (hc1_2 : l1_2.length ≤ c1_2) (h : gamehallref1_lined.f k a0_0 a0_1 a0_2 l0_3 l0_4 a0_5 a0_6 l0_7 a0_8 a0_9 a0_10 l1_0 l1_1 l1_2 a1_3 a1_4 a2 a3 = some r) :
    Calls Try.prog 30 #[.agg #[.string a0_0, .int .i64 a0_1, .int .i64 a0_2, .slice A0_3 l0_3.length c0_3, .slice A0_4 l0_4.length c0_4, .bool a0_5, .bool a0_6, .slice A0_7 l0_7.length c0_7, .int .i64 a0_8, .int .i64 a0_9, .int .i64 a0_10], .agg #[.slice A1_0 l1_0.length c1_0, .slice A1_1 l1_1.length c1_1, .slice A1_2 l1_2.length c1_2, .int .i64 a1_3, .int .i64 a1_4], .int .i64 a2, .int .i64 a3] w fun e w' => e = .returned (.bool r) ∧ Below w.heap.size w w' := by
 have hu26 := Try.underlying26; have hu29 := Try.underlying29; have HR0_3 := xm hr0_3; have HC0_3 := xm hc0_3; clear hr0_3 hc0_3; have HR0_4 := xm hr0_4; have HC0_4 := xm hc0_4; clear hr0_4 hc0_4; have HR0_7 := xm hr0_7; have HC0_7 := xm hc0_7; clear hr0_7 hc0_7; have HR1_0 := xm hr1_0; have HC1_0 := xm hc1_0; clear hr1_0 hc1_0; have HR1_1 := xm hr1_1; have HC1_1 := xm hc1_1; clear hr1_1 hc1_1; have HR1_2 := xm hr1_2; have HC1_2 := xm hc1_2; clear hr1_2 hc1_2; have HB := xm (Below.refl w.heap.size w); have hss_ := @isSome_setCell
 have H : (gamehallref1_lined.l0 k a2 a3 a0_2 0 a0_0 a0_1 a0_2 l0_3 l0_4 a0_5 a0_6 l0_7 a0_8 a0_9 a0_10 l1_0 l1_1 l1_2 a1_3 a1_4) = some r := h
 clear h
 have H' := xm H
 clear H
 go_enter Try.func30, Try.ntmps30
 go_wp2_with (first | ((with_reducible refine gate_dst (N := 4) rfl ?_); refine xG (cs := #[.string a0_0, .int .i64 a0_1, .int .i64 a0_2, .slice A0_3 l0_3.length c0_3, .slice A0_4 l0_4.length c0_4, .bool a0_5, .bool a0_6, .slice A0_7 l0_7.length c0_7, .int .i64 a0_8, .int .i64 a0_9, .int .i64 a0_10]) (t := 26) ?_; intro gb301 hg w5 hbox hb; have BK301 := xm (hbox); have GW301 := xm (xZ HB hg); have GE301 := xm (xZ HB hg); replace HB := xm (xS HB hb); clear hb hbox hg) | ((with_reducible refine gate_dst (N := 5) rfl ?_); refine xG (cs := #[.slice A1_0 l1_0.length c1_0, .slice A1_1 l1_1.length c1_1, .slice A1_2 l1_2.length c1_2, .int .i64 a1_3, .int .i64 a1_4]) (t := 29) ?_; intro gb302 hg w6 hbox hb; have BK302 := xm (hbox); have GW302 := xm (xZ HB hg); have GE302 := xm (xZ HB hg); have NB301_302 := xm (xN BK301 hg); have NB302_301 := xm (xM BK301 hg); replace BK301 := xm (xB BK301 hb); replace HB := xm (xS HB hb); clear hb hbox hg; have hnb7 := NB301_302.out; have hnc7 := NB302_301.out; have hcz8_0 := blkc11 BK301.out))
 (try have hq301_302 := NB301_302.out); (try have hq302_301 := NB302_301.out)
 go_loopg [17] k (fun kq vs17 w' => ∃ (x17_1 : Int), vs17 = .int .i64 x17_1 ∧ Aside0 (gamehallref1_lined.l0 kq a2 a3 a0_2 x17_1 a0_0 a0_1 a0_2 l0_3 l0_4 a0_5 a0_6 l0_7 a0_8 a0_9 a0_10 l1_0 l1_1 l1_2 a1_3 a1_4 = some r) ∧ Aside0 (kq ≤ k) ∧ Aside0 (w'.heap[gb301]? = some (.cells #[.string a0_0, .int .i64 a0_1, .int .i64 a0_2, (.slice A0_3 l0_3.length c0_3), (.slice A0_4 l0_4.length c0_4), .bool a0_5, .bool a0_6, (.slice A0_7 l0_7.length c0_7), .int .i64 a0_8, .int .i64 a0_9, .int .i64 a0_10] 26 (0, 0))) ∧ Aside0 (w'.heap[gb302]? = some (.cells #[(.slice A1_0 l1_0.length c1_0), (.slice A1_1 l1_1.length c1_1), (.slice A1_2 l1_2.length c1_2), .int .i64 a1_3, .int .i64 a1_4] 29 (0, 0))) ∧ Aside0 (Below w.heap.size w w'))
 case atStart => exact ⟨(0), (xrf), H', ⟨Nat.le_refl _⟩, ⟨xK BK301⟩, ⟨xK BK302⟩, ⟨xW HB⟩⟩
 case round =>
  clear H'; (try clear p2)
  obtain ⟨x17_1, rfl, HA, HK1, BK301, BK302, HB⟩ := hrel
  cases gk with
  | zero => exact absurd HA.out (by simp [gamehallref1_lined.l0])
  | succ k1 =>
   have H := HA.out; clear HA
   simp only [gamehallref1_lined.l0] at H
   by_cases c9 : x17_1 < a0_2
   ·rw [if_pos c9] at H
    have c9b0 := decide_eq_true c9
    clear c9
    have H' := xm H
    clear H; have hcz11_0 := blkc11 BK301.out
    go_wp2
    go_loopg [22] k1 (fun kq vs22 w' => ∃ (x22_2 : Int), vs22 = .int .i64 x22_2 ∧ Aside0 (gamehallref1_lined.l1 kq a2 a3 x17_1 a0_2 x17_1 a0_1 x22_2 a0_0 a0_1 a0_2 l0_3 l0_4 a0_5 a0_6 l0_7 a0_8 a0_9 a0_10 l1_0 l1_1 l1_2 a1_3 a1_4 = some r) ∧ Aside0 (kq ≤ k1) ∧ Aside0 (w'.heap[gb301]? = some (.cells #[.string a0_0, .int .i64 a0_1, .int .i64 a0_2, (.slice A0_3 l0_3.length c0_3), (.slice A0_4 l0_4.length c0_4), .bool a0_5, .bool a0_6, (.slice A0_7 l0_7.length c0_7), .int .i64 a0_8, .int .i64 a0_9, .int .i64 a0_10] 26 (0, 0))) ∧ Aside0 (w'.heap[gb302]? = some (.cells #[(.slice A1_0 l1_0.length c1_0), (.slice A1_1 l1_1.length c1_1), (.slice A1_2 l1_2.length c1_2), .int .i64 a1_3, .int .i64 a1_4] 29 (0, 0))) ∧ Aside0 (Below w.heap.size w w'))
    case atStart => exact ⟨(0), (xrf), H', ⟨Nat.le_refl _⟩, ⟨xK BK301⟩, ⟨xK BK302⟩, ⟨xW HB⟩⟩
    case round =>
     clear H'; (try clear p2); (try clear p2)
     obtain ⟨x22_2, rfl, HA, HK2, BK301, BK302, HB⟩ := hrel
     cases gk with
     | zero => exact absurd HA.out (by simp [gamehallref1_lined.l1])
     | succ k2 =>
      have H := HA.out; clear HA
      simp only [gamehallref1_lined.l1] at H
      by_cases c12 : x22_2 < a0_1
      ·rw [if_pos c12] at H
       have c12b0 := decide_eq_true c12
       clear c12
       have H' := xm H
       clear H
       go_wp2
       go_loopg [25] k2 (fun kq vs25 w' => ∃ (x25_3 : Int), vs25 = .int .i64 x25_3 ∧ Aside0 (gamehallref1_lined.l2 kq a2 a3 x17_1 x22_2 a0_2 x17_1 a0_1 x22_2 x25_3 a0_0 a0_1 a0_2 l0_3 l0_4 a0_5 a0_6 l0_7 a0_8 a0_9 a0_10 l1_0 l1_1 l1_2 a1_3 a1_4 = some r) ∧ Aside0 (kq ≤ k2) ∧ Aside0 (w'.heap[gb301]? = some (.cells #[.string a0_0, .int .i64 a0_1, .int .i64 a0_2, (.slice A0_3 l0_3.length c0_3), (.slice A0_4 l0_4.length c0_4), .bool a0_5, .bool a0_6, (.slice A0_7 l0_7.length c0_7), .int .i64 a0_8, .int .i64 a0_9, .int .i64 a0_10] 26 (0, 0))) ∧ Aside0 (w'.heap[gb302]? = some (.cells #[(.slice A1_0 l1_0.length c1_0), (.slice A1_1 l1_1.length c1_1), (.slice A1_2 l1_2.length c1_2), .int .i64 a1_3, .int .i64 a1_4] 29 (0, 0))) ∧ Aside0 (Below w.heap.size w w'))
       case atStart => exact ⟨(0), (xrf), H', ⟨Nat.le_refl _⟩, ⟨xK BK301⟩, ⟨xK BK302⟩, ⟨xW HB⟩⟩
       case round =>
        clear H'; (try clear p2); (try clear p2)
        obtain ⟨x25_3, rfl, HA, HK3, BK301, BK302, HB⟩ := hrel
        cases gk with
        | zero => exact absurd HA.out (by simp [gamehallref1_lined.l2])
        | succ k3 =>
         have H := HA.out; clear HA
         simp only [gamehallref1_lined.l2] at H
         by_cases c13 : x25_3 < 4
         ·rw [if_pos c13] at H
          have c13b0 := decide_eq_true c13
          clear c13
          obtain ⟨y303, hy303⟩ : ∃ y_ : List Int, y_ = (([(-1), 0, (-1), 1] : List Int)) := ⟨_, rfl⟩
          replace H : (if 0 ≤ x25_3 then (if x25_3 < (y303.length : Int) then ((some (([0, (-1), (-1), (-1)] : List Int) : List Int)).bind fun y307 => (if x25_3 < (y307.length : Int) then (gamehallref1_lined.l3 k3 a2 a3 x17_1 x22_2 (rd y303 x25_3) (rd y307 x25_3) 0 a0_2 x17_1 a0_1 x22_2 x25_3 a0_0 a0_1 a0_2 l0_3 l0_4 a0_5 a0_6 l0_7 a0_8 a0_9 a0_10 l1_0 l1_1 l1_2 a1_3 a1_4) else (none))) else (none)) else (none)) = some r := by first | (rw [hy303]; with_reducible exact H) | (have H2_ := (Option.bind_some _ _).symm.trans H; rw [hy303]; with_reducible exact H2_) | (have H2_ := (Option.bind_some _ _).symm.trans H; with_reducible exact H2_) | with_reducible exact H | (rw [hy303]; exact H) | exact H
          have Ny303 := xm hy303; clear hy303
          by_cases c14 : 0 ≤ x25_3
          ·rw [if_pos c14] at H
           have c14b0 := decide_eq_true c14
           clear c14
           by_cases c15 : x25_3 < (y303.length : Int)
           ·rw [if_pos c15] at H
            have c15b0 := decide_eq_true c15
            clear c15
            obtain ⟨y307, hy307⟩ : ∃ y_ : List Int, y_ = (([0, (-1), (-1), (-1)] : List Int)) := ⟨_, rfl⟩
            replace H : (if x25_3 < (y307.length : Int) then (gamehallref1_lined.l3 k3 a2 a3 x17_1 x22_2 (rd y303 x25_3) (rd y307 x25_3) 0 a0_2 x17_1 a0_1 x22_2 x25_3 a0_0 a0_1 a0_2 l0_3 l0_4 a0_5 a0_6 l0_7 a0_8 a0_9 a0_10 l1_0 l1_1 l1_2 a1_3 a1_4) else (none)) = some r := by first | (rw [hy307]; with_reducible exact H) | (have H2_ := (Option.bind_some _ _).symm.trans H; rw [hy307]; with_reducible exact H2_) | (have H2_ := (Option.bind_some _ _).symm.trans H; with_reducible exact H2_) | with_reducible exact H | (rw [hy307]; exact H) | exact H
            have Ny307 := xm hy307; clear hy307
            by_cases c16 : x25_3 < (y307.length : Int)
            ·rw [if_pos c16] at H
             have c16b0 := decide_eq_true c16
             clear c16
             have H' := xm H
             clear H
             try go_wp2
             have pi306 : (0 ≤ (x25_3 : Int)) = True := eq_true (xO)
             have qi306 : (x25_3 < (y303.length : Int)) = True := eq_true (xO)
             have pi310 : (0 ≤ (x25_3 : Int)) = True := eq_true (xO)
             have qi310 : (x25_3 < (y307.length : Int)) = True := eq_true (xO)
             replace BK301 := xm (blk_drew BK301.out); replace BK302 := xm (blk_drew BK302.out); replace HB := xm (below_drew1 HB.out)
             refine start_ (n := 10) (S := fun w' => True) (ds := []) (mk 10 0) (by kernel_rfl) rfl rfl trivial (fun hHeld => ?_); refine with_tabW gamehallref1_lined.tab10 gamehallref1_lined.bits10 (fun HT_ HW_ => ?_)
             generalize wr.drew = w17 at BK301 BK302 HB hHeld ⊢; refine pu_ 1 29 HT_ ?_; refine pu_ 5 33 HT_ ?_
             refine inv_at [0, 2, 3, 4, 6, 7, 8, 9] (fun a0_ b a w' => ∃ (v304 : Value) (adz_v304 : Addr) (v308 : Value) (adz_v308 : Addr) (m2_ : Value) (m6_ : Value), a = putSel a0_ b [(0, 28, v304), (2, 30, m2_), (3, 31, .int .i64 (rd y303 x25_3)), (4, 32, v308), (6, 34, m6_), (7, 35, .int .i64 (rd y307 x25_3)), (8, 12, .int .i64 (rd y303 x25_3)), (9, 13, .int .i64 (rd y307 x25_3))] ∧ (w'.heap[gb301]? = some (.cells #[.string a0_0, .int .i64 a0_1, .int .i64 a0_2, .slice A0_3 l0_3.length c0_3, .slice A0_4 l0_4.length c0_4, .bool a0_5, .bool a0_6, .slice A0_7 l0_7.length c0_7, .int .i64 a0_8, .int .i64 a0_9, .int .i64 a0_10] 26 (0, 0))) ∧ (w'.heap[gb302]? = some (.cells #[.slice A1_0 l1_0.length c1_0, .slice A1_1 l1_1.length c1_1, .slice A1_2 l1_2.length c1_2, .int .i64 a1_3, .int .i64 a1_4] 29 (0, 0))) ∧ (Below w.heap.size w w') ∧ (b 0 = true → Kd.R (Kd.int .i64) 3 w' w.heap.size (fun _ => True) v304 y303) ∧ (b 0 = true → ∃ c_, (v304 : Value) = .slice (some adz_v304) y303.length c_) ∧ (b 4 = true → Kd.R (Kd.int .i64) 3 w' w.heap.size (fun _ => True) v308 y307) ∧ (b 4 = true → ∃ c_, (v308 : Value) = .slice (some adz_v308) y307.length c_) ∧ (b 2 = true → (m2_ : Value) = .pointer (some (adz_v304.add (x25_3).toNat))) ∧ (b 6 = true → (m6_ : Value) = .pointer (some (adz_v308.add (x25_3).toNat)))) HT_.out HW_.out (by kernel_rfl) (by kernel_rfl) ?_ ?_ ?_
             ·exact ⟨.bool false, ⟨0, 0, none⟩, .bool false, ⟨0, 0, none⟩, .bool false, .bool false, by simp only [putSel, Bool.false_eq_true, if_false], BK301.out, BK302.out, HB.out, fun h_ => absurd h_ (by decide), fun h_ => absurd h_ (by decide), fun h_ => absurd h_ (by decide), fun h_ => absurd h_ (by decide), fun h_ => absurd h_ (by decide), fun h_ => absurd h_ (by decide)⟩
             ·skip
              clear BK301 BK302 HB
              refine steps_cons ?_ ?_
              ·rintro b a w' ⟨v304, adz_v304, v308, adz_v308, m2_, m6_, ha, Q_BK301, Q_BK302, Q_HB, Q_HO305, Q_HA_HO305, Q_HO309, Q_HA_HO309, Q_X2_, Q_X6_⟩ hb_ hon hoff
               refine ⟨_, rfl, fun K hK => ?_⟩
               replace ha := Aside0.mk ha; have BK301 := xm Q_BK301; have BK302 := xm Q_BK302; have HB := xm Q_HB
               refine Kd.R_lit_step (Kd.int .i64) _ 3 ?hg (N := 28) ?hd (xs := ([(-1), 0, (-1), 1] : List Int)) (inner := [.int .i64 (-1), .int .i64 0, .int .i64 (-1), .int .i64 1]) (ok := fun _ => True) (okp := fun _ => True) ?hr ?hp (fun _ hk => hk) trivial (Below.refl _ _) (Nat.le_refl _) (by simp) ?_; (case hd => rfl); (case hg => rfl); (case hr => first | (go_simp; done) | (go_simp; rfl)); (case hp => exact (Reps.one (show Kd.M (Kd.int .i64) _ _ _ (-1) [.int .i64 (-1)] from rfl) (Reps.one (show Kd.M (Kd.int .i64) _ _ _ 0 [.int .i64 0] from rfl) (Reps.one (show Kd.M (Kd.int .i64) _ _ _ (-1) [.int .i64 (-1)] from rfl) (Reps.one (show Kd.M (Kd.int .i64) _ _ _ 1 [.int .i64 1] from rfl) (Reps.none _ _))))))
               intro v304 w18 ho19 hb hg_ hnew_
               clear hg_ hnew_
               (first | rw [← Ny303.out] at ho19 | (simp only [Int.reduceToNat] at ho19; rw [← Ny303.out] at ho19))
               have n0_ := Aside0.mk (Kd.R_lower ho19 (below_size (xW HB))); have n1_ := Aside0.mk (xB BK301 hb); have n2_ := Aside0.mk (xB BK302 hb); have n3_ := Aside0.mk (xS HB hb)
               have z_HO309 := fun (h0_ : b 4 = true) => (show Kd.R (Kd.int .i64) 3 w18 w.heap.size (fun _ => True) v308 y307 from by first | exact (Kd.R_elder' (by (with_reducible repeat (first | apply Kd.R_alloc | apply Kd.R_drewN | apply Kd.R_drew)); exact (Q_HO309 h0_)) (Kd.R_base ho19) hb) | exact Kd.R_mono (Kd.R_elder' (by (with_reducible repeat (first | apply Kd.R_alloc | apply Kd.R_drewN | apply Kd.R_drew)); exact (Q_HO309 h0_)) (Kd.R_base ho19) hb) (fun _ h_ => by first | trivial | exact h_ | exact h_.1))
               clear BK301; clear BK302; clear HB; have HO305 := n0_; have BK301 := n1_; have BK302 := n2_; have HB := n3_; clear n0_ n1_ n2_ n3_; clear hb ho19
               obtain ⟨Ao20, co20, eo20⟩ := Kd.R_slice HO305.out
               subst eo20
               obtain ⟨ado20, fo20, _⟩ := Kd.at_int (Kd.R_reads' HO305.out).2.2 0 (by decide) (by rw [Ny303.out]; simp)
               cases fo20
               refine hK.out _ _ ⟨.slice (some ado20) y303.length co20, ado20, v308, adz_v308, m2_, m6_, (by rw [ha.out]; exact putSel_upk 0 hb_ rfl rfl rfl), (xK BK301), (xK BK302), (xW HB), fun _ => (by (with_reducible repeat (first | apply Kd.R_alloc | apply Kd.R_drewN | apply Kd.R_drew)); exact HO305.out), fun _ => ⟨_, rfl⟩, z_HO309, Q_HA_HO309, fun h0_ => absurd ((hoff 2 (by kernel_rfl)).symm.trans h0_) (by decide), Q_X6_⟩
              refine steps_cons ?_ ?_
              ·rintro b a w' ⟨v304, adz_v304, v308, adz_v308, m2_, m6_, ha, Q_BK301, Q_BK302, Q_HB, Q_HO305, Q_HA_HO305, Q_HO309, Q_HA_HO309, Q_X2_, Q_X6_⟩ hb_ hon hoff
               refine ⟨_, rfl, fun K hK => ?_⟩
               have e28 : a.tmps[28]? = some (v304) := by rw [ha]; exact putSel_on (e := (0, 28, v304)) 0 rfl rfl (hon 0 (by kernel_rfl)) rfl
               have e29 : a.tmps[29]? = some (.int .i64 x25_3) := by rw [ha]; exact (putSel_off rfl).trans rfl
               replace ha := Aside0.mk ha; have BK301 := xm Q_BK301; have BK302 := xm Q_BK302; have HB := xm Q_HB
               have HO305 := xm (Q_HO305 (hon 0 (by kernel_rfl)))
               have HA_HO305 := xm (Q_HA_HO305 (hon 0 (by kernel_rfl)))
               obtain ⟨c_, hv_⟩ := HA_HO305.out
               rw [hv_] at e28
               refine value_ (w1 := w') (v := .pointer (some (adz_v304.add (x25_3).toNat))) (by rfl) rfl ?_ ?_
               ·go_simp
                (try simp only [i64_w])
                try rfl
               refine hK.out _ _ ⟨v304, adz_v304, v308, adz_v308, (.pointer (some (adz_v304.add (x25_3).toNat))), m6_, (by rw [ha.out]; exact putSel_upk 1 hb_ rfl rfl rfl), Q_BK301, Q_BK302, Q_HB, Q_HO305, Q_HA_HO305, Q_HO309, Q_HA_HO309, fun _ => rfl, Q_X6_⟩
              refine steps_cons ?_ ?_
              ·rintro b a w' ⟨v304, adz_v304, v308, adz_v308, m2_, m6_, ha, Q_BK301, Q_BK302, Q_HB, Q_HO305, Q_HA_HO305, Q_HO309, Q_HA_HO309, Q_X2_, Q_X6_⟩ hb_ hon hoff
               refine ⟨_, rfl, fun K hK => ?_⟩
               have e30 : a.tmps[30]? = some (m2_) := by rw [ha]; exact putSel_on (e := (2, 30, m2_)) 1 rfl rfl (hon 2 (by kernel_rfl)) rfl
               rw [Q_X2_ (hon 2 (by kernel_rfl))] at e30
               replace ha := Aside0.mk ha; have BK301 := xm Q_BK301; have BK302 := xm Q_BK302; have HB := xm Q_HB
               have HO305 := xm (Q_HO305 (hon 0 (by kernel_rfl)))
               have HA_HO305 := xm (Q_HA_HO305 (hon 0 (by kernel_rfl)))
               obtain ⟨c_, hv_⟩ := HA_HO305.out
               have hF_ := HO305.out
               rw [hv_] at hF_
               obtain ⟨ad_, ea_, hx_⟩ := Kd.at_int (Kd.R_reads' hF_).2.2 x25_3 (of_eq_true pi306) (of_eq_true qi306)
               cases ea_
               refine value_ (w1 := w') (v := .int .i64 (rd y303 x25_3)) (by rfl) rfl ?_ ?_
               ·go_simp
                (try simp only [i64_w])
                try rfl
               refine hK.out _ _ ⟨v304, adz_v304, v308, adz_v308, m2_, m6_, (by rw [ha.out]; exact putSel_upk 2 hb_ rfl rfl rfl), Q_BK301, Q_BK302, Q_HB, Q_HO305, Q_HA_HO305, Q_HO309, Q_HA_HO309, Q_X2_, Q_X6_⟩
              refine steps_cons ?_ ?_
              ·rintro b a w' ⟨v304, adz_v304, v308, adz_v308, m2_, m6_, ha, Q_BK301, Q_BK302, Q_HB, Q_HO305, Q_HA_HO305, Q_HO309, Q_HA_HO309, Q_X2_, Q_X6_⟩ hb_ hon hoff
               refine ⟨_, rfl, fun K hK => ?_⟩
               replace ha := Aside0.mk ha; have BK301 := xm Q_BK301; have BK302 := xm Q_BK302; have HB := xm Q_HB
               refine Kd.R_lit_step (Kd.int .i64) _ 3 ?hg (N := 32) ?hd (xs := ([0, (-1), (-1), (-1)] : List Int)) (inner := [.int .i64 0, .int .i64 (-1), .int .i64 (-1), .int .i64 (-1)]) (ok := fun _ => True) (okp := fun _ => True) ?hr ?hp (fun _ hk => hk) trivial (Below.refl _ _) (Nat.le_refl _) (by simp) ?_; (case hd => rfl); (case hg => rfl); (case hr => first | (go_simp; done) | (go_simp; rfl)); (case hp => exact (Reps.one (show Kd.M (Kd.int .i64) _ _ _ 0 [.int .i64 0] from rfl) (Reps.one (show Kd.M (Kd.int .i64) _ _ _ (-1) [.int .i64 (-1)] from rfl) (Reps.one (show Kd.M (Kd.int .i64) _ _ _ (-1) [.int .i64 (-1)] from rfl) (Reps.one (show Kd.M (Kd.int .i64) _ _ _ (-1) [.int .i64 (-1)] from rfl) (Reps.none _ _))))))
               intro v308 w18 ho19 hb hg_ hnew_
               clear hg_ hnew_
               (first | rw [← Ny307.out] at ho19 | (simp only [Int.reduceToNat] at ho19; rw [← Ny307.out] at ho19))
               have n0_ := Aside0.mk (Kd.R_lower ho19 (below_size (xW HB))); have n1_ := Aside0.mk (xB BK301 hb); have n2_ := Aside0.mk (xB BK302 hb); have n3_ := Aside0.mk (xS HB hb)
               have z_HO305 := fun (h0_ : b 0 = true) => (show Kd.R (Kd.int .i64) 3 w18 w.heap.size (fun _ => True) v304 y303 from by first | exact (Kd.R_elder' (by (with_reducible repeat (first | apply Kd.R_alloc | apply Kd.R_drewN | apply Kd.R_drew)); exact (Q_HO305 h0_)) (Kd.R_base ho19) hb) | exact Kd.R_mono (Kd.R_elder' (by (with_reducible repeat (first | apply Kd.R_alloc | apply Kd.R_drewN | apply Kd.R_drew)); exact (Q_HO305 h0_)) (Kd.R_base ho19) hb) (fun _ h_ => by first | trivial | exact h_ | exact h_.1))
               clear BK301; clear BK302; clear HB; have HO309 := n0_; have BK301 := n1_; have BK302 := n2_; have HB := n3_; clear n0_ n1_ n2_ n3_; clear hb ho19
               obtain ⟨Ao20, co20, eo20⟩ := Kd.R_slice HO309.out
               subst eo20
               obtain ⟨ado20, fo20, _⟩ := Kd.at_int (Kd.R_reads' HO309.out).2.2 0 (by decide) (by rw [Ny307.out]; simp)
               cases fo20
               refine hK.out _ _ ⟨v304, adz_v304, .slice (some ado20) y307.length co20, ado20, m2_, m6_, (by rw [ha.out]; exact putSel_upk 3 hb_ rfl rfl rfl), (xK BK301), (xK BK302), (xW HB), z_HO305, Q_HA_HO305, fun _ => (by (with_reducible repeat (first | apply Kd.R_alloc | apply Kd.R_drewN | apply Kd.R_drew)); exact HO309.out), fun _ => ⟨_, rfl⟩, Q_X2_, fun h0_ => absurd ((hoff 6 (by kernel_rfl)).symm.trans h0_) (by decide)⟩
              refine steps_cons ?_ ?_
              ·rintro b a w' ⟨v304, adz_v304, v308, adz_v308, m2_, m6_, ha, Q_BK301, Q_BK302, Q_HB, Q_HO305, Q_HA_HO305, Q_HO309, Q_HA_HO309, Q_X2_, Q_X6_⟩ hb_ hon hoff
               refine ⟨_, rfl, fun K hK => ?_⟩
               have e32 : a.tmps[32]? = some (v308) := by rw [ha]; exact putSel_on (e := (4, 32, v308)) 3 rfl rfl (hon 4 (by kernel_rfl)) rfl
               have e33 : a.tmps[33]? = some (.int .i64 x25_3) := by rw [ha]; exact (putSel_off rfl).trans rfl
               replace ha := Aside0.mk ha; have BK301 := xm Q_BK301; have BK302 := xm Q_BK302; have HB := xm Q_HB
               have HO309 := xm (Q_HO309 (hon 4 (by kernel_rfl)))
               have HA_HO309 := xm (Q_HA_HO309 (hon 4 (by kernel_rfl)))
               obtain ⟨c_, hv_⟩ := HA_HO309.out
               rw [hv_] at e32
               refine value_ (w1 := w') (v := .pointer (some (adz_v308.add (x25_3).toNat))) (by rfl) rfl ?_ ?_
               ·go_simp
                (try simp only [i64_w])
                try rfl
               refine hK.out _ _ ⟨v304, adz_v304, v308, adz_v308, m2_, (.pointer (some (adz_v308.add (x25_3).toNat))), (by rw [ha.out]; exact putSel_upk 4 hb_ rfl rfl rfl), Q_BK301, Q_BK302, Q_HB, Q_HO305, Q_HA_HO305, Q_HO309, Q_HA_HO309, Q_X2_, fun _ => rfl⟩
              refine steps_cons ?_ ?_
              ·rintro b a w' ⟨v304, adz_v304, v308, adz_v308, m2_, m6_, ha, Q_BK301, Q_BK302, Q_HB, Q_HO305, Q_HA_HO305, Q_HO309, Q_HA_HO309, Q_X2_, Q_X6_⟩ hb_ hon hoff
               refine ⟨_, rfl, fun K hK => ?_⟩
               have e34 : a.tmps[34]? = some (m6_) := by rw [ha]; exact putSel_on (e := (6, 34, m6_)) 4 rfl rfl (hon 6 (by kernel_rfl)) rfl
               rw [Q_X6_ (hon 6 (by kernel_rfl))] at e34
               replace ha := Aside0.mk ha; have BK301 := xm Q_BK301; have BK302 := xm Q_BK302; have HB := xm Q_HB
               have HO309 := xm (Q_HO309 (hon 4 (by kernel_rfl)))
               have HA_HO309 := xm (Q_HA_HO309 (hon 4 (by kernel_rfl)))
               obtain ⟨c_, hv_⟩ := HA_HO309.out
               have hF_ := HO309.out
               rw [hv_] at hF_
               obtain ⟨ad_, ea_, hx_⟩ := Kd.at_int (Kd.R_reads' hF_).2.2 x25_3 (of_eq_true pi310) (of_eq_true qi310)
               cases ea_
               refine value_ (w1 := w') (v := .int .i64 (rd y307 x25_3)) (by rfl) rfl ?_ ?_
               ·go_simp
                (try simp only [i64_w])
                try rfl
               refine hK.out _ _ ⟨v304, adz_v304, v308, adz_v308, m2_, m6_, (by rw [ha.out]; exact putSel_upk 5 hb_ rfl rfl rfl), Q_BK301, Q_BK302, Q_HB, Q_HO305, Q_HA_HO305, Q_HO309, Q_HA_HO309, Q_X2_, Q_X6_⟩
              refine steps_cons ?_ ?_
              ·rintro b a w' ⟨v304, adz_v304, v308, adz_v308, m2_, m6_, ha, Q_BK301, Q_BK302, Q_HB, Q_HO305, Q_HA_HO305, Q_HO309, Q_HA_HO309, Q_X2_, Q_X6_⟩ hb_ hon hoff
               refine ⟨_, rfl, fun K hK => ?_⟩
               have e31 : a.tmps[31]? = some (.int .i64 (rd y303 x25_3)) := by rw [ha]; exact putSel_on (e := (3, 31, .int .i64 (rd y303 x25_3))) 2 rfl rfl (hon 3 (by kernel_rfl)) rfl
               replace ha := Aside0.mk ha; have BK301 := xm Q_BK301; have BK302 := xm Q_BK302; have HB := xm Q_HB
               have HO305 := xm (Q_HO305 (hon 0 (by kernel_rfl)))
               have HA_HO305 := xm (Q_HA_HO305 (hon 0 (by kernel_rfl)))
               refine value_ (w1 := w') (v := .int .i64 (rd y303 x25_3)) (by rfl) rfl ?_ ?_
               ·go_simp
                (try simp only [i64_w])
                try rfl
               refine hK.out _ _ ⟨v304, adz_v304, v308, adz_v308, m2_, m6_, (by rw [ha.out]; exact putSel_upk 6 hb_ rfl rfl rfl), Q_BK301, Q_BK302, Q_HB, Q_HO305, Q_HA_HO305, Q_HO309, Q_HA_HO309, Q_X2_, Q_X6_⟩
              refine steps_cons ?_ ?_
              ·rintro b a w' ⟨v304, adz_v304, v308, adz_v308, m2_, m6_, ha, Q_BK301, Q_BK302, Q_HB, Q_HO305, Q_HA_HO305, Q_HO309, Q_HA_HO309, Q_X2_, Q_X6_⟩ hb_ hon hoff
               refine ⟨_, rfl, fun K hK => ?_⟩
               have e35 : a.tmps[35]? = some (.int .i64 (rd y307 x25_3)) := by rw [ha]; exact putSel_on (e := (7, 35, .int .i64 (rd y307 x25_3))) 5 rfl rfl (hon 7 (by kernel_rfl)) rfl
               replace ha := Aside0.mk ha; have BK301 := xm Q_BK301; have BK302 := xm Q_BK302; have HB := xm Q_HB
               have HO305 := xm (Q_HO305 (hon 0 (by kernel_rfl)))
               have HA_HO305 := xm (Q_HA_HO305 (hon 0 (by kernel_rfl)))
               have HO309 := xm (Q_HO309 (hon 4 (by kernel_rfl)))
               have HA_HO309 := xm (Q_HA_HO309 (hon 4 (by kernel_rfl)))
               refine value_ (w1 := w') (v := .int .i64 (rd y307 x25_3)) (by rfl) rfl ?_ ?_
               ·go_simp
                (try simp only [i64_w])
                try rfl
               refine hK.out _ _ ⟨v304, adz_v304, v308, adz_v308, m2_, m6_, (by rw [ha.out]; exact putSel_upk 7 hb_ rfl rfl rfl), Q_BK301, Q_BK302, Q_HB, Q_HO305, Q_HA_HO305, Q_HO309, Q_HA_HO309, Q_X2_, Q_X6_⟩
              exact steps_nil
             rintro b a w24 hall ⟨v304, adz_v304, v308, adz_v308, m2_, m6_, ha, Q_BK301, Q_BK302, Q_HB, Q_HO305, Q_HA_HO305, Q_HO309, Q_HA_HO309, Q_X2_, Q_X6_⟩
             clear BK301 BK302 HB
             have hb0_ := hall 0 (by kernel_rfl)
             have hb2_ := hall 2 (by kernel_rfl)
             have hb3_ := hall 3 (by kernel_rfl)
             have hb4_ := hall 4 (by kernel_rfl)
             have hb6_ := hall 6 (by kernel_rfl)
             have hb7_ := hall 7 (by kernel_rfl)
             have hb8_ := hall 8 (by kernel_rfl)
             have hb9_ := hall 9 (by kernel_rfl)
             subst ha
             obtain rfl := Q_X2_ hb2_
             obtain rfl := Q_X6_ hb6_
             simp only [putSel, hb0_, hb2_, hb3_, hb4_, hb6_, hb7_, hb8_, hb9_, if_true, Act.put, List.setIfInBounds_toArray, List.set_cons_zero, List.set_cons_succ]
             have BK301 := xm Q_BK301; clear Q_BK301; have BK302 := xm Q_BK302; clear Q_BK302; have HB := xm Q_HB; clear Q_HB; have HO305 := xm (Q_HO305 hb0_); clear Q_HO305; have HA_HO305 := xm (Q_HA_HO305 hb0_); clear Q_HA_HO305; have HO309 := xm (Q_HO309 hb4_); clear Q_HO309; have HA_HO309 := xm (Q_HA_HO309 hb4_); clear Q_HA_HO309; clear hall hb0_ hb2_ hb3_ hb4_ hb6_ hb7_ hb8_ hb9_
             obtain ⟨co25, eo25⟩ := HA_HO305.out
             clear HA_HO305; subst eo25
             obtain ⟨co26, eo26⟩ := HA_HO309.out
             clear HA_HO309; subst eo26
             try go_wp2
             go_loopg [14] k3 (fun kq vs14 w' => ∃ (x14_4 : Int), vs14 = .int .i64 x14_4 ∧ Aside0 (gamehallref1_lined.l3 kq a2 a3 x17_1 x22_2 (rd y303 x25_3) (rd y307 x25_3) x14_4 a0_2 x17_1 a0_1 x22_2 x25_3 a0_0 a0_1 a0_2 l0_3 l0_4 a0_5 a0_6 l0_7 a0_8 a0_9 a0_10 l1_0 l1_1 l1_2 a1_3 a1_4 = some r) ∧ Aside0 (kq ≤ k3) ∧ Aside0 (w'.heap[gb301]? = some (.cells #[.string a0_0, .int .i64 a0_1, .int .i64 a0_2, (.slice A0_3 l0_3.length c0_3), (.slice A0_4 l0_4.length c0_4), .bool a0_5, .bool a0_6, (.slice A0_7 l0_7.length c0_7), .int .i64 a0_8, .int .i64 a0_9, .int .i64 a0_10] 26 (0, 0))) ∧ Aside0 (w'.heap[gb302]? = some (.cells #[(.slice A1_0 l1_0.length c1_0), (.slice A1_1 l1_1.length c1_1), (.slice A1_2 l1_2.length c1_2), .int .i64 a1_3, .int .i64 a1_4] 29 (0, 0))) ∧ Aside0 (Below w.heap.size w w'))
             case atStart => exact ⟨(0), (xrf), H', ⟨Nat.le_refl _⟩, ⟨xK BK301⟩, ⟨xK BK302⟩, ⟨xW HB⟩⟩
             case round =>
              clear H'; (try clear p2); (try clear qi3); (try clear p2)
              obtain ⟨x14_4, rfl, HA, HK4, BK301, BK302, HB⟩ := hrel
              cases gk with
              | zero => exact absurd HA.out (by simp [gamehallref1_lined.l3])
              | succ k4 =>
               have H := HA.out; clear HA
               simp only [gamehallref1_lined.l3] at H
               replace H := Option.bind_eq_some_iff.mp H
               obtain ⟨t311, A270, H⟩ := H
               try dsimp only at H
               have A27 := xm A270; clear A270; have DA27 := xm fun (W_ : World) (hb_ : Below w.heap.size w W_) => gamehallref1_At.calls a0_0 a0_1 a0_2 _ _ l0_3 _ _ l0_4 a0_5 a0_6 _ _ l0_7 a0_8 a0_9 a0_10 _ _ l1_0 _ _ l1_1 _ _ l1_2 a1_3 a1_4 (wrap64 (x22_2 + (wrap64 (x14_4 * (rd y303 x25_3))))) (wrap64 (x17_1 + (wrap64 (x14_4 * (rd y307 x25_3))))) t311 W_ (Kd.C_below HR0_3.out hb_) HC0_3.out (Kd.C_below HR0_4.out hb_) HC0_4.out (Kd.C_below HR0_7.out hb_) HC0_7.out (Kd.C_below HR1_0.out hb_) HC1_0.out (Kd.C_below HR1_1.out hb_) HC1_1.out (Kd.C_below HR1_2.out hb_) HC1_2.out A27.out; replace H := Option.bind_eq_some_iff.mp H
               obtain ⟨t312, A280, H⟩ := H
               try dsimp only at H
               have A28 := xm A280; clear A280
               by_cases c29 : t312 = true
               ·subst c29
                rw [if_pos rfl] at H
                have H' := xm H
                clear H; have hcz31_0 := blkc11 BK301.out; have hcz32_0 := blkc5 BK302.out
                go_wp2_with (first | ((with_reducible refine gate_callee (f := 47) rfl ?_); refine xL (some 48) Try.func47 #[.agg #[.string a0_0, .int .i64 a0_1, .int .i64 a0_2, .slice A0_3 l0_3.length c0_3, .slice A0_4 l0_4.length c0_4, .bool a0_5, .bool a0_6, .slice A0_7 l0_7.length c0_7, .int .i64 a0_8, .int .i64 a0_9, .int .i64 a0_10], .agg #[.slice A1_0 l1_0.length c1_0, .slice A1_1 l1_1.length c1_1, .slice A1_2 l1_2.length c1_2, .int .i64 a1_3, .int .i64 a1_4], .int .i64 (wrap64 (x22_2 + (wrap64 (x14_4 * (rd y303 x25_3))))), .int .i64 (wrap64 (x17_1 + (wrap64 (x14_4 * (rd y307 x25_3)))))] rfl ?_; (with_reducible refine (DA27.out _ ?sB).mono ?_); (case sB => exact xW HB); rintro e w33 ⟨rfl, hb⟩; refine ⟨_, rfl, ?_⟩; replace BK301 := xm (xB BK301 hb); replace BK302 := xm (xB BK302 hb); replace HB := xm (xS HB hb); (try clear hb); (try clear hb2); (try clear hk); (try clear hi)) | ((with_reducible refine gate_callee (f := 36) rfl ?_); refine xL (some 50) Try.func36 #[.int .i64 t311, .int .i64 a2] rfl ?_; (with_reducible refine (gamehallref1_Mine.calls t311 a2 true _ A28.out).mono ?_); rintro e w' ⟨rfl, ⟨nd, rfl⟩⟩; refine ⟨_, rfl, ?_⟩))
                go_roundg k4
                case measure => have := HK1.out; have := HK2.out; have := HK3.out; have := HK4.out; omega
                case rel => exact ⟨(wrap64 (x14_4 + 1)), (xrf), H', ⟨by have := HK1.out; have := HK2.out; have := HK3.out; have := HK4.out; omega⟩, ⟨xK BK301⟩, ⟨xK BK302⟩, ⟨xW HB⟩⟩
               ·replace c29 := Bool.eq_false_iff.mpr c29
                subst c29
                rw [if_neg xF] at H
                by_cases c34 : x14_4 ≥ a3
                ·rw [if_pos c34] at H
                 have c34b0 := decide_eq_true c34
                 clear c34
                 obtain rfl := Option.some.inj H
                 have hcz36_0 := blkc11 BK301.out; have hcz37_0 := blkc5 BK302.out
                 go_wp2_with (first | ((with_reducible refine gate_callee (f := 47) rfl ?_); refine xL (some 48) Try.func47 #[.agg #[.string a0_0, .int .i64 a0_1, .int .i64 a0_2, .slice A0_3 l0_3.length c0_3, .slice A0_4 l0_4.length c0_4, .bool a0_5, .bool a0_6, .slice A0_7 l0_7.length c0_7, .int .i64 a0_8, .int .i64 a0_9, .int .i64 a0_10], .agg #[.slice A1_0 l1_0.length c1_0, .slice A1_1 l1_1.length c1_1, .slice A1_2 l1_2.length c1_2, .int .i64 a1_3, .int .i64 a1_4], .int .i64 (wrap64 (x22_2 + (wrap64 (x14_4 * (rd y303 x25_3))))), .int .i64 (wrap64 (x17_1 + (wrap64 (x14_4 * (rd y307 x25_3)))))] rfl ?_; (with_reducible refine (DA27.out _ ?sB).mono ?_); (case sB => exact xW HB); rintro e w38 ⟨rfl, hb⟩; refine ⟨_, rfl, ?_⟩; replace BK301 := xm (xB BK301 hb); replace BK302 := xm (xB BK302 hb); replace HB := xm (xS HB hb); (try clear hb); (try clear hb2); (try clear hk); (try clear hi)) | ((with_reducible refine gate_callee (f := 36) rfl ?_); refine xL (some 50) Try.func36 #[.int .i64 t311, .int .i64 a2] rfl ?_; (with_reducible refine (gamehallref1_Mine.calls t311 a2 false _ A28.out).mono ?_); rintro e w' ⟨rfl, ⟨nd, rfl⟩⟩; refine ⟨_, rfl, ?_⟩))
                 go_ret
                 exact ⟨xer, xW HB⟩
                ·rw [if_neg c34] at H
                 have c34b0 := decide_eq_false c34
                 clear c34
                 have H' := xm H
                 clear H; have hcz40_0 := blkc11 BK301.out; have hcz41_0 := blkc5 BK302.out
                 go_wp2_with (first | ((with_reducible refine gate_callee (f := 47) rfl ?_); refine xL (some 48) Try.func47 #[.agg #[.string a0_0, .int .i64 a0_1, .int .i64 a0_2, .slice A0_3 l0_3.length c0_3, .slice A0_4 l0_4.length c0_4, .bool a0_5, .bool a0_6, .slice A0_7 l0_7.length c0_7, .int .i64 a0_8, .int .i64 a0_9, .int .i64 a0_10], .agg #[.slice A1_0 l1_0.length c1_0, .slice A1_1 l1_1.length c1_1, .slice A1_2 l1_2.length c1_2, .int .i64 a1_3, .int .i64 a1_4], .int .i64 (wrap64 (x22_2 + (wrap64 (x14_4 * (rd y303 x25_3))))), .int .i64 (wrap64 (x17_1 + (wrap64 (x14_4 * (rd y307 x25_3)))))] rfl ?_; (with_reducible refine (DA27.out _ ?sB).mono ?_); (case sB => exact xW HB); rintro e w42 ⟨rfl, hb⟩; refine ⟨_, rfl, ?_⟩; replace BK301 := xm (xB BK301 hb); replace BK302 := xm (xB BK302 hb); replace HB := xm (xS HB hb); (try clear hb); (try clear hb2); (try clear hk); (try clear hi)) | ((with_reducible refine gate_callee (f := 36) rfl ?_); refine xL (some 50) Try.func36 #[.int .i64 t311, .int .i64 a2] rfl ?_; (with_reducible refine (gamehallref1_Mine.calls t311 a2 false _ A28.out).mono ?_); rintro e w' ⟨rfl, ⟨nd, rfl⟩⟩; refine ⟨_, rfl, ?_⟩))
                 go_roundg k4
                 case measure => have := HK1.out; have := HK2.out; have := HK3.out; have := HK4.out; omega
                 case rel => exact ⟨(wrap64 (x25_3 + 1)), (xrf), H', ⟨by have := HK1.out; have := HK2.out; have := HK3.out; have := HK4.out; omega⟩, ⟨xK BK301⟩, ⟨xK BK302⟩, ⟨xW HB⟩⟩
            ·rw [if_neg c16] at H
             exact absurd H (by simp)
           ·rw [if_neg c15] at H
            exact absurd H (by simp)
          ·rw [if_neg c14] at H
           exact absurd H (by simp)
         ·rw [if_neg c13] at H
          have c13b0 := decide_eq_false c13
          clear c13
          have H' := xm H
          clear H
          go_wp2
          go_roundg k3
          case measure => have := HK1.out; have := HK2.out; have := HK3.out; omega
          case rel => exact ⟨(wrap64 (x22_2 + 1)), (xrf), H', ⟨by have := HK1.out; have := HK2.out; have := HK3.out; omega⟩, ⟨xK BK301⟩, ⟨xK BK302⟩, ⟨xW HB⟩⟩
      ·rw [if_neg c12] at H
       have c12b0 := decide_eq_false c12
       clear c12
       have H' := xm H
       clear H
       go_wp2
       go_roundg k2
       case measure => have := HK1.out; have := HK2.out; omega
       case rel => exact ⟨(wrap64 (x17_1 + 1)), (xrf), H', ⟨by have := HK1.out; have := HK2.out; omega⟩, ⟨xK BK301⟩, ⟨xK BK302⟩, ⟨xW HB⟩⟩
   ·rw [if_neg c9] at H
    have c9b0 := decide_eq_false c9
    clear c9
    obtain rfl := Option.some.inj H
    go_wp2
    go_ret
    exact ⟨xer, xW HB⟩

end Go.Proofs.Ytloadbbndnmdlaa.PEndsOf
