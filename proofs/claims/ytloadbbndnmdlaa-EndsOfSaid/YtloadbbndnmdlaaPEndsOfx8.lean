-- Printed by a program of this claim's writer (wip/ext): an extension of the kit's print.
import Derived.Test.YtloadbbndnmdlaaPEndsOfx0
import Derived.Test.YtloadbbndnmdlaaPEndsOfx7
namespace Go.Proofs.Ytloadbbndnmdlaa.PEndsOf
open Go.RowKit Go.Proofs.YtloadbbndnmdlaaW.PrintWords Go.Proofs.YtloadbbndnmdlaaW.PrintLast Go.Proofs.YtloadbbndnmdlaaW.PrintMore
set_option maxHeartbeats 8000000
set_option maxRecDepth 100000
attribute [local go_sem] max2_int min2_int max_two min_two max_three min_three max_four min_four   -- for this text's walks alone
set_option linter.unusedVariables false
set_option linter.unusedSimpArgs false

/-! ### gamehallref1_pieceError: function 46 -/
mutual
def gamehallref1_pieceError.l0 : Nat → List (S62) → Int → Int → Int → Int → Int → List (S74) → Option (Int)
  | 0, _, _, _, _, _, _, _ => none
  | k + 1, x0, x18, x19, z228a, z228b, z228c, z228d => if x19 < x18 then (if 0 ≤ x19 then (if x19 < (x0.length : Int) then (if ((rd_T62 x0 x19).f0) = z228a then (some 7) else (gamehallref1_pieceError.l0 k x0 x18 (wrap64 (x19 + 1)) z228a z228b z228c z228d)) else (none)) else (none)) else ((gamehallref1_In.f z228b 0 64).bind fun t230 => (if t230 = true then ((gamehallref1_In.f z228c 0 (x0.length : Int)).bind fun t231 => (gamehallref1_pieceError.j1 k (!t231) z228a z228b z228c z228d)) else (gamehallref1_pieceError.j1 k true z228a z228b z228c z228d)))
def gamehallref1_pieceError.j1 : Nat → Bool → Int → Int → Int → List (S74) → Option (Int)
  | 0, _, _, _, _, _ => none
  | k + 1, x42, z228a, z228b, z228c, z228d => if x42 = true then (some 4) else (if (z228d.length : Int) > 16 then (some 2) else (gamehallref1_pieceError.l1 k z228d (z228d.length : Int) 0))
def gamehallref1_pieceError.l1 : Nat → List (S74) → Int → Int → Option (Int)
  | 0, _, _, _ => none
  | k + 1, x48, x49, x50 => if x50 < x49 then (if 0 ≤ x50 then (if x50 < (x48.length : Int) then ((gamehallref1_In.f ((rd_T74 x48 x50).f0) (-7) 7).bind fun t234 => (if t234 = true then ((gamehallref1_In.f ((rd_T74 x48 x50).f1) (-7) 7).bind fun t235 => (if t235 = true then (if ((rd_T74 x48 x50).f0) = 0 then (if ((rd_T74 x48 x50).f1) = 0 then (some 4) else ((gamehallref1_In.f ((rd_T74 x48 x50).f2) 1 7).bind fun t236 => (if t236 = true then ((gamehallref1_In.f ((rd_T74 x48 x50).f3) 0 2).bind fun t237 => (if t237 = true then (gamehallref1_pieceError.l1 k x48 x49 (wrap64 (x50 + 1))) else (some 4))) else (some 4)))) else ((gamehallref1_In.f ((rd_T74 x48 x50).f2) 1 7).bind fun t238 => (if t238 = true then ((gamehallref1_In.f ((rd_T74 x48 x50).f3) 0 2).bind fun t239 => (if t239 = true then (gamehallref1_pieceError.l1 k x48 x49 (wrap64 (x50 + 1))) else (some 4))) else (some 4)))) else (some 4))) else (some 4))) else (none)) else (none)) else (some 0)
end
def gamehallref1_pieceError.f (k : Nat) (l0 : List (S62)) (a1 : Int) : Option (Int) := if 0 ≤ a1 then (if a1 < (l0.length : Int) then ((gamehallref1_In.f (wrap64 ((rd_T62 l0 a1).f0)) 65 90).bind fun t228 => (if t228 = true then (gamehallref1_pieceError.l0 k l0 a1 0 ((rd_T62 l0 a1).f0) ((rd_T62 l0 a1).f1) ((rd_T62 l0 a1).f2) ((rd_T62 l0 a1).f3)) else (some 6))) else (none)) else (none)
theorem gamehallref1_pieceError.mono_l : ∀ k, L5 (LM (LM (LeO))) (gamehallref1_pieceError.l0 k) (gamehallref1_pieceError.l0 (k + 1)) ∧ L5 (LeO) (gamehallref1_pieceError.j1 k) (gamehallref1_pieceError.j1 (k + 1)) ∧ LM (LM (LM (LeO))) (gamehallref1_pieceError.l1 k) (gamehallref1_pieceError.l1 (k + 1))
  | 0 => by refine ⟨?_, ?_, ?_⟩ <;> (repeat (first | exact LeO.none _ | intro _))
  | k + 1 => by
    obtain ⟨ih0, ih1, ih2⟩ := gamehallref1_pieceError.mono_l k
    refine ⟨?_, ?_, ?_⟩ <;> ((repeat (first | (with_reducible refine LeO.st ?_) | intro _)); constructor; (first | unfold gamehallref1_pieceError.l0 | unfold gamehallref1_pieceError.j1 | unfold gamehallref1_pieceError.l1); repeat' first | (with_reducible first | apply ih0 | apply ih1 | apply ih2 | exact LeO.refl _ | exact LeO.none _ | refine LeO.ite ?_ ?_ | refine LeO.bind ?_ (fun _ => ?_)) | apply ih0 | apply ih1 | apply ih2 | exact LeO.none _ | refine LeO.ite ?_ ?_ | refine LeO.bind ?_ (fun _ => ?_))
theorem gamehallref1_pieceError.mono : ∀ a0 a1 k, LeO (gamehallref1_pieceError.f k a0 a1) (gamehallref1_pieceError.f (k + 1) a0 a1) := by
  intros; rename_i k
  obtain ⟨ih0, ih1, ih2⟩ := gamehallref1_pieceError.mono_l k
  unfold gamehallref1_pieceError.f
  repeat' first | (with_reducible first | apply ih0 | apply ih1 | apply ih2 | exact LeO.refl _ | exact LeO.none _ | refine LeO.ite ?_ ?_ | refine LeO.bind ?_ (fun _ => ?_)) | apply ih0 | apply ih1 | apply ih2 | exact LeO.none _ | refine LeO.ite ?_ ?_ | refine LeO.bind ?_ (fun _ => ?_)
theorem gamehallref1_pieceError.calls (k : Nat) (A0 : Option Addr) (c0 : Nat) (l0 : List (S62)) (a1 : Int) (r : Int) (w : World) (hr0 : Kd.C k62 w A0 l0.length l0) (hc0 : l0.length ≤ c0) (h : gamehallref1_pieceError.f k l0 a1 = some r) :
    Calls Try.prog 46 #[.slice A0 l0.length c0, .int .i64 a1] w fun e w' => e = .returned (.int .i64 r) ∧ Below w.heap.size w w' := by
 have hu62 := Try.underlying62; have hu74 := Try.underlying74; have HR0 := xm hr0; have HC0 := xm hc0; clear hr0 hc0; have HB := xm (Below.refl w.heap.size w); have hss_ := @isSome_setCell
 have H : (if 0 ≤ a1 then (if a1 < (l0.length : Int) then ((gamehallref1_In.f (wrap64 ((rd_T62 l0 a1).f0)) 65 90).bind fun t228 => (if t228 = true then (gamehallref1_pieceError.l0 k l0 a1 0 ((rd_T62 l0 a1).f0) ((rd_T62 l0 a1).f1) ((rd_T62 l0 a1).f2) ((rd_T62 l0 a1).f3)) else (some 6))) else (none)) else (none)) = some r := h
 clear h
 by_cases c3 : 0 ≤ a1
 ·rw [if_pos c3] at H
  have c3b0 := decide_eq_true c3
  clear c3
  by_cases c4 : a1 < (l0.length : Int)
  ·rw [if_pos c4] at H
   have c4b0 := decide_eq_true c4
   clear c4; replace H := Option.bind_eq_some_iff.mp H
   obtain ⟨t228, A50, H⟩ := H
   try dsimp only at H
   have A5 := xm A50; clear A50
   by_cases c6 : t228 = true
   ·subst c6
    rw [if_pos rfl] at H
    have H' := xm H
    clear H
    have p226 : 0 ≤ (a1 : Int) := xO
    have q226 : a1 < (l0.length : Int) := xO
    obtain ⟨ad226, A226_3, c226_3, e226, hx226_0, hx226_1, hx226_2, hx226_3, hl226_3, hi226_3⟩ := at_T62 HR0.out a1 p226 q226
    cases e226
    have HR226_3 := xm hi226_3; have HC226_3 := xm hl226_3; clear hi226_3 hl226_3; replace p226 := eq_true p226; replace q226 := eq_true q226
    go_enter Try.func46, Try.ntmps46
    go_wp2_with (first | ((with_reducible refine gate_dst (N := 5) rfl ?_); (try (refine gate_guard (by rfl) ?_; dsimp only)); refine xG (cs := #[.int .u8 0, .int .i64 0, .int .i64 0, .slice none 0 0]) (t := 62) ?_; intro gb227 hg w7 hbox hb; have BK227 := xm (hbox); have GW227 := xm (xZ HB hg); have GE227 := xm (xZ HB hg); replace HB := xm (xS HB hb); clear hb hbox hg; have hcz8_0 := blkc4 BK227.out) | (go_at_call 29; (with_reducible refine (gamehallref1_In.calls (wrap64 ((rd_T62 l0 a1).f0)) 65 90 true _ A5.out).mono ?_); rintro e w' ⟨rfl, ⟨nd, rfl⟩⟩; (try first | exact ⟨rfl, _, World.drewN_drewN _ _ _⟩ | exact ⟨rfl, _, Eq.trans (World.drewN_drewN _ _ _) (congrArg (World.drewN _) (Nat.add_assoc _ _ _))⟩)))
    go_loopg [19] k (fun kq vs19 w' => ∃ (x19_1 : Int), vs19 = .int .i64 x19_1 ∧ Aside0 (gamehallref1_pieceError.l0 kq l0 a1 x19_1 ((rd_T62 l0 a1).f0) ((rd_T62 l0 a1).f1) ((rd_T62 l0 a1).f2) ((rd_T62 l0 a1).f3) = some r) ∧ Aside0 (kq ≤ k) ∧ Aside0 (w'.heap[gb227]? = some (.cells #[.int .u8 ((rd_T62 l0 a1).f0), .int .i64 ((rd_T62 l0 a1).f1), .int .i64 ((rd_T62 l0 a1).f2), (.slice A226_3 ((rd_T62 l0 a1).f3).length c226_3)] 62 (0, 0))) ∧ Aside0 (Below w.heap.size w w'))
    case atStart => exact ⟨(0), (xrf), H', ⟨Nat.le_refl _⟩, ⟨xQ BK227⟩, ⟨xW HB⟩⟩
    case round =>
     clear H'; (try clear p2); (try clear q2); (try clear hx2); (try clear p6); (try clear hx226_0); (try clear hx226_1); (try clear hx226_2); (try clear hx226_3); (try clear p226); (try clear q226)
     obtain ⟨x19_1, rfl, HA, HK1, BK227, HB⟩ := hrel
     cases gk with
     | zero => exact absurd HA.out (by simp [gamehallref1_pieceError.l0])
     | succ k1 =>
      have H := HA.out; clear HA
      simp only [gamehallref1_pieceError.l0] at H
      by_cases c9 : x19_1 < a1
      ·rw [if_pos c9] at H
       have c9b0 := decide_eq_true c9
       clear c9
       by_cases c10 : 0 ≤ x19_1
       ·rw [if_pos c10] at H
        have c10b0 := decide_eq_true c10
        clear c10
        by_cases c11 : x19_1 < (l0.length : Int)
        ·rw [if_pos c11] at H
         have c11b0 := decide_eq_true c11
         clear c11
         by_cases c12 : ((rd_T62 l0 x19_1).f0) = ((rd_T62 l0 a1).f0)
         ·rw [if_pos c12] at H
          have c12b0 := beq_iff_eq.mpr c12
          have c12b1 := bne_eq_false_iff_eq.mpr c12
          clear c12
          obtain rfl := Option.some.inj H
          have p229 : 0 ≤ (x19_1 : Int) := xO
          have q229 : x19_1 < (l0.length : Int) := xO
          obtain ⟨ad229, A229_3, c229_3, e229, hx229_0, hx229_1, hx229_2, hx229_3, hl229_3, hi229_3⟩ := at_T62 HR0.out x19_1 p229 q229
          obtain rfl : ad226 = ad229 := (by injection e229)
          replace hx229_0 := xR HB hx229_0; replace hx229_1 := xR HB hx229_1; replace hx229_2 := xR HB hx229_2; replace hx229_3 := xR HB hx229_3; have HR229_3 := xm hi229_3; have HC229_3 := xm hl229_3; clear hi229_3 hl229_3; replace p229 := eq_true p229; replace q229 := eq_true q229; have hcz13_0 := blkc4 BK227.out
          go_wp2
          repeat (go_quiet (fail); try go_wp2)
          go_ret
          exact ⟨xer, xW HB⟩
         ·rw [if_neg c12] at H
          have c12b0 := beq_eq_false_iff_ne.mpr c12
          have c12b1 := bne_iff_ne.mpr c12
          have H' := xm H
          clear H
          have p229 : 0 ≤ (x19_1 : Int) := xO
          have q229 : x19_1 < (l0.length : Int) := xO
          obtain ⟨ad229, A229_3, c229_3, e229, hx229_0, hx229_1, hx229_2, hx229_3, hl229_3, hi229_3⟩ := at_T62 HR0.out x19_1 p229 q229
          obtain rfl : ad226 = ad229 := (by injection e229)
          replace hx229_0 := xR HB hx229_0; replace hx229_1 := xR HB hx229_1; replace hx229_2 := xR HB hx229_2; replace hx229_3 := xR HB hx229_3; have HR229_3 := xm hi229_3; have HC229_3 := xm hl229_3; clear hi229_3 hl229_3; replace p229 := eq_true p229; replace q229 := eq_true q229; have hcz14_0 := blkc4 BK227.out
          go_wp2
          repeat (go_quiet (fail); try go_wp2)
          go_roundg k1
          case measure => have := HK1.out; omega
          case rel => exact ⟨(wrap64 (x19_1 + 1)), (xrf), H', ⟨by have := HK1.out; omega⟩, ⟨xK BK227⟩, ⟨xW HB⟩⟩
        ·rw [if_neg c11] at H
         exact absurd H (by simp)
       ·rw [if_neg c10] at H
        exact absurd H (by simp)
      ·rw [if_neg c9] at H
       have c9b0 := decide_eq_false c9
       clear c9; have HC15 := xm H; clear H
       go_upto_region 10 with (fail)
       go_cut [42] (fun vs42 wc => ∃ (kq : Nat) (x42_14 : Bool), vs42 = .bool x42_14 ∧ Aside0 (gamehallref1_pieceError.j1 kq x42_14 ((rd_T62 l0 a1).f0) ((rd_T62 l0 a1).f1) ((rd_T62 l0 a1).f2) ((rd_T62 l0 a1).f3) = some r) ∧ Aside0 (kq ≤ k1) ∧ Aside0 (wc.heap[gb227]? = some (.cells #[.int .u8 ((rd_T62 l0 a1).f0), .int .i64 ((rd_T62 l0 a1).f1), .int .i64 ((rd_T62 l0 a1).f2), (.slice A226_3 ((rd_T62 l0 a1).f3).length c226_3)] 62 (0, 0))) ∧ Aside0 (Below w.heap.size w wc))
       case first =>
        have H := HC15.out; clear HC15; replace H := Option.bind_eq_some_iff.mp H
        obtain ⟨t230, A160, H⟩ := H
        try dsimp only at H
        have A16 := xm A160; clear A160
        by_cases c17 : t230 = true
        ·subst c17
         rw [if_pos rfl] at H
         replace H := Option.bind_eq_some_iff.mp H
         obtain ⟨t231, A180, H⟩ := H
         try dsimp only at H
         have A18 := xm A180; clear A180
         have H' := xm H
         clear H; have hcz19_0 := blkc4 BK227.out
         go_wp2_with (first | (go_at_call 29; (with_reducible refine (gamehallref1_In.calls ((rd_T62 l0 a1).f1) 0 64 true _ A16.out).mono ?_); rintro e w' ⟨rfl, ⟨nd, rfl⟩⟩; (try first | exact ⟨rfl, _, World.drewN_drewN _ _ _⟩ | exact ⟨rfl, _, Eq.trans (World.drewN_drewN _ _ _) (congrArg (World.drewN _) (Nat.add_assoc _ _ _))⟩)) | (go_at_call 29; (with_reducible refine (gamehallref1_In.calls ((rd_T62 l0 a1).f2) 0 (l0.length : Int) t231 _ A18.out).mono ?_); rintro e w' ⟨rfl, ⟨nd, rfl⟩⟩; (try first | exact ⟨rfl, _, World.drewN_drewN _ _ _⟩ | exact ⟨rfl, _, Eq.trans (World.drewN_drewN _ _ _) (congrArg (World.drewN _) (Nat.add_assoc _ _ _))⟩)))
         go_meet
         case rel => exact ⟨_, (!t231), (xrf), H', ⟨by have := HK1.out; first | omega | exact Nat.le_refl _⟩, ⟨xK BK227⟩, ⟨xW HB⟩⟩
        ·replace c17 := Bool.eq_false_iff.mpr c17
         subst c17
         rw [if_neg xF] at H
         have H' := xm H
         clear H; have hcz20_0 := blkc4 BK227.out
         go_wp2_with (first | (go_at_call 29; (with_reducible refine (gamehallref1_In.calls ((rd_T62 l0 a1).f1) 0 64 false _ A16.out).mono ?_); rintro e w' ⟨rfl, ⟨nd, rfl⟩⟩; (try first | exact ⟨rfl, _, World.drewN_drewN _ _ _⟩ | exact ⟨rfl, _, Eq.trans (World.drewN_drewN _ _ _) (congrArg (World.drewN _) (Nat.add_assoc _ _ _))⟩)))
         go_meet
         case rel => exact ⟨_, (true), (xrf), H', ⟨by have := HK1.out; first | omega | exact Nat.le_refl _⟩, ⟨xK BK227⟩, ⟨xW HB⟩⟩
       case rest =>
        clear HC15; (try clear p2); (try clear q2); (try clear hx2); (try clear p6); (try clear hx226_0); (try clear hx226_1); (try clear hx226_2); (try clear hx226_3); (try clear hx229_0); (try clear hx229_1); (try clear hx229_2); (try clear hx229_3); (try clear p2); (try clear p226); (try clear p229); (try clear p6); (try clear q2); (try clear q226); (try clear q229)
        obtain ⟨kq, x42_14, rfl, HA, HJ14, BK227, HB⟩ := hcut
        cases kq with
        | zero => exact absurd HA.out (by simp [gamehallref1_pieceError.j1])
        | succ kj14 =>
         have H := HA.out; clear HA
         simp only [gamehallref1_pieceError.j1] at H
         by_cases c21 : x42_14 = true
         ·subst c21
          rw [if_pos rfl] at H
          obtain rfl := Option.some.inj H
          go_wp2
          go_ret
          exact ⟨xer, xW HB⟩
         ·replace c21 := Bool.eq_false_iff.mpr c21
          subst c21
          rw [if_neg xF] at H
          by_cases c22 : (((rd_T62 l0 a1).f3).length : Int) > 16
          ·rw [if_pos c22] at H
           have c22b0 := decide_eq_true c22
           have c22b1 : decide (16 < ((rd_T62 l0 a1).f3).length) = true := decide_eq_true (by omega)
           clear c22
           obtain rfl := Option.some.inj H
           have hcz23_0 := blkc4 BK227.out
           go_wp2
           go_ret
           exact ⟨xer, xW HB⟩
          ·rw [if_neg c22] at H
           have c22b0 := decide_eq_false c22
           have c22b1 : decide (16 < ((rd_T62 l0 a1).f3).length) = false := decide_eq_false (by omega)
           clear c22
           have H' := xm H
           clear H; have hcz24_0 := blkc4 BK227.out
           go_wp2
           go_loopg [50] kj14 (fun kq vs50 w' => ∃ (x50_3 : Int), vs50 = .int .i64 x50_3 ∧ Aside0 (gamehallref1_pieceError.l1 kq ((rd_T62 l0 a1).f3) (((rd_T62 l0 a1).f3).length : Int) x50_3 = some r) ∧ Aside0 (kq ≤ kj14) ∧ Aside0 (w'.heap[gb227]? = some (.cells #[.int .u8 ((rd_T62 l0 a1).f0), .int .i64 ((rd_T62 l0 a1).f1), .int .i64 ((rd_T62 l0 a1).f2), (.slice A226_3 ((rd_T62 l0 a1).f3).length c226_3)] 62 (0, 0))) ∧ Aside0 (Below w.heap.size w w'))
           case atStart => exact ⟨(0), (xrf), H', ⟨Nat.le_refl _⟩, ⟨xK BK227⟩, ⟨xW HB⟩⟩
           case round =>
            clear H'; (try clear p2); (try clear q2); (try clear hx2); (try clear p6); (try clear p22); (try clear q22); (try clear hx22); (try clear hx226_0); (try clear hx226_1); (try clear hx226_2); (try clear hx226_3); (try clear hx229_0); (try clear hx229_1); (try clear hx229_2); (try clear hx229_3); (try clear p2); (try clear p226); (try clear p229); (try clear p6); (try clear q2); (try clear q226); (try clear q229)
            obtain ⟨x50_3, rfl, HA, HK3, BK227, HB⟩ := hrel
            cases gk with
            | zero => exact absurd HA.out (by simp [gamehallref1_pieceError.l1])
            | succ k3 =>
             have H := HA.out; clear HA
             simp only [gamehallref1_pieceError.l1] at H
             by_cases c25 : x50_3 < (((rd_T62 l0 a1).f3).length : Int)
             ·rw [if_pos c25] at H
              have c25b0 := decide_eq_true c25
              clear c25
              by_cases c26 : 0 ≤ x50_3
              ·rw [if_pos c26] at H
               have c26b0 := decide_eq_true c26
               clear c26
               by_cases c27 : x50_3 < (((rd_T62 l0 a1).f3).length : Int)
               ·rw [if_pos c27] at H
                have c27b0 := decide_eq_true c27
                clear c27; replace H := Option.bind_eq_some_iff.mp H
                obtain ⟨t234, A280, H⟩ := H
                try dsimp only at H
                have A28 := xm A280; clear A280
                by_cases c29 : t234 = true
                ·subst c29
                 rw [if_pos rfl] at H
                 replace H := Option.bind_eq_some_iff.mp H
                 obtain ⟨t235, A300, H⟩ := H
                 try dsimp only at H
                 have A30 := xm A300; clear A300
                 by_cases c31 : t235 = true
                 ·subst c31
                  rw [if_pos rfl] at H
                  by_cases c32 : ((rd_T74 ((rd_T62 l0 a1).f3) x50_3).f0) = 0
                  ·rw [if_pos c32] at H
                   have c32b0 := beq_iff_eq.mpr c32
                   have c32b1 := bne_eq_false_iff_eq.mpr c32
                   clear c32
                   by_cases c33 : ((rd_T74 ((rd_T62 l0 a1).f3) x50_3).f1) = 0
                   ·rw [if_pos c33] at H
                    have c33b0 := beq_iff_eq.mpr c33
                    have c33b1 := bne_eq_false_iff_eq.mpr c33
                    clear c33
                    obtain rfl := Option.some.inj H
                    have p232 : 0 ≤ (x50_3 : Int) := xO
                    have q232 : x50_3 < (((rd_T62 l0 a1).f3).length : Int) := xO
                    obtain ⟨ad232, e232, hx232_0, hx232_1, hx232_2, hx232_3⟩ := at_T74 HR226_3.out x50_3 p232 q232
                    cases e232
                    replace hx232_0 := xR HB hx232_0; replace hx232_1 := xR HB hx232_1; replace hx232_2 := xR HB hx232_2; replace hx232_3 := xR HB hx232_3; replace p232 := eq_true p232; replace q232 := eq_true q232
                    go_wp2_with (first | ((with_reducible refine gate_dst (N := 8) rfl ?_); (try (refine gate_guard (by rfl) ?_; dsimp only)); refine xG (cs := #[.int .i64 0, .int .i64 0, .int .i64 0, .int .i64 0]) (t := 74) ?_; intro gb233 hg w34 hbox hb; have BK233 := xm (hbox); have GW233 := xm (xZ HB hg); have GE233 := xm (xZ HB hg); have NB227_233 := xm (xN BK227 hg); have NB233_227 := xm (xM BK227 hg); replace BK227 := xm (xB BK227 hb); replace HB := xm (xS HB hb); clear hb hbox hg; have hnb35 := NB233_227.out; have hnc35 := NB227_233.out; have hcz36_0 := blkc4 BK233.out) | (go_at_call 29; (with_reducible refine (gamehallref1_In.calls ((rd_T74 ((rd_T62 l0 a1).f3) x50_3).f0) (-7) 7 true _ A28.out).mono ?_); rintro e w' ⟨rfl, ⟨nd, rfl⟩⟩; (try first | exact ⟨rfl, _, World.drewN_drewN _ _ _⟩ | exact ⟨rfl, _, Eq.trans (World.drewN_drewN _ _ _) (congrArg (World.drewN _) (Nat.add_assoc _ _ _))⟩)) | (go_at_call 29; (with_reducible refine (gamehallref1_In.calls ((rd_T74 ((rd_T62 l0 a1).f3) x50_3).f1) (-7) 7 true _ A30.out).mono ?_); rintro e w' ⟨rfl, ⟨nd, rfl⟩⟩; (try first | exact ⟨rfl, _, World.drewN_drewN _ _ _⟩ | exact ⟨rfl, _, Eq.trans (World.drewN_drewN _ _ _) (congrArg (World.drewN _) (Nat.add_assoc _ _ _))⟩)))
                    go_ret
                    exact ⟨xer, xW HB⟩
                   ·rw [if_neg c33] at H
                    have c33b0 := beq_eq_false_iff_ne.mpr c33
                    have c33b1 := bne_iff_ne.mpr c33
                    replace H := Option.bind_eq_some_iff.mp H
                    obtain ⟨t236, A370, H⟩ := H
                    try dsimp only at H
                    have A37 := xm A370; clear A370
                    by_cases c38 : t236 = true
                    ·subst c38
                     rw [if_pos rfl] at H
                     replace H := Option.bind_eq_some_iff.mp H
                     obtain ⟨t237, A390, H⟩ := H
                     try dsimp only at H
                     have A39 := xm A390; clear A390
                     by_cases c40 : t237 = true
                     ·subst c40
                      rw [if_pos rfl] at H
                      have H' := xm H
                      clear H
                      have p232 : 0 ≤ (x50_3 : Int) := xO
                      have q232 : x50_3 < (((rd_T62 l0 a1).f3).length : Int) := xO
                      obtain ⟨ad232, e232, hx232_0, hx232_1, hx232_2, hx232_3⟩ := at_T74 HR226_3.out x50_3 p232 q232
                      cases e232
                      replace hx232_0 := xR HB hx232_0; replace hx232_1 := xR HB hx232_1; replace hx232_2 := xR HB hx232_2; replace hx232_3 := xR HB hx232_3; replace p232 := eq_true p232; replace q232 := eq_true q232
                      go_wp2_with (first | ((with_reducible refine gate_dst (N := 8) rfl ?_); (try (refine gate_guard (by rfl) ?_; dsimp only)); refine xG (cs := #[.int .i64 0, .int .i64 0, .int .i64 0, .int .i64 0]) (t := 74) ?_; intro gb233 hg w41 hbox hb; have BK233 := xm (hbox); have GW233 := xm (xZ HB hg); have GE233 := xm (xZ HB hg); have NB227_233 := xm (xN BK227 hg); have NB233_227 := xm (xM BK227 hg); replace BK227 := xm (xB BK227 hb); replace HB := xm (xS HB hb); clear hb hbox hg; have hnb42 := NB233_227.out; have hnc42 := NB227_233.out; have hcz43_0 := blkc4 BK233.out) | (go_at_call 29; (with_reducible refine (gamehallref1_In.calls ((rd_T74 ((rd_T62 l0 a1).f3) x50_3).f0) (-7) 7 true _ A28.out).mono ?_); rintro e w' ⟨rfl, ⟨nd, rfl⟩⟩; (try first | exact ⟨rfl, _, World.drewN_drewN _ _ _⟩ | exact ⟨rfl, _, Eq.trans (World.drewN_drewN _ _ _) (congrArg (World.drewN _) (Nat.add_assoc _ _ _))⟩)) | (go_at_call 29; (with_reducible refine (gamehallref1_In.calls ((rd_T74 ((rd_T62 l0 a1).f3) x50_3).f1) (-7) 7 true _ A30.out).mono ?_); rintro e w' ⟨rfl, ⟨nd, rfl⟩⟩; (try first | exact ⟨rfl, _, World.drewN_drewN _ _ _⟩ | exact ⟨rfl, _, Eq.trans (World.drewN_drewN _ _ _) (congrArg (World.drewN _) (Nat.add_assoc _ _ _))⟩)) | (go_at_call 29; (with_reducible refine (gamehallref1_In.calls ((rd_T74 ((rd_T62 l0 a1).f3) x50_3).f2) 1 7 true _ A37.out).mono ?_); rintro e w' ⟨rfl, ⟨nd, rfl⟩⟩; (try first | exact ⟨rfl, _, World.drewN_drewN _ _ _⟩ | exact ⟨rfl, _, Eq.trans (World.drewN_drewN _ _ _) (congrArg (World.drewN _) (Nat.add_assoc _ _ _))⟩)) | (go_at_call 29; (with_reducible refine (gamehallref1_In.calls ((rd_T74 ((rd_T62 l0 a1).f3) x50_3).f3) 0 2 true _ A39.out).mono ?_); rintro e w' ⟨rfl, ⟨nd, rfl⟩⟩; (try first | exact ⟨rfl, _, World.drewN_drewN _ _ _⟩ | exact ⟨rfl, _, Eq.trans (World.drewN_drewN _ _ _) (congrArg (World.drewN _) (Nat.add_assoc _ _ _))⟩)))
                      go_roundg k3
                      case measure => have := HK1.out; have := HJ14.out; have := HK3.out; omega
                      case rel => exact ⟨(wrap64 (x50_3 + 1)), (xrf), H', ⟨by have := HK1.out; have := HJ14.out; have := HK3.out; omega⟩, ⟨xK BK227⟩, ⟨xW HB⟩⟩
                     ·replace c40 := Bool.eq_false_iff.mpr c40
                      subst c40
                      rw [if_neg xF] at H
                      obtain rfl := Option.some.inj H
                      have p232 : 0 ≤ (x50_3 : Int) := xO
                      have q232 : x50_3 < (((rd_T62 l0 a1).f3).length : Int) := xO
                      obtain ⟨ad232, e232, hx232_0, hx232_1, hx232_2, hx232_3⟩ := at_T74 HR226_3.out x50_3 p232 q232
                      cases e232
                      replace hx232_0 := xR HB hx232_0; replace hx232_1 := xR HB hx232_1; replace hx232_2 := xR HB hx232_2; replace hx232_3 := xR HB hx232_3; replace p232 := eq_true p232; replace q232 := eq_true q232
                      go_wp2_with (first | ((with_reducible refine gate_dst (N := 8) rfl ?_); (try (refine gate_guard (by rfl) ?_; dsimp only)); refine xG (cs := #[.int .i64 0, .int .i64 0, .int .i64 0, .int .i64 0]) (t := 74) ?_; intro gb233 hg w44 hbox hb; have BK233 := xm (hbox); have GW233 := xm (xZ HB hg); have GE233 := xm (xZ HB hg); have NB227_233 := xm (xN BK227 hg); have NB233_227 := xm (xM BK227 hg); replace BK227 := xm (xB BK227 hb); replace HB := xm (xS HB hb); clear hb hbox hg; have hnb45 := NB233_227.out; have hnc45 := NB227_233.out; have hcz46_0 := blkc4 BK233.out) | (go_at_call 29; (with_reducible refine (gamehallref1_In.calls ((rd_T74 ((rd_T62 l0 a1).f3) x50_3).f0) (-7) 7 true _ A28.out).mono ?_); rintro e w' ⟨rfl, ⟨nd, rfl⟩⟩; (try first | exact ⟨rfl, _, World.drewN_drewN _ _ _⟩ | exact ⟨rfl, _, Eq.trans (World.drewN_drewN _ _ _) (congrArg (World.drewN _) (Nat.add_assoc _ _ _))⟩)) | (go_at_call 29; (with_reducible refine (gamehallref1_In.calls ((rd_T74 ((rd_T62 l0 a1).f3) x50_3).f1) (-7) 7 true _ A30.out).mono ?_); rintro e w' ⟨rfl, ⟨nd, rfl⟩⟩; (try first | exact ⟨rfl, _, World.drewN_drewN _ _ _⟩ | exact ⟨rfl, _, Eq.trans (World.drewN_drewN _ _ _) (congrArg (World.drewN _) (Nat.add_assoc _ _ _))⟩)) | (go_at_call 29; (with_reducible refine (gamehallref1_In.calls ((rd_T74 ((rd_T62 l0 a1).f3) x50_3).f2) 1 7 true _ A37.out).mono ?_); rintro e w' ⟨rfl, ⟨nd, rfl⟩⟩; (try first | exact ⟨rfl, _, World.drewN_drewN _ _ _⟩ | exact ⟨rfl, _, Eq.trans (World.drewN_drewN _ _ _) (congrArg (World.drewN _) (Nat.add_assoc _ _ _))⟩)) | (go_at_call 29; (with_reducible refine (gamehallref1_In.calls ((rd_T74 ((rd_T62 l0 a1).f3) x50_3).f3) 0 2 false _ A39.out).mono ?_); rintro e w' ⟨rfl, ⟨nd, rfl⟩⟩; (try first | exact ⟨rfl, _, World.drewN_drewN _ _ _⟩ | exact ⟨rfl, _, Eq.trans (World.drewN_drewN _ _ _) (congrArg (World.drewN _) (Nat.add_assoc _ _ _))⟩)))
                      go_ret
                      exact ⟨xer, xW HB⟩
                    ·replace c38 := Bool.eq_false_iff.mpr c38
                     subst c38
                     rw [if_neg xF] at H
                     obtain rfl := Option.some.inj H
                     have p232 : 0 ≤ (x50_3 : Int) := xO
                     have q232 : x50_3 < (((rd_T62 l0 a1).f3).length : Int) := xO
                     obtain ⟨ad232, e232, hx232_0, hx232_1, hx232_2, hx232_3⟩ := at_T74 HR226_3.out x50_3 p232 q232
                     cases e232
                     replace hx232_0 := xR HB hx232_0; replace hx232_1 := xR HB hx232_1; replace hx232_2 := xR HB hx232_2; replace hx232_3 := xR HB hx232_3; replace p232 := eq_true p232; replace q232 := eq_true q232
                     go_wp2_with (first | ((with_reducible refine gate_dst (N := 8) rfl ?_); (try (refine gate_guard (by rfl) ?_; dsimp only)); refine xG (cs := #[.int .i64 0, .int .i64 0, .int .i64 0, .int .i64 0]) (t := 74) ?_; intro gb233 hg w47 hbox hb; have BK233 := xm (hbox); have GW233 := xm (xZ HB hg); have GE233 := xm (xZ HB hg); have NB227_233 := xm (xN BK227 hg); have NB233_227 := xm (xM BK227 hg); replace BK227 := xm (xB BK227 hb); replace HB := xm (xS HB hb); clear hb hbox hg; have hnb48 := NB233_227.out; have hnc48 := NB227_233.out; have hcz49_0 := blkc4 BK233.out) | (go_at_call 29; (with_reducible refine (gamehallref1_In.calls ((rd_T74 ((rd_T62 l0 a1).f3) x50_3).f0) (-7) 7 true _ A28.out).mono ?_); rintro e w' ⟨rfl, ⟨nd, rfl⟩⟩; (try first | exact ⟨rfl, _, World.drewN_drewN _ _ _⟩ | exact ⟨rfl, _, Eq.trans (World.drewN_drewN _ _ _) (congrArg (World.drewN _) (Nat.add_assoc _ _ _))⟩)) | (go_at_call 29; (with_reducible refine (gamehallref1_In.calls ((rd_T74 ((rd_T62 l0 a1).f3) x50_3).f1) (-7) 7 true _ A30.out).mono ?_); rintro e w' ⟨rfl, ⟨nd, rfl⟩⟩; (try first | exact ⟨rfl, _, World.drewN_drewN _ _ _⟩ | exact ⟨rfl, _, Eq.trans (World.drewN_drewN _ _ _) (congrArg (World.drewN _) (Nat.add_assoc _ _ _))⟩)) | (go_at_call 29; (with_reducible refine (gamehallref1_In.calls ((rd_T74 ((rd_T62 l0 a1).f3) x50_3).f2) 1 7 false _ A37.out).mono ?_); rintro e w' ⟨rfl, ⟨nd, rfl⟩⟩; (try first | exact ⟨rfl, _, World.drewN_drewN _ _ _⟩ | exact ⟨rfl, _, Eq.trans (World.drewN_drewN _ _ _) (congrArg (World.drewN _) (Nat.add_assoc _ _ _))⟩)))
                     go_ret
                     exact ⟨xer, xW HB⟩
                  ·rw [if_neg c32] at H
                   have c32b0 := beq_eq_false_iff_ne.mpr c32
                   have c32b1 := bne_iff_ne.mpr c32
                   replace H := Option.bind_eq_some_iff.mp H
                   obtain ⟨t238, A500, H⟩ := H
                   try dsimp only at H
                   have A50 := xm A500; clear A500
                   by_cases c51 : t238 = true
                   ·subst c51
                    rw [if_pos rfl] at H
                    replace H := Option.bind_eq_some_iff.mp H
                    obtain ⟨t239, A520, H⟩ := H
                    try dsimp only at H
                    have A52 := xm A520; clear A520
                    by_cases c53 : t239 = true
                    ·subst c53
                     rw [if_pos rfl] at H
                     have H' := xm H
                     clear H
                     have p232 : 0 ≤ (x50_3 : Int) := xO
                     have q232 : x50_3 < (((rd_T62 l0 a1).f3).length : Int) := xO
                     obtain ⟨ad232, e232, hx232_0, hx232_1, hx232_2, hx232_3⟩ := at_T74 HR226_3.out x50_3 p232 q232
                     cases e232
                     replace hx232_0 := xR HB hx232_0; replace hx232_1 := xR HB hx232_1; replace hx232_2 := xR HB hx232_2; replace hx232_3 := xR HB hx232_3; replace p232 := eq_true p232; replace q232 := eq_true q232
                     go_wp2_with (first | ((with_reducible refine gate_dst (N := 8) rfl ?_); (try (refine gate_guard (by rfl) ?_; dsimp only)); refine xG (cs := #[.int .i64 0, .int .i64 0, .int .i64 0, .int .i64 0]) (t := 74) ?_; intro gb233 hg w54 hbox hb; have BK233 := xm (hbox); have GW233 := xm (xZ HB hg); have GE233 := xm (xZ HB hg); have NB227_233 := xm (xN BK227 hg); have NB233_227 := xm (xM BK227 hg); replace BK227 := xm (xB BK227 hb); replace HB := xm (xS HB hb); clear hb hbox hg; have hnb55 := NB233_227.out; have hnc55 := NB227_233.out; have hcz56_0 := blkc4 BK233.out) | (go_at_call 29; (with_reducible refine (gamehallref1_In.calls ((rd_T74 ((rd_T62 l0 a1).f3) x50_3).f0) (-7) 7 true _ A28.out).mono ?_); rintro e w' ⟨rfl, ⟨nd, rfl⟩⟩; (try first | exact ⟨rfl, _, World.drewN_drewN _ _ _⟩ | exact ⟨rfl, _, Eq.trans (World.drewN_drewN _ _ _) (congrArg (World.drewN _) (Nat.add_assoc _ _ _))⟩)) | (go_at_call 29; (with_reducible refine (gamehallref1_In.calls ((rd_T74 ((rd_T62 l0 a1).f3) x50_3).f1) (-7) 7 true _ A30.out).mono ?_); rintro e w' ⟨rfl, ⟨nd, rfl⟩⟩; (try first | exact ⟨rfl, _, World.drewN_drewN _ _ _⟩ | exact ⟨rfl, _, Eq.trans (World.drewN_drewN _ _ _) (congrArg (World.drewN _) (Nat.add_assoc _ _ _))⟩)) | (go_at_call 29; (with_reducible refine (gamehallref1_In.calls ((rd_T74 ((rd_T62 l0 a1).f3) x50_3).f2) 1 7 true _ A50.out).mono ?_); rintro e w' ⟨rfl, ⟨nd, rfl⟩⟩; (try first | exact ⟨rfl, _, World.drewN_drewN _ _ _⟩ | exact ⟨rfl, _, Eq.trans (World.drewN_drewN _ _ _) (congrArg (World.drewN _) (Nat.add_assoc _ _ _))⟩)) | (go_at_call 29; (with_reducible refine (gamehallref1_In.calls ((rd_T74 ((rd_T62 l0 a1).f3) x50_3).f3) 0 2 true _ A52.out).mono ?_); rintro e w' ⟨rfl, ⟨nd, rfl⟩⟩; (try first | exact ⟨rfl, _, World.drewN_drewN _ _ _⟩ | exact ⟨rfl, _, Eq.trans (World.drewN_drewN _ _ _) (congrArg (World.drewN _) (Nat.add_assoc _ _ _))⟩)))
                     go_roundg k3
                     case measure => have := HK1.out; have := HJ14.out; have := HK3.out; omega
                     case rel => exact ⟨(wrap64 (x50_3 + 1)), (xrf), H', ⟨by have := HK1.out; have := HJ14.out; have := HK3.out; omega⟩, ⟨xK BK227⟩, ⟨xW HB⟩⟩
                    ·replace c53 := Bool.eq_false_iff.mpr c53
                     subst c53
                     rw [if_neg xF] at H
                     obtain rfl := Option.some.inj H
                     have p232 : 0 ≤ (x50_3 : Int) := xO
                     have q232 : x50_3 < (((rd_T62 l0 a1).f3).length : Int) := xO
                     obtain ⟨ad232, e232, hx232_0, hx232_1, hx232_2, hx232_3⟩ := at_T74 HR226_3.out x50_3 p232 q232
                     cases e232
                     replace hx232_0 := xR HB hx232_0; replace hx232_1 := xR HB hx232_1; replace hx232_2 := xR HB hx232_2; replace hx232_3 := xR HB hx232_3; replace p232 := eq_true p232; replace q232 := eq_true q232
                     go_wp2_with (first | ((with_reducible refine gate_dst (N := 8) rfl ?_); (try (refine gate_guard (by rfl) ?_; dsimp only)); refine xG (cs := #[.int .i64 0, .int .i64 0, .int .i64 0, .int .i64 0]) (t := 74) ?_; intro gb233 hg w57 hbox hb; have BK233 := xm (hbox); have GW233 := xm (xZ HB hg); have GE233 := xm (xZ HB hg); have NB227_233 := xm (xN BK227 hg); have NB233_227 := xm (xM BK227 hg); replace BK227 := xm (xB BK227 hb); replace HB := xm (xS HB hb); clear hb hbox hg; have hnb58 := NB233_227.out; have hnc58 := NB227_233.out; have hcz59_0 := blkc4 BK233.out) | (go_at_call 29; (with_reducible refine (gamehallref1_In.calls ((rd_T74 ((rd_T62 l0 a1).f3) x50_3).f0) (-7) 7 true _ A28.out).mono ?_); rintro e w' ⟨rfl, ⟨nd, rfl⟩⟩; (try first | exact ⟨rfl, _, World.drewN_drewN _ _ _⟩ | exact ⟨rfl, _, Eq.trans (World.drewN_drewN _ _ _) (congrArg (World.drewN _) (Nat.add_assoc _ _ _))⟩)) | (go_at_call 29; (with_reducible refine (gamehallref1_In.calls ((rd_T74 ((rd_T62 l0 a1).f3) x50_3).f1) (-7) 7 true _ A30.out).mono ?_); rintro e w' ⟨rfl, ⟨nd, rfl⟩⟩; (try first | exact ⟨rfl, _, World.drewN_drewN _ _ _⟩ | exact ⟨rfl, _, Eq.trans (World.drewN_drewN _ _ _) (congrArg (World.drewN _) (Nat.add_assoc _ _ _))⟩)) | (go_at_call 29; (with_reducible refine (gamehallref1_In.calls ((rd_T74 ((rd_T62 l0 a1).f3) x50_3).f2) 1 7 true _ A50.out).mono ?_); rintro e w' ⟨rfl, ⟨nd, rfl⟩⟩; (try first | exact ⟨rfl, _, World.drewN_drewN _ _ _⟩ | exact ⟨rfl, _, Eq.trans (World.drewN_drewN _ _ _) (congrArg (World.drewN _) (Nat.add_assoc _ _ _))⟩)) | (go_at_call 29; (with_reducible refine (gamehallref1_In.calls ((rd_T74 ((rd_T62 l0 a1).f3) x50_3).f3) 0 2 false _ A52.out).mono ?_); rintro e w' ⟨rfl, ⟨nd, rfl⟩⟩; (try first | exact ⟨rfl, _, World.drewN_drewN _ _ _⟩ | exact ⟨rfl, _, Eq.trans (World.drewN_drewN _ _ _) (congrArg (World.drewN _) (Nat.add_assoc _ _ _))⟩)))
                     go_ret
                     exact ⟨xer, xW HB⟩
                   ·replace c51 := Bool.eq_false_iff.mpr c51
                    subst c51
                    rw [if_neg xF] at H
                    obtain rfl := Option.some.inj H
                    have p232 : 0 ≤ (x50_3 : Int) := xO
                    have q232 : x50_3 < (((rd_T62 l0 a1).f3).length : Int) := xO
                    obtain ⟨ad232, e232, hx232_0, hx232_1, hx232_2, hx232_3⟩ := at_T74 HR226_3.out x50_3 p232 q232
                    cases e232
                    replace hx232_0 := xR HB hx232_0; replace hx232_1 := xR HB hx232_1; replace hx232_2 := xR HB hx232_2; replace hx232_3 := xR HB hx232_3; replace p232 := eq_true p232; replace q232 := eq_true q232
                    go_wp2_with (first | ((with_reducible refine gate_dst (N := 8) rfl ?_); (try (refine gate_guard (by rfl) ?_; dsimp only)); refine xG (cs := #[.int .i64 0, .int .i64 0, .int .i64 0, .int .i64 0]) (t := 74) ?_; intro gb233 hg w60 hbox hb; have BK233 := xm (hbox); have GW233 := xm (xZ HB hg); have GE233 := xm (xZ HB hg); have NB227_233 := xm (xN BK227 hg); have NB233_227 := xm (xM BK227 hg); replace BK227 := xm (xB BK227 hb); replace HB := xm (xS HB hb); clear hb hbox hg; have hnb61 := NB233_227.out; have hnc61 := NB227_233.out; have hcz62_0 := blkc4 BK233.out) | (go_at_call 29; (with_reducible refine (gamehallref1_In.calls ((rd_T74 ((rd_T62 l0 a1).f3) x50_3).f0) (-7) 7 true _ A28.out).mono ?_); rintro e w' ⟨rfl, ⟨nd, rfl⟩⟩; (try first | exact ⟨rfl, _, World.drewN_drewN _ _ _⟩ | exact ⟨rfl, _, Eq.trans (World.drewN_drewN _ _ _) (congrArg (World.drewN _) (Nat.add_assoc _ _ _))⟩)) | (go_at_call 29; (with_reducible refine (gamehallref1_In.calls ((rd_T74 ((rd_T62 l0 a1).f3) x50_3).f1) (-7) 7 true _ A30.out).mono ?_); rintro e w' ⟨rfl, ⟨nd, rfl⟩⟩; (try first | exact ⟨rfl, _, World.drewN_drewN _ _ _⟩ | exact ⟨rfl, _, Eq.trans (World.drewN_drewN _ _ _) (congrArg (World.drewN _) (Nat.add_assoc _ _ _))⟩)) | (go_at_call 29; (with_reducible refine (gamehallref1_In.calls ((rd_T74 ((rd_T62 l0 a1).f3) x50_3).f2) 1 7 false _ A50.out).mono ?_); rintro e w' ⟨rfl, ⟨nd, rfl⟩⟩; (try first | exact ⟨rfl, _, World.drewN_drewN _ _ _⟩ | exact ⟨rfl, _, Eq.trans (World.drewN_drewN _ _ _) (congrArg (World.drewN _) (Nat.add_assoc _ _ _))⟩)))
                    go_ret
                    exact ⟨xer, xW HB⟩
                 ·replace c31 := Bool.eq_false_iff.mpr c31
                  subst c31
                  rw [if_neg xF] at H
                  obtain rfl := Option.some.inj H
                  have p232 : 0 ≤ (x50_3 : Int) := xO
                  have q232 : x50_3 < (((rd_T62 l0 a1).f3).length : Int) := xO
                  obtain ⟨ad232, e232, hx232_0, hx232_1, hx232_2, hx232_3⟩ := at_T74 HR226_3.out x50_3 p232 q232
                  cases e232
                  replace hx232_0 := xR HB hx232_0; replace hx232_1 := xR HB hx232_1; replace hx232_2 := xR HB hx232_2; replace hx232_3 := xR HB hx232_3; replace p232 := eq_true p232; replace q232 := eq_true q232
                  go_wp2_with (first | ((with_reducible refine gate_dst (N := 8) rfl ?_); (try (refine gate_guard (by rfl) ?_; dsimp only)); refine xG (cs := #[.int .i64 0, .int .i64 0, .int .i64 0, .int .i64 0]) (t := 74) ?_; intro gb233 hg w63 hbox hb; have BK233 := xm (hbox); have GW233 := xm (xZ HB hg); have GE233 := xm (xZ HB hg); have NB227_233 := xm (xN BK227 hg); have NB233_227 := xm (xM BK227 hg); replace BK227 := xm (xB BK227 hb); replace HB := xm (xS HB hb); clear hb hbox hg; have hnb64 := NB233_227.out; have hnc64 := NB227_233.out; have hcz65_0 := blkc4 BK233.out) | (go_at_call 29; (with_reducible refine (gamehallref1_In.calls ((rd_T74 ((rd_T62 l0 a1).f3) x50_3).f0) (-7) 7 true _ A28.out).mono ?_); rintro e w' ⟨rfl, ⟨nd, rfl⟩⟩; (try first | exact ⟨rfl, _, World.drewN_drewN _ _ _⟩ | exact ⟨rfl, _, Eq.trans (World.drewN_drewN _ _ _) (congrArg (World.drewN _) (Nat.add_assoc _ _ _))⟩)) | (go_at_call 29; (with_reducible refine (gamehallref1_In.calls ((rd_T74 ((rd_T62 l0 a1).f3) x50_3).f1) (-7) 7 false _ A30.out).mono ?_); rintro e w' ⟨rfl, ⟨nd, rfl⟩⟩; (try first | exact ⟨rfl, _, World.drewN_drewN _ _ _⟩ | exact ⟨rfl, _, Eq.trans (World.drewN_drewN _ _ _) (congrArg (World.drewN _) (Nat.add_assoc _ _ _))⟩)))
                  go_ret
                  exact ⟨xer, xW HB⟩
                ·replace c29 := Bool.eq_false_iff.mpr c29
                 subst c29
                 rw [if_neg xF] at H
                 obtain rfl := Option.some.inj H
                 have p232 : 0 ≤ (x50_3 : Int) := xO
                 have q232 : x50_3 < (((rd_T62 l0 a1).f3).length : Int) := xO
                 obtain ⟨ad232, e232, hx232_0, hx232_1, hx232_2, hx232_3⟩ := at_T74 HR226_3.out x50_3 p232 q232
                 cases e232
                 replace hx232_0 := xR HB hx232_0; replace hx232_1 := xR HB hx232_1; replace hx232_2 := xR HB hx232_2; replace hx232_3 := xR HB hx232_3; replace p232 := eq_true p232; replace q232 := eq_true q232
                 go_wp2_with (first | ((with_reducible refine gate_dst (N := 8) rfl ?_); (try (refine gate_guard (by rfl) ?_; dsimp only)); refine xG (cs := #[.int .i64 0, .int .i64 0, .int .i64 0, .int .i64 0]) (t := 74) ?_; intro gb233 hg w66 hbox hb; have BK233 := xm (hbox); have GW233 := xm (xZ HB hg); have GE233 := xm (xZ HB hg); have NB227_233 := xm (xN BK227 hg); have NB233_227 := xm (xM BK227 hg); replace BK227 := xm (xB BK227 hb); replace HB := xm (xS HB hb); clear hb hbox hg; have hnb67 := NB233_227.out; have hnc67 := NB227_233.out; have hcz68_0 := blkc4 BK233.out) | (go_at_call 29; (with_reducible refine (gamehallref1_In.calls ((rd_T74 ((rd_T62 l0 a1).f3) x50_3).f0) (-7) 7 false _ A28.out).mono ?_); rintro e w' ⟨rfl, ⟨nd, rfl⟩⟩; (try first | exact ⟨rfl, _, World.drewN_drewN _ _ _⟩ | exact ⟨rfl, _, Eq.trans (World.drewN_drewN _ _ _) (congrArg (World.drewN _) (Nat.add_assoc _ _ _))⟩)))
                 go_ret
                 exact ⟨xer, xW HB⟩
               ·rw [if_neg c27] at H
                exact absurd H (by simp)
              ·rw [if_neg c26] at H
               exact absurd H (by simp)
             ·rw [if_neg c25] at H
              have c25b0 := decide_eq_false c25
              clear c25
              obtain rfl := Option.some.inj H
              go_wp2
              go_ret
              exact ⟨xer, xW HB⟩
   ·replace c6 := Bool.eq_false_iff.mpr c6
    subst c6
    rw [if_neg xF] at H
    obtain rfl := Option.some.inj H
    have p226 : 0 ≤ (a1 : Int) := xO
    have q226 : a1 < (l0.length : Int) := xO
    obtain ⟨ad226, A226_3, c226_3, e226, hx226_0, hx226_1, hx226_2, hx226_3, hl226_3, hi226_3⟩ := at_T62 HR0.out a1 p226 q226
    cases e226
    have HR226_3 := xm hi226_3; have HC226_3 := xm hl226_3; clear hi226_3 hl226_3; replace p226 := eq_true p226; replace q226 := eq_true q226
    go_enter Try.func46, Try.ntmps46
    go_wp2_with (first | ((with_reducible refine gate_dst (N := 5) rfl ?_); (try (refine gate_guard (by rfl) ?_; dsimp only)); refine xG (cs := #[.int .u8 0, .int .i64 0, .int .i64 0, .slice none 0 0]) (t := 62) ?_; intro gb227 hg w69 hbox hb; have BK227 := xm (hbox); have GW227 := xm (xZ HB hg); have GE227 := xm (xZ HB hg); replace HB := xm (xS HB hb); clear hb hbox hg; have hcz70_0 := blkc4 BK227.out) | (go_at_call 29; (with_reducible refine (gamehallref1_In.calls (wrap64 ((rd_T62 l0 a1).f0)) 65 90 false _ A5.out).mono ?_); rintro e w' ⟨rfl, ⟨nd, rfl⟩⟩; (try first | exact ⟨rfl, _, World.drewN_drewN _ _ _⟩ | exact ⟨rfl, _, Eq.trans (World.drewN_drewN _ _ _) (congrArg (World.drewN _) (Nat.add_assoc _ _ _))⟩)))
    go_ret
    exact ⟨xer, xW HB⟩
  ·rw [if_neg c4] at H
   exact absurd H (by simp)
 ·rw [if_neg c3] at H
  exact absurd H (by simp)

end Go.Proofs.Ytloadbbndnmdlaa.PEndsOf
