-- Printed by a program of this claim's writer (wip/ext): an extension of the kit's print.
import Derived.Test.YtcncilipmekfhaaDoorPRatingMovesx0
import Derived.Test.YtcncilipmekfhaaDoorPRatingMovesx1
namespace Go.Proofs.YtcncilipmekfhaaDoor.PRatingMoves
open Go.RowKit Go.Proofs.YtcncilipmekfhaaDoorW.PrintWords Go.Proofs.YtcncilipmekfhaaDoorW.PrintLast Go.Proofs.YtcncilipmekfhaaDoorW.PrintMore
attribute [local go_sem] max2_int min2_int max_two min_two max_three min_three max_four min_four   -- for this text's walks alone
set_option linter.unusedVariables false
set_option linter.unusedSimpArgs false

/-! ### rating_Game: function 17 -/
def rating_Game.j0 : Nat → List Int → Int → Bool → Int → Int → Int → Option (List Int × Int)
  | 0, _, _, _, _, _, _ => none
  | k + 1, x0, x2, x39, z131a, z131b, z131c => if x39 = true then (some (([] : List Int), 3)) else (if 0 ≤ z131a then (if z131a < (x0.length : Int) then (if 0 ≤ z131b then (if z131b < (x0.length : Int) then ((rating_Change.f k (rd x0 z131a) (rd x0 z131b) z131c x2).bind fun bt134 => (if bt134.2 = 0 then ((some (([] : List Int) : List Int)).bind fun y140 => (if y140.length + x0.length < 17592186044416 then ((some (y140 ++ x0 : List Int)).bind fun y143 => (if z131a < (y143.length : Int) then ((some (y143.set (z131a : Int).toNat (wrap64 ((rd y143 z131a) + (mx (mx (mn (mn bt134.1 (wrap64 (1000000 - (rd x0 z131a)))) (wrap64 ((rd x0 z131b) + 1000000))) (wrap64 ((-1000000) - (rd x0 z131a)))) (wrap64 ((rd x0 z131b) - 1000000))))) : List Int)).bind fun y147 => (if z131b < (y143.length : Int) then (some ((y147.set (z131b : Int).toNat (wrap64 ((rd y147 z131b) - (mx (mx (mn (mn bt134.1 (wrap64 (1000000 - (rd x0 z131a)))) (wrap64 ((rd x0 z131b) + 1000000))) (wrap64 ((-1000000) - (rd x0 z131a)))) (wrap64 ((rd x0 z131b) - 1000000)))))), 0)) else (none))) else (none))) else (none))) else (some (([] : List Int), bt134.2)))) else (none)) else (none)) else (none)) else (none))
def rating_Game.f (k : Nat) (l0 : List Int) (a1_0 : Int) (a1_1 : Int) (a1_2 : Int) (a2 : Int) : Option (List Int × Int) := (rating_Check.f k l0).bind fun t131 => (if t131 = 0 then (if (mn a1_0 a1_1) < 0 then (rating_Game.j0 k l0 a2 true a1_0 a1_1 a1_2) else (if (mx a1_0 a1_1) ≥ (l0.length : Int) then (rating_Game.j0 k l0 a2 true a1_0 a1_1 a1_2) else (rating_Game.j0 k l0 a2 (a1_0 == a1_1) a1_0 a1_1 a1_2))) else (some (([] : List Int), t131)))
theorem rating_Game.mono_l : ∀ k, (∀ y0 y1 y2 y3 y4 y5, LeO (rating_Game.j0 k y0 y1 y2 y3 y4 y5) (rating_Game.j0 (k + 1) y0 y1 y2 y3 y4 y5))
  | 0 => fun _ _ _ _ _ _ r h => by simp [rating_Game.j0] at h
  | k + 1 => by
    have ih0 := rating_Game.mono_l k
    · intros
      unfold rating_Game.j0
      repeat' first
      | (with_reducible apply ih0)
      | (with_reducible apply rating_Change.mono)
      | (with_reducible apply rating_Check.mono)
      | (with_reducible exact LeO.refl _)
      | (with_reducible exact LeO.none _)
      | (with_reducible refine LeO.ite ?_ ?_)
      | (with_reducible refine LeO.bind ?_ (fun _ => ?_))
      | apply ih0
      | apply rating_Change.mono
      | apply rating_Check.mono
      | exact LeO.none _
      | refine LeO.ite ?_ ?_
      | refine LeO.bind ?_ (fun _ => ?_)
theorem rating_Game.mono : ∀ a0 a1 a2 a3 a4 k, LeO (rating_Game.f k a0 a1 a2 a3 a4) (rating_Game.f (k + 1) a0 a1 a2 a3 a4) := by
  intro a0 a1 a2 a3 a4 k
  have ih0 := rating_Game.mono_l k
  unfold rating_Game.f
  repeat' first
      | (with_reducible apply ih0)
      | (with_reducible apply rating_Change.mono)
      | (with_reducible apply rating_Check.mono)
      | (with_reducible exact LeO.refl _)
      | (with_reducible exact LeO.none _)
      | (with_reducible refine LeO.ite ?_ ?_)
      | (with_reducible refine LeO.bind ?_ (fun _ => ?_))
      | apply ih0
      | apply rating_Change.mono
      | apply rating_Check.mono
      | exact LeO.none _
      | refine LeO.ite ?_ ?_
      | refine LeO.bind ?_ (fun _ => ?_)
def rating_Game.T6 : Bool × List (List Nat × List Nat) := (true, [([], []), ([], []), ([1], [1]), ([0, 2], [0, 2]), ([3], [3]), ([], []), ([], []), ([6], [6]), ([5, 7], [5, 7]), ([8], [8]), ([], []), ([10], [10]), ([], []), ([4, 9, 11, 12], [4, 9, 11, 12]), ([13], [13]), ([14], [14]), ([14], [14]), ([15, 13, 0, 1, 2, 3, 4, 5, 6, 7, 8, 9, 10, 11, 12, 13, 14, 15], [15]), ([16, 17, 0, 1, 2, 3, 4, 5, 6, 7, 8, 9, 10, 11, 12, 13, 14, 15, 16, 17], [16])])
def rating_Game.B6 : List Nat := [0, 0, 2, 7, 15, 0, 0, 64, 224, 480, 0, 1024, 0, 8191, 16383, 32767, 32767, 65535, 262143]
theorem rating_Game.tab6 : rtab .any (opsOf Tryd.f17 6) = rating_Game.T6 := by kernel_rfl
theorem rating_Game.bits6 : waitsOk rating_Game.T6.2 rating_Game.B6 = true := by kernel_rfl
def rating_Game.T9 : Bool × List (List Nat × List Nat) := (true, [([], []), ([], []), ([], []), ([2], [2]), ([1, 3], [1, 3]), ([4], [4]), ([5], [5]), ([], []), ([], []), ([8], [8]), ([7, 9], [7, 9]), ([10], [10]), ([11], [11]), ([0, 6, 12], [0, 6, 12]), ([13, 0, 1, 2, 3, 4, 5, 6, 7, 8, 9, 10, 11, 12, 13], [0, 13])])
def rating_Game.B9 : List Nat := [0, 0, 0, 4, 14, 30, 62, 0, 0, 256, 896, 1920, 3968, 8191, 16383]
theorem rating_Game.tab9 : rtab .any (opsOf Tryd.f17 9) = rating_Game.T9 := by kernel_rfl
theorem rating_Game.bits9 : waitsOk rating_Game.T9.2 rating_Game.B9 = true := by kernel_rfl
def rating_Game.T10 : Bool × List (List Nat × List Nat) := (true, [([], []), ([], []), ([], []), ([2], [2]), ([1, 3], [1, 3]), ([4], [4]), ([5], [5]), ([], []), ([], []), ([8], [8]), ([7, 9], [7, 9]), ([10], [10]), ([11], [11]), ([0, 6, 12], [0, 6, 12]), ([13, 0, 1, 2, 3, 4, 5, 6, 7, 8, 9, 10, 11, 12, 13], [0, 13])])
def rating_Game.B10 : List Nat := [0, 0, 0, 4, 14, 30, 62, 0, 0, 256, 896, 1920, 3968, 8191, 16383]
theorem rating_Game.tab10 : rtab .any (opsOf Tryd.f17 10) = rating_Game.T10 := by kernel_rfl
theorem rating_Game.bits10 : waitsOk rating_Game.T10.2 rating_Game.B10 = true := by kernel_rfl
set_option maxHeartbeats 8000000 in
set_option maxRecDepth 100000 in
theorem rating_Game.calls (k : Nat) (A0 : Option Addr) (c0 : Nat) (l0 : List Int) (a1_0 : Int) (a1_1 : Int) (a1_2 : Int) (a2 : Int) (r1 : List Int) (r2 : Int) (w : World) (hr0 : Kd.C (Kd.int .i64) w A0 l0.length l0) (hc0 : l0.length ≤ c0) (h : rating_Game.f k l0 a1_0 a1_1 a1_2 a2 = some (r1, r2)) (hlaid : LaidS w) :
    Calls Tryd.prog 17 #[.slice A0 l0.length c0, .agg #[.int .i64 a1_0, .int .i64 a1_1, .int .i64 a1_2], .int .i64 a2] w fun e w' => ∃ v0_ : Value, e = .returned (.tuple #[v0_, .int .i64 r2]) ∧ Kd.R (Kd.int .i64) 3 w' w.heap.size (fun _ => True) v0_ r1 ∧ Below w.heap.size w w' := by
 have hu41 := Tryd.underlying41; have HR0 := Aside0.mk hr0; have HC0 := Aside0.mk hc0; clear hr0 hc0; have HB := Aside0.mk (Below.refl w.heap.size w); have hss_ := @isSome_setCell
 have H : ((rating_Check.f k l0).bind fun t131 => (if t131 = 0 then (if (mn a1_0 a1_1) < 0 then (rating_Game.j0 k l0 a2 true a1_0 a1_1 a1_2) else (if (mx a1_0 a1_1) ≥ (l0.length : Int) then (rating_Game.j0 k l0 a2 true a1_0 a1_1 a1_2) else (rating_Game.j0 k l0 a2 (a1_0 == a1_1) a1_0 a1_1 a1_2))) else (some (([] : List Int), t131)))) = some (r1, r2) := h
 clear h; replace H := Option.bind_eq_some_iff.mp H
 obtain ⟨t131, A40, H⟩ := H
 try dsimp only at H
 have A4 := Aside0.mk A40; clear A40
 by_cases c5 : t131 = 0
 ·rw [if_pos c5] at H
  have c5b0 : (t131 == 0) = true := beq_iff_eq.mpr c5
  have c5b1 : (t131 != 0) = false := bne_eq_false_iff_eq.mpr c5
  clear c5; have HC6 := Aside0.mk H; clear H
  go_enter Tryd.func17, Tryd.ntmps17
  go_upto_region 4 with (first | ((with_reducible refine gate_dst (N := 4) rfl ?_); (try (refine gate_guard (by rfl) ?_; dsimp only)); refine box_event ?hg (N := 4) ?hd (cs := #[.int .i64 a1_0, .int .i64 a1_1, .int .i64 a1_2]) (t := 41) ?hr ?_; (case hd => rfl); (case hg => rfl); (case hr => first | (go_simp; done) | (go_simp; rfl)); intro gb130 hg w7 hbox hb; have BK130 := Aside0.mk (hbox); have GW130 := Aside0.mk (xZ HB hg); have GE130 := Aside0.mk (xZ HB hg); replace HB := Aside0.mk (xS HB hb); clear hb hbox hg) | ((with_reducible refine gate_callee (f := 16) rfl ?_); refine goesL_ (some 13) rfl rfl Tryd.func16 (by kernel_rfl) rfl #[.slice A0 l0.length c0] rfl (by (try simp only [List.map_toArray, List.map_cons, List.map_nil]); first | done | rfl | (simp only [List.length_drop, List.length_take]; rfl)) ?_; (with_reducible refine (rating_Check.calls k _ _ l0 t131 _ ?side1 ?side2 A4.out).mono ?_); (case side1 => exact xC (Kd.C_below HR0.out HB.out)); (case side2 => exact HC0.out); rintro e w' ⟨rfl, ⟨nd, rfl⟩⟩; refine ⟨_, rfl, ?_⟩))
  (try simp only [Act.put, List.setIfInBounds_toArray, List.set_cons_zero, List.set_cons_succ])
  go_cut [39] (fun vs39 wc => ∃ (kq : Nat) (x39_5 : Bool), vs39 = .bool x39_5 ∧ Aside0 (rating_Game.j0 kq l0 a2 x39_5 a1_0 a1_1 a1_2 = some (r1, r2)) ∧ Aside0 (kq ≤ k) ∧ Aside0 (wc.heap[gb130]? = some (.cells #[.int .i64 a1_0, .int .i64 a1_1, .int .i64 a1_2] 41 (0, 0))) ∧ Aside0 (Below w.heap.size w wc))
  case first =>
   have H := HC6.out; clear HC6
   obtain ⟨ji8, hji8⟩ : ∃ j_ : Int, (mn a1_0 a1_1) = j_ := ⟨_, rfl⟩
   (first | rw [hji8] at H | simp only [hji8] at H)
   have hji8_ : (if a1_1 < a1_0 then a1_1 else a1_0) = ji8 := hji8
   by_cases c9 : (ji8) < 0
   ·rw [if_pos c9] at H
    have c9b0 : decide ((ji8) < 0) = true := decide_eq_true c9
    clear c9
    (first | rw [c9b0] | (simp only [i64_w, i32_w]; rw [c9b0]) | skip)
    as_aux_lemma =>
     have H' := Aside0.mk H
     clear H; have hcz10_0 := blkc3 BK130.out
     go_wp2
     go_meet
     case rel => exact ⟨_, (true), (xrf), H', ⟨by first | omega | exact Nat.le_refl _⟩, ⟨xK BK130⟩, ⟨xW HB⟩⟩
   ·rw [if_neg c9] at H
    have c9b0 : decide ((ji8) < 0) = false := decide_eq_false c9
    clear c9
    (first | rw [c9b0] | (simp only [i64_w, i32_w]; rw [c9b0]) | skip)
    obtain ⟨ji11, hji11⟩ : ∃ j_ : Int, (mx a1_0 a1_1) = j_ := ⟨_, rfl⟩
    (first | rw [hji11] at H | simp only [hji11] at H)
    have hji11_ : (if a1_0 < a1_1 then a1_1 else a1_0) = ji11 := hji11
    by_cases c12 : (ji11) ≥ (l0.length : Int)
    ·rw [if_pos c12] at H
     have c12b0 : decide ((l0.length : Int) ≤ (ji11)) = true := decide_eq_true c12
     clear c12
     as_aux_lemma =>
      have H' := Aside0.mk H
      clear H; have hcz13_0 := blkc3 BK130.out
      go_wp2
      go_meet
      case rel => exact ⟨_, (true), (xrf), H', ⟨by first | omega | exact Nat.le_refl _⟩, ⟨xK BK130⟩, ⟨xW HB⟩⟩
    ·rw [if_neg c12] at H
     have c12b0 : decide ((l0.length : Int) ≤ (ji11)) = false := decide_eq_false c12
     clear c12
     as_aux_lemma =>
      have H' := Aside0.mk H
      clear H; have hcz14_0 := blkc3 BK130.out
      go_wp2
      go_meet
      case rel => exact ⟨_, ((a1_0 == a1_1)), (xrf), H', ⟨by first | omega | exact Nat.le_refl _⟩, ⟨xK BK130⟩, ⟨xW HB⟩⟩
  case rest =>
   clear HC6; (try clear p2)
   obtain ⟨kq, x39_5, rfl, HA, HJ5, BK130, HB⟩ := hcut
   cases kq with
   | zero => exact absurd HA.out (by simp [rating_Game.j0])
   | succ kj5 =>
    have H := HA.out; clear HA
    simp only [rating_Game.j0] at H
    by_cases c15 : x39_5 = true
    ·subst c15
     rw [if_pos rfl] at H
     as_aux_lemma =>
      simp only [Option.some.injEq, Prod.mk.injEq] at H
      obtain ⟨rfl, rfl⟩ := H
      go_wp2
      go_ret2
      exact ⟨_, xer, by first | exact Kd.R_nil _ _ _ _ _ | exact Kd.N_nil _ _ _ _ _ | exact Kd.V_nil _ _ _ _ _ | exact Kd.Q_nil _ _ _ _ _ | exact Kd.S_nil _ _ _ _ _, xW HB⟩
    ·replace c15 := Bool.eq_false_iff.mpr c15
     subst c15
     rw [if_neg (show ¬ (false = true) by decide)] at H
     by_cases c16 : 0 ≤ a1_0
     ·rw [if_pos c16] at H
      have c16b0 : decide (0 ≤ a1_0) = true := decide_eq_true c16
      clear c16
      by_cases c17 : a1_0 < (l0.length : Int)
      ·rw [if_pos c17] at H
       have c17b0 : decide (a1_0 < (l0.length : Int)) = true := decide_eq_true c17
       clear c17
       by_cases c18 : 0 ≤ a1_1
       ·rw [if_pos c18] at H
        have c18b0 : decide (0 ≤ a1_1) = true := decide_eq_true c18
        clear c18
        by_cases c19 : a1_1 < (l0.length : Int)
        ·rw [if_pos c19] at H
         have c19b0 : decide (a1_1 < (l0.length : Int)) = true := decide_eq_true c19
         clear c19; replace H := Option.bind_eq_some_iff.mp H
         obtain ⟨⟨t134, t135⟩, A200, H⟩ := H
         try dsimp only at H
         have A20 := Aside0.mk A200; clear A200
         by_cases c21 : t135 = 0
         ·rw [if_pos c21] at H
          have c21b0 : (t135 == 0) = true := beq_iff_eq.mpr c21
          have c21b1 : (t135 != 0) = false := bne_eq_false_iff_eq.mpr c21
          clear c21
          obtain ⟨ji22, hji22⟩ : ∃ j_ : Int, (mn t134 (wrap64 (1000000 - (rd l0 a1_0)))) = j_ := ⟨_, rfl⟩
          (first | rw [hji22] at H | simp only [hji22] at H)
          (try rw [hji22] at A20)
          have hji22_ : (if (wrap64 (1000000 - (rd l0 a1_0))) < t134 then (wrap64 (1000000 - (rd l0 a1_0))) else t134) = ji22 := hji22
          obtain ⟨ji23, hji23⟩ : ∃ j_ : Int, (mn (ji22) (wrap64 ((rd l0 a1_1) + 1000000))) = j_ := ⟨_, rfl⟩
          (first | rw [hji23] at H | simp only [hji23] at H)
          (try rw [hji23] at A20)
          have hji23_ : (if (wrap64 ((rd l0 a1_1) + 1000000)) < (ji22) then (wrap64 ((rd l0 a1_1) + 1000000)) else (ji22)) = ji23 := hji23
          obtain ⟨ji24, hji24⟩ : ∃ j_ : Int, (mx (ji23) (wrap64 ((-1000000) - (rd l0 a1_0)))) = j_ := ⟨_, rfl⟩
          (first | rw [hji24] at H | simp only [hji24] at H)
          (try rw [hji24] at A20)
          have hji24_ : (if (ji23) < (wrap64 ((-1000000) - (rd l0 a1_0))) then (wrap64 ((-1000000) - (rd l0 a1_0))) else (ji23)) = ji24 := hji24
          obtain ⟨ji25, hji25⟩ : ∃ j_ : Int, (mx (ji24) (wrap64 ((rd l0 a1_1) - 1000000))) = j_ := ⟨_, rfl⟩
          (first | rw [hji25] at H | simp only [hji25] at H)
          (try rw [hji25] at A20)
          have hji25_ : (if (ji24) < (wrap64 ((rd l0 a1_1) - 1000000)) then (wrap64 ((rd l0 a1_1) - 1000000)) else (ji24)) = ji25 := hji25
          obtain ⟨y140, hy140⟩ : ∃ y_ : List Int, y_ = (([] : List Int)) := ⟨_, rfl⟩
          replace H : (if y140.length + l0.length < 17592186044416 then ((some (y140 ++ l0 : List Int)).bind fun y143 => (if a1_0 < (y143.length : Int) then ((some (y143.set (a1_0 : Int).toNat (wrap64 ((rd y143 a1_0) + (ji25))) : List Int)).bind fun y147 => (if a1_1 < (y143.length : Int) then (some ((y147.set (a1_1 : Int).toNat (wrap64 ((rd y147 a1_1) - (ji25)))), 0)) else (none))) else (none))) else (none)) = some (r1, r2) := by first | (rw [hy140]; with_reducible exact H) | (have H2_ := (Option.bind_some _ _).symm.trans H; rw [hy140]; with_reducible exact H2_) | (have H2_ := (Option.bind_some _ _).symm.trans H; with_reducible exact H2_) | with_reducible exact H | (rw [hy140]; exact H) | exact H
          have Ny140 := Aside0.mk hy140; clear hy140
          by_cases c26 : y140.length + l0.length < 17592186044416
          ·rw [if_pos c26] at H
           have LMc26 := Aside0.mk c26; clear c26
           obtain ⟨y143, hy143⟩ : ∃ y_ : List Int, y_ = (y140 ++ l0) := ⟨_, rfl⟩
           replace H : (if a1_0 < (y143.length : Int) then ((some (y143.set (a1_0 : Int).toNat (wrap64 ((rd y143 a1_0) + (ji25))) : List Int)).bind fun y147 => (if a1_1 < (y143.length : Int) then (some ((y147.set (a1_1 : Int).toNat (wrap64 ((rd y147 a1_1) - (ji25)))), 0)) else (none))) else (none)) = some (r1, r2) := by first | (rw [hy143]; with_reducible exact H) | (have H2_ := (Option.bind_some _ _).symm.trans H; rw [hy143]; with_reducible exact H2_) | (have H2_ := (Option.bind_some _ _).symm.trans H; with_reducible exact H2_) | with_reducible exact H | (rw [hy143]; exact H) | exact H
           have Ny143 := Aside0.mk hy143; clear hy143
           by_cases c27 : a1_0 < (y143.length : Int)
           ·rw [if_pos c27] at H
            have c27b0 : decide (a1_0 < (y143.length : Int)) = true := decide_eq_true c27
            clear c27
            obtain ⟨y147, hy147⟩ : ∃ y_ : List Int, y_ = (y143.set (a1_0 : Int).toNat (wrap64 ((rd y143 a1_0) + (ji25)))) := ⟨_, rfl⟩
            replace H : (if a1_1 < (y143.length : Int) then (some ((y147.set (a1_1 : Int).toNat (wrap64 ((rd y147 a1_1) - (ji25)))), 0)) else (none)) = some (r1, r2) := by first | (rw [hy147]; with_reducible exact H) | (have H2_ := (Option.bind_some _ _).symm.trans H; rw [hy147]; with_reducible exact H2_) | (have H2_ := (Option.bind_some _ _).symm.trans H; with_reducible exact H2_) | with_reducible exact H | (rw [hy147]; exact H) | exact H
            have Ny147 := Aside0.mk hy147; clear hy147
            by_cases c29 : a1_1 < (y143.length : Int)
            ·rw [if_pos c29] at H
             have c29b0 : decide (a1_1 < (y143.length : Int)) = true := decide_eq_true c29
             clear c29
             obtain ⟨y149, hy149⟩ : ∃ y_ : List Int, y_ = (y147.set (a1_1 : Int).toNat (wrap64 ((rd y147 a1_1) - (ji25)))) := ⟨_, rfl⟩
             replace H : (some (y149, 0)) = some (r1, r2) := by first | (rw [hy149]; with_reducible exact H) | (have H2_ := (Option.bind_some _ _).symm.trans H; rw [hy149]; with_reducible exact H2_) | (have H2_ := (Option.bind_some _ _).symm.trans H; with_reducible exact H2_) | with_reducible exact H | (rw [hy149]; exact H) | exact H
             have Ny149 := Aside0.mk hy149; clear hy149
             as_aux_lemma =>
              simp only [Option.some.injEq, Prod.mk.injEq] at H
              obtain ⟨rfl, rfl⟩ := H
              try go_wp2
              replace BK130 := Aside0.mk (blk_drew BK130.out); replace HB := Aside0.mk (below_drew1 HB.out)
              have p132 : 0 ≤ (a1_0 : Int) := of_decide_eq_true (by first | (with_reducible assumption) | assumption)
              have q132 : a1_0 < (l0.length : Int) := of_decide_eq_true (by first | (with_reducible assumption) | assumption)
              obtain ⟨ad132, e132, hx132_0⟩ := Kd.at_int HR0.out a1_0 p132 q132
              have hw132_0 := hx132_0
              cases e132
              (first | replace hx132_0 := (HB.out.cell (World.block_lt_of_cell? w _ hx132_0)).trans hx132_0 | skip); replace p132 := eq_true p132; replace q132 := eq_true q132
              have p133 : 0 ≤ (a1_1 : Int) := of_decide_eq_true (by first | (with_reducible assumption) | assumption)
              have q133 : a1_1 < (l0.length : Int) := of_decide_eq_true (by first | (with_reducible assumption) | assumption)
              obtain ⟨ad133, e133, hx133_0⟩ := Kd.at_int HR0.out a1_1 p133 q133
              have hw133_0 := hx133_0
              obtain rfl : ad132 = ad133 := (by injection e133)
              (first | replace hx133_0 := (HB.out.cell (World.block_lt_of_cell? w _ hx133_0)).trans hx133_0 | skip); replace p133 := eq_true p133; replace q133 := eq_true q133
              refine start_ (n := 19) (S := fun w' => ce w' gb130 0 (.int .i64 a1_0) ∧ ce w' gb130 1 (.int .i64 a1_1) ∧ ce w' gb130 2 (.int .i64 a1_2) ∧ w'.cell? (ad132.add (a1_0).toNat) = some (.int .i64 (rd l0 a1_0)) ∧ w'.cell? (ad132.add (a1_1).toNat) = some (.int .i64 (rd l0 a1_1))) (ds := []) (mk 19 0) (by kernel_rfl) rfl rfl ⟨xc BK130 0, xc BK130 1, xc BK130 2, ((HB.out.cell (World.block_lt_of_cell? w _ hw132_0)).trans hw132_0), ((HB.out.cell (World.block_lt_of_cell? w _ hw133_0)).trans hw133_0)⟩ (fun hHeld => ?_); refine with_tabW rating_Game.tab6 rating_Game.bits6 (fun HT_ HW_ => ?_)
              generalize wc.drew = w31 at BK130 HB hx132_0 hx133_0 hHeld ⊢; refine pu_ 0 41 HT_ ?_; refine pu_ 1 42 HT_ ?_; refine pu_ 5 46 HT_ ?_; refine pu_ 6 47 HT_ ?_; refine pu_ 10 51 HT_ ?_; refine pu_ 12 53 HT_ ?_; refine tk_ 2 43 HT_ HW_ hHeld ?_; refine pu_ 3 44 HT_ ?_; refine tk_ 4 45 HT_ HW_ hHeld ?_; refine tk_ 7 48 HT_ HW_ hHeld ?_; refine pu_ 8 49 HT_ ?_; refine tk_ 9 50 HT_ HW_ hHeld ?_; refine tk_ 11 52 HT_ HW_ hHeld ?_
              refine one_ (i := 13) (N := some 54) #[true, true, true, true, true, true, true, true, true, true, true, true, true, true, false, false, false, false, false] rfl rfl (one_of HT_.out (by kernel_rfl)) (by decide) (fun K hK => ?_)
              refine goes_ Tryd.func18 (by kernel_rfl) rfl #[.int .i64 (rd l0 a1_0), .int .i64 (rd l0 a1_1), .int .i64 a1_2, .int .i64 a2] (by rfl) rfl rfl (by (try simp only [List.map_toArray, List.map_cons, List.map_nil]); first | done | rfl | (simp only [List.length_drop, List.length_take]; rfl)) ?_
              with_reducible refine (rating_Change.calls kj5 (rd l0 a1_0) (rd l0 a1_1) a1_2 a2 t134 t135 _ A20.out ?sideL).mono ?_
              case sideL => exact xL hlaid
              rintro e w32 ⟨rfl, hb⟩
              refine ⟨_, rfl, ?_⟩
              replace BK130 := Aside0.mk (xB BK130 hb); replace HB := Aside0.mk (xS HB hb)
              (try clear hb)
              (try clear hb2)
              (try clear hk)
              (try clear hi)
              refine hK.out _ _ ⟨(blk_cell BK130.out 0).trans rfl, (blk_cell BK130.out 1).trans rfl, (blk_cell BK130.out 2).trans rfl, ((HB.out.cell (World.block_lt_of_cell? w _ hw132_0)).trans hw132_0), ((HB.out.cell (World.block_lt_of_cell? w _ hw133_0)).trans hw133_0)⟩ (fun hHeld => ?_)
              clear hK K
              refine norm_ (a' := ?_) ?_ ?_
              rotate_left
              ·show Act.put _ (some 54) _ = _
               simp only [Act.put, List.setIfInBounds_toArray, List.set_cons_zero, List.set_cons_succ, i64_w, i32_w]
               rfl
              refine pu_ 14 40 HT_ ?_; refine pu_ 15 55 HT_ ?_; refine pu_ 16 56 HT_ ?_; refine pu_ 17 9 HT_ ?_; refine pu_ 18 10 HT_ ?_
              refine done_ (done_of HT_.out (by kernel_rfl)) ?_
              try go_wp2
              replace BK130 := Aside0.mk (blk_drew BK130.out); replace HB := Aside0.mk (below_drew1 HB.out)
              have p136 : 0 ≤ (a1_0 : Int) := of_decide_eq_true (by first | (with_reducible assumption) | assumption)
              have q136 : a1_0 < (l0.length : Int) := of_decide_eq_true (by first | (with_reducible assumption) | assumption)
              obtain ⟨ad136, e136, hx136_0⟩ := Kd.at_int HR0.out a1_0 p136 q136
              have hw136_0 := hx136_0
              obtain rfl : ad132 = ad136 := (by injection e136)
              (first | replace hx136_0 := (HB.out.cell (World.block_lt_of_cell? w _ hx136_0)).trans hx136_0 | skip); replace p136 := eq_true p136; replace q136 := eq_true q136
              have p137 : 0 ≤ (a1_1 : Int) := of_decide_eq_true (by first | (with_reducible assumption) | assumption)
              have q137 : a1_1 < (l0.length : Int) := of_decide_eq_true (by first | (with_reducible assumption) | assumption)
              obtain ⟨ad137, e137, hx137_0⟩ := Kd.at_int HR0.out a1_1 p137 q137
              have hw137_0 := hx137_0
              obtain rfl : ad132 = ad137 := (by injection e137)
              (first | replace hx137_0 := (HB.out.cell (World.block_lt_of_cell? w _ hx137_0)).trans hx137_0 | skip); replace p137 := eq_true p137; replace q137 := eq_true q137
              refine start_ (n := 15) (S := fun w' => ce w' gb130 0 (.int .i64 a1_0) ∧ ce w' gb130 1 (.int .i64 a1_1) ∧ ce w' gb130 2 (.int .i64 a1_2) ∧ w'.cell? (ad132.add (a1_0).toNat) = some (.int .i64 (rd l0 a1_0)) ∧ w'.cell? (ad132.add (a1_1).toNat) = some (.int .i64 (rd l0 a1_1))) (ds := []) (mk 15 0) (by kernel_rfl) rfl rfl ⟨xc BK130 0, xc BK130 1, xc BK130 2, ((HB.out.cell (World.block_lt_of_cell? w _ hw136_0)).trans hw136_0), ((HB.out.cell (World.block_lt_of_cell? w _ hw137_0)).trans hw137_0)⟩ (fun hHeld => ?_); refine with_tabW rating_Game.tab9 rating_Game.bits9 (fun HT_ HW_ => ?_)
              generalize w32.drew = w33 at BK130 HB hx136_0 hx137_0 hHeld ⊢; refine pu_ 0 60 HT_ ?_; refine pu_ 1 61 HT_ ?_; refine pu_ 2 62 HT_ ?_; refine pu_ 7 67 HT_ ?_; refine pu_ 8 68 HT_ ?_; refine tk_ 3 63 HT_ HW_ hHeld ?_; refine pu_ 4 64 HT_ ?_; refine tk_ 5 65 HT_ HW_ hHeld ?_; refine pu_ 6 66 HT_ ?_; refine tk_ 9 69 HT_ HW_ hHeld ?_; refine pu_ 10 70 HT_ ?_; refine tk_ 11 71 HT_ HW_ hHeld ?_; refine pu_ 12 72 HT_ ?_; refine pu_ 13 73 HT_ ?_; refine pu_ 14 9 HT_ ?_
              refine done_ (done_of HT_.out (by kernel_rfl)) ?_
              try go_wp2
              replace BK130 := Aside0.mk (blk_drew BK130.out); replace HB := Aside0.mk (below_drew1 HB.out)
              have p138 : 0 ≤ (a1_0 : Int) := of_decide_eq_true (by first | (with_reducible assumption) | assumption)
              have q138 : a1_0 < (l0.length : Int) := of_decide_eq_true (by first | (with_reducible assumption) | assumption)
              obtain ⟨ad138, e138, hx138_0⟩ := Kd.at_int HR0.out a1_0 p138 q138
              have hw138_0 := hx138_0
              obtain rfl : ad132 = ad138 := (by injection e138)
              (first | replace hx138_0 := (HB.out.cell (World.block_lt_of_cell? w _ hx138_0)).trans hx138_0 | skip); replace p138 := eq_true p138; replace q138 := eq_true q138
              have p139 : 0 ≤ (a1_1 : Int) := of_decide_eq_true (by first | (with_reducible assumption) | assumption)
              have q139 : a1_1 < (l0.length : Int) := of_decide_eq_true (by first | (with_reducible assumption) | assumption)
              obtain ⟨ad139, e139, hx139_0⟩ := Kd.at_int HR0.out a1_1 p139 q139
              have hw139_0 := hx139_0
              obtain rfl : ad132 = ad139 := (by injection e139)
              (first | replace hx139_0 := (HB.out.cell (World.block_lt_of_cell? w _ hx139_0)).trans hx139_0 | skip); replace p139 := eq_true p139; replace q139 := eq_true q139
              refine start_ (n := 15) (S := fun w' => ce w' gb130 0 (.int .i64 a1_0) ∧ ce w' gb130 1 (.int .i64 a1_1) ∧ ce w' gb130 2 (.int .i64 a1_2) ∧ w'.cell? (ad132.add (a1_0).toNat) = some (.int .i64 (rd l0 a1_0)) ∧ w'.cell? (ad132.add (a1_1).toNat) = some (.int .i64 (rd l0 a1_1))) (ds := []) (mk 15 0) (by kernel_rfl) rfl rfl ⟨xc BK130 0, xc BK130 1, xc BK130 2, ((HB.out.cell (World.block_lt_of_cell? w _ hw138_0)).trans hw138_0), ((HB.out.cell (World.block_lt_of_cell? w _ hw139_0)).trans hw139_0)⟩ (fun hHeld => ?_); refine with_tabW rating_Game.tab10 rating_Game.bits10 (fun HT_ HW_ => ?_)
              generalize w33.drew = w34 at BK130 HB hx138_0 hx139_0 hHeld ⊢; refine pu_ 0 74 HT_ ?_; refine pu_ 1 75 HT_ ?_; refine pu_ 2 76 HT_ ?_; refine pu_ 7 81 HT_ ?_; refine pu_ 8 82 HT_ ?_; refine tk_ 3 77 HT_ HW_ hHeld ?_; refine pu_ 4 78 HT_ ?_; refine tk_ 5 79 HT_ HW_ hHeld ?_; refine pu_ 6 80 HT_ ?_; refine tk_ 9 83 HT_ HW_ hHeld ?_; refine pu_ 10 84 HT_ ?_; refine tk_ 11 85 HT_ HW_ hHeld ?_; refine pu_ 12 86 HT_ ?_; refine pu_ 13 87 HT_ ?_; refine pu_ 14 9 HT_ ?_
              refine done_ (done_of HT_.out (by kernel_rfl)) ?_
              try go_wp2_with (first | ((with_reducible refine gate_dst (N := 88) rfl ?_); (try (refine gate_guard (by rfl) ?_; dsimp only)); refine Kd.R_lit (Kd.int .i64) _ 3 ?hg (N := 88) ?hd (xs := ([] : List Int)) (inner := []) (ok := fun _ => True) (okp := fun _ => True) ?hr ?hp (fun _ hk => hk) trivial (Below.refl _ _) (Nat.le_refl _) (by simp) ?_; (case hd => rfl); (case hg => rfl); (case hr => first | (go_simp; done) | (go_simp; rfl)); (case hp => exact (Reps.none _ _)); intro v141 w35 ho36 hb hg_ hnew_; clear hg_ hnew_; (first | rw [← Ny140.out] at ho36 | (simp only [Int.reduceToNat] at ho36; rw [← Ny140.out] at ho36)); have HO142 := Aside0.mk (Kd.R_lower ho36 (below_size (xW HB))); replace BK130 := Aside0.mk (xB BK130 hb); replace HB := Aside0.mk (xS HB hb); clear hb ho36) | ((with_reducible refine gate_builtin (b := .append) (xs := #[.tmp 88, .tmp 89]) rfl ?_); (try (refine gate_guard (by rfl) ?_; dsimp only)); at_builtin; refine Kd.R_append_rows (Kd.int .i64) (w0 := w) w.heap.size rfl (.tmp 88) (.tmp 89) 22 3 (.int .i64 0) 8 rfl Tryd.underlying22 info3 rfl (by decide) (by omega) v141 y140 l0 _ _ _ (fun _ => True) (fun _ => False) rfl rfl ?aO ?aR (fun _ _ h => h) (fun _ h => h.elim) ?aF ?aB ?aS ?aL ?_; (case aR => exact xC (Kd.C_below HR0.out HB.out)); (case aB => exact (xW HB)); (case aF => exact (fun _ _ => trivial)); (case aO => exact (by (with_reducible repeat (first | apply Kd.R_alloc | apply Kd.R_drewN | apply Kd.R_drew)); exact HO142.out)); (case aS => exact (below_size (xW HB))); (case aL => have := LMc26.out; omega); intro v144 w37 ho hb hg hat; rw [← Ny143.out] at ho; have HO145 := Aside0.mk (ho); replace BK130 := Aside0.mk (blk_grown (g := gb130) (o := .cells #[.int .i64 a1_0, .int .i64 a1_1, .int .i64 a1_2] 41 (0, 0)) (xK BK130) hg (Kd.R_ne HO142.out BK130.out (by decide))); replace HB := Aside0.mk (hb); clear HO142; clear ho hb hg hat; have hcz38_0 := blkc3 BK130.out; obtain ⟨Ao39, co39, eo39⟩ := Kd.R_slice HO145.out; subst eo39; have p146 : 0 ≤ (a1_0 : Int) := of_decide_eq_true (by first | (with_reducible assumption) | assumption); have q146 : a1_0 < (y143.length : Int) := of_decide_eq_true (by first | (with_reducible assumption) | assumption); obtain ⟨ad146, e146, hx146_0⟩ := Kd.at_int (Kd.R_reads' HO145.out).2.2 a1_0 p146 q146; cases e146; replace p146 := eq_true p146; replace q146 := eq_true q146; have p28 : 0 ≤ (a1_0 : Int) := of_decide_eq_true (by first | (with_reducible assumption) | assumption); have q28 : (a1_0 : Int) < ((y143.length : Int) : Int) := of_decide_eq_true (by first | (with_reducible assumption) | assumption); obtain ⟨go28, co28, eo28, gb28, gl28, cl28, HG28⟩ := Kd.R_form HO145.out (by omega); (first | cases eo28 | (injection eo28 with ea_ en_ ec_; (first | subst ea_ | (injection ea_ with ea_; subst ea_)); subst ec_; clear en_)); have GB28 := Aside0.mk gb28; have GG28 := Aside0.mk HG28; clear gb28 gl28 HG28; (first | simp only [add_plain] at hx146_0 | skip); obtain ⟨hx28_0, hf28_0⟩ := Kd.R_celln 0 HO145.out (a1_0 : Int) p28 q28; replace p28 := eq_true p28; replace q28 := eq_true q28; obtain ⟨hy40_, hz40_⟩ := Kd.R_celln 0 HO145.out (a1_0 : Int) (of_decide_eq_true (by first | (with_reducible assumption) | assumption)) (of_decide_eq_true (by first | (with_reducible assumption) | assumption)); have HP40 := Kd.R_putg HO145.out (a1_0 : Int) (wrap64 ((rd y143 a1_0) + (ji25)))) | ((with_reducible refine gate_store (t := 3) (p := 98) rfl ?_); refine store_event (t := 3) (p := 98) (v := ?vo_w41) (w1 := (w37.setCell ⟨go28, (a1_0 : Int).toNat, none⟩ (.int .i64 (wrap64 ((rd y143 a1_0) + (ji25)))))) ?hg ?ho ?hn ?hr ?_; (case ho => rfl); (case hg => rfl); (case hn => rfl); (case hr => first | (go_simp; done) | (go_simp; rfl)); intro w41 hw; have hg : w37.grownBy w41 (some go28) := (by rw [hw]; exact HP40.2); have hp_ : Kd.R (Kd.int .i64) 3 w41 w.heap.size (fun _ => True) (.slice (some ⟨go28, 0, none⟩) y143.length co39) y147 := (by rw [hw, Ny147.out]; exact HP40.1); clear HP40; replace BK130 := Aside0.mk (blk_grown (g := gb130) (o := .cells #[.int .i64 a1_0, .int .i64 a1_1, .int .i64 a1_2] 41 (0, 0)) (xK BK130) hg (Kd.R_ne HO145.out BK130.out (by decide))); replace HO145 := Aside0.mk (hp_); replace HB := Aside0.mk ((by rw [hw]; exact below_set (HB.out) GB28.out : Below w.heap.size w w41)); clear hg hw hp_; have hcz42_0 := blkc3 BK130.out; have p148 : 0 ≤ (a1_1 : Int) := of_decide_eq_true (by first | (with_reducible assumption) | assumption); have q148 : a1_1 < (y147.length : Int) := (by have h_ : (a1_1 : Int) < ((y143.length : Int) : Int) := of_decide_eq_true (by first | (with_reducible assumption) | assumption); first | (have e_ := (Kd.R_reads' HO145.out).1; omega) | simpa only [Ny147.out, List.length_set] using h_); have ql148 : ((a1_1 : Int) < ((y143.length : Int) : Int)) = True := eq_true (of_decide_eq_true (by first | (with_reducible assumption) | assumption)); obtain ⟨ad148, e148, hx148_0⟩ := Kd.at_int (Kd.R_reads' HO145.out).2.2 a1_1 p148 q148; obtain rfl : (⟨go28, 0, none⟩ : Addr) = ad148 := (by injection e148); (first | simp only [add_plain] at hx148_0 | simp only [add_at] at hx148_0 | simp only [Addr.add, Nat.zero_add] at hx148_0 | skip); replace p148 := eq_true p148; replace q148 := eq_true q148; have p30 : 0 ≤ (a1_1 : Int) := of_decide_eq_true (by first | (with_reducible assumption) | assumption); have q30 : (a1_1 : Int) < ((y143.length : Int) : Int) := of_decide_eq_true (by first | (with_reducible assumption) | assumption); obtain ⟨hx30_0, hf30_0⟩ := Kd.R_celln 0 HO145.out (a1_1 : Int) p30 q30; replace p30 := eq_true p30; replace q30 := eq_true q30; obtain ⟨hy43_, hz43_⟩ := Kd.R_celln 0 HO145.out (a1_1 : Int) (of_decide_eq_true (by first | (with_reducible assumption) | assumption)) (of_decide_eq_true (by first | (with_reducible assumption) | assumption)); have HP43 := Kd.R_putg HO145.out (a1_1 : Int) (wrap64 ((rd y147 a1_1) - (ji25)))) | ((with_reducible refine gate_store (t := 3) (p := 106) rfl ?_); refine store_event (t := 3) (p := 106) (v := ?vo_w44) (w1 := (w41.setCell ⟨go28, (a1_1 : Int).toNat, none⟩ (.int .i64 (wrap64 ((rd y147 a1_1) - (ji25)))))) ?hg ?ho ?hn ?hr ?_; (case ho => rfl); (case hg => rfl); (case hn => rfl); (case hr => first | (go_simp; done) | (go_simp; rfl)); intro w44 hw; have hg : w41.grownBy w44 (some go28) := (by rw [hw]; exact HP43.2); have hp_ : Kd.R (Kd.int .i64) 3 w44 w.heap.size (fun _ => True) (.slice (some ⟨go28, 0, none⟩) y143.length co39) y149 := (by rw [hw, Ny149.out]; exact HP43.1); clear HP43; replace BK130 := Aside0.mk (blk_grown (g := gb130) (o := .cells #[.int .i64 a1_0, .int .i64 a1_1, .int .i64 a1_2] 41 (0, 0)) (xK BK130) hg (Kd.R_ne HO145.out BK130.out (by decide))); replace HO145 := Aside0.mk (hp_); replace HB := Aside0.mk ((by rw [hw]; exact below_set (HB.out) GB28.out : Below w.heap.size w w44)); clear hg hw hp_))
              go_ret2
              exact ⟨_, by first | rfl | (simp [errW_none, errW_some] <;> rfl) | (simp only [← hji22, ← hji23, ← hji24, ← hji25]; first | rfl | (simp [errW_none, errW_some] <;> rfl)) | (simp [*, errW_none, errW_some] <;> rfl), by (with_reducible repeat (first | apply Kd.R_alloc | apply Kd.R_drewN | apply Kd.R_drew)); exact HO145.out, xW HB⟩
            ·rw [if_neg c29] at H
             exact absurd H (by simp)
           ·rw [if_neg c27] at H
            exact absurd H (by simp)
          ·rw [if_neg c26] at H
           exact absurd H (by simp)
         ·rw [if_neg c21] at H
          have c21b0 : (t135 == 0) = false := beq_eq_false_iff_ne.mpr c21
          have c21b1 : (t135 != 0) = true := bne_iff_ne.mpr c21
          as_aux_lemma =>
           simp only [Option.some.injEq, Prod.mk.injEq] at H
           obtain ⟨rfl, rfl⟩ := H
           try go_wp2
           replace BK130 := Aside0.mk (blk_drew BK130.out); replace HB := Aside0.mk (below_drew1 HB.out)
           have p132 : 0 ≤ (a1_0 : Int) := of_decide_eq_true (by first | (with_reducible assumption) | assumption)
           have q132 : a1_0 < (l0.length : Int) := of_decide_eq_true (by first | (with_reducible assumption) | assumption)
           obtain ⟨ad132, e132, hx132_0⟩ := Kd.at_int HR0.out a1_0 p132 q132
           have hw132_0 := hx132_0
           cases e132
           (first | replace hx132_0 := (HB.out.cell (World.block_lt_of_cell? w _ hx132_0)).trans hx132_0 | skip); replace p132 := eq_true p132; replace q132 := eq_true q132
           have p133 : 0 ≤ (a1_1 : Int) := of_decide_eq_true (by first | (with_reducible assumption) | assumption)
           have q133 : a1_1 < (l0.length : Int) := of_decide_eq_true (by first | (with_reducible assumption) | assumption)
           obtain ⟨ad133, e133, hx133_0⟩ := Kd.at_int HR0.out a1_1 p133 q133
           have hw133_0 := hx133_0
           obtain rfl : ad132 = ad133 := (by injection e133)
           (first | replace hx133_0 := (HB.out.cell (World.block_lt_of_cell? w _ hx133_0)).trans hx133_0 | skip); replace p133 := eq_true p133; replace q133 := eq_true q133
           refine start_ (n := 19) (S := fun w' => ce w' gb130 0 (.int .i64 a1_0) ∧ ce w' gb130 1 (.int .i64 a1_1) ∧ ce w' gb130 2 (.int .i64 a1_2) ∧ w'.cell? (ad132.add (a1_0).toNat) = some (.int .i64 (rd l0 a1_0)) ∧ w'.cell? (ad132.add (a1_1).toNat) = some (.int .i64 (rd l0 a1_1))) (ds := []) (mk 19 0) (by kernel_rfl) rfl rfl ⟨xc BK130 0, xc BK130 1, xc BK130 2, ((HB.out.cell (World.block_lt_of_cell? w _ hw132_0)).trans hw132_0), ((HB.out.cell (World.block_lt_of_cell? w _ hw133_0)).trans hw133_0)⟩ (fun hHeld => ?_); refine with_tabW rating_Game.tab6 rating_Game.bits6 (fun HT_ HW_ => ?_)
           generalize wc.drew = w45 at BK130 HB hx132_0 hx133_0 hHeld ⊢; refine pu_ 0 41 HT_ ?_; refine pu_ 1 42 HT_ ?_; refine pu_ 5 46 HT_ ?_; refine pu_ 6 47 HT_ ?_; refine pu_ 10 51 HT_ ?_; refine pu_ 12 53 HT_ ?_; refine tk_ 2 43 HT_ HW_ hHeld ?_; refine pu_ 3 44 HT_ ?_; refine tk_ 4 45 HT_ HW_ hHeld ?_; refine tk_ 7 48 HT_ HW_ hHeld ?_; refine pu_ 8 49 HT_ ?_; refine tk_ 9 50 HT_ HW_ hHeld ?_; refine tk_ 11 52 HT_ HW_ hHeld ?_
           refine one_ (i := 13) (N := some 54) #[true, true, true, true, true, true, true, true, true, true, true, true, true, true, false, false, false, false, false] rfl rfl (one_of HT_.out (by kernel_rfl)) (by decide) (fun K hK => ?_)
           refine goes_ Tryd.func18 (by kernel_rfl) rfl #[.int .i64 (rd l0 a1_0), .int .i64 (rd l0 a1_1), .int .i64 a1_2, .int .i64 a2] (by rfl) rfl rfl (by (try simp only [List.map_toArray, List.map_cons, List.map_nil]); first | done | rfl | (simp only [List.length_drop, List.length_take]; rfl)) ?_
           with_reducible refine (rating_Change.calls kj5 (rd l0 a1_0) (rd l0 a1_1) a1_2 a2 t134 t135 _ A20.out ?sideL).mono ?_
           case sideL => exact xL hlaid
           rintro e w46 ⟨rfl, hb⟩
           refine ⟨_, rfl, ?_⟩
           replace BK130 := Aside0.mk (xB BK130 hb); replace HB := Aside0.mk (xS HB hb)
           (try clear hb)
           (try clear hb2)
           (try clear hk)
           (try clear hi)
           refine hK.out _ _ ⟨(blk_cell BK130.out 0).trans rfl, (blk_cell BK130.out 1).trans rfl, (blk_cell BK130.out 2).trans rfl, ((HB.out.cell (World.block_lt_of_cell? w _ hw132_0)).trans hw132_0), ((HB.out.cell (World.block_lt_of_cell? w _ hw133_0)).trans hw133_0)⟩ (fun hHeld => ?_)
           clear hK K
           refine norm_ (a' := ?_) ?_ ?_
           rotate_left
           ·show Act.put _ (some 54) _ = _
            simp only [Act.put, List.setIfInBounds_toArray, List.set_cons_zero, List.set_cons_succ, i64_w, i32_w]
            rfl
           refine pu_ 14 40 HT_ ?_; refine pu_ 15 55 HT_ ?_; refine pu_ 16 56 HT_ ?_; refine pu_ 17 9 HT_ ?_; refine pu_ 18 10 HT_ ?_
           refine done_ (done_of HT_.out (by kernel_rfl)) ?_
           try go_wp2
           go_ret2
           exact ⟨_, xer, by first | exact Kd.R_nil _ _ _ _ _ | exact Kd.N_nil _ _ _ _ _ | exact Kd.V_nil _ _ _ _ _ | exact Kd.Q_nil _ _ _ _ _ | exact Kd.S_nil _ _ _ _ _, xW HB⟩
        ·rw [if_neg c19] at H
         exact absurd H (by simp)
       ·rw [if_neg c18] at H
        exact absurd H (by simp)
      ·rw [if_neg c17] at H
       exact absurd H (by simp)
     ·rw [if_neg c16] at H
      exact absurd H (by simp)
 ·rw [if_neg c5] at H
  have c5b0 : (t131 == 0) = false := beq_eq_false_iff_ne.mpr c5
  have c5b1 : (t131 != 0) = true := bne_iff_ne.mpr c5
  as_aux_lemma =>
   simp only [Option.some.injEq, Prod.mk.injEq] at H
   obtain ⟨rfl, rfl⟩ := H
   go_enter Tryd.func17, Tryd.ntmps17
   go_wp2_with (first | ((with_reducible refine gate_dst (N := 4) rfl ?_); (try (refine gate_guard (by rfl) ?_; dsimp only)); refine box_event ?hg (N := 4) ?hd (cs := #[.int .i64 a1_0, .int .i64 a1_1, .int .i64 a1_2]) (t := 41) ?hr ?_; (case hd => rfl); (case hg => rfl); (case hr => first | (go_simp; done) | (go_simp; rfl)); intro gb130 hg w47 hbox hb; have BK130 := Aside0.mk (hbox); have GW130 := Aside0.mk (xZ HB hg); have GE130 := Aside0.mk (xZ HB hg); replace HB := Aside0.mk (xS HB hb); clear hb hbox hg) | ((with_reducible refine gate_callee (f := 16) rfl ?_); refine goesL_ (some 13) rfl rfl Tryd.func16 (by kernel_rfl) rfl #[.slice A0 l0.length c0] rfl (by (try simp only [List.map_toArray, List.map_cons, List.map_nil]); first | done | rfl | (simp only [List.length_drop, List.length_take]; rfl)) ?_; (with_reducible refine (rating_Check.calls k _ _ l0 t131 _ ?side1 ?side2 A4.out).mono ?_); (case side1 => exact xC (Kd.C_below HR0.out HB.out)); (case side2 => exact HC0.out); rintro e w' ⟨rfl, ⟨nd, rfl⟩⟩; refine ⟨_, rfl, ?_⟩))
   go_ret2
   exact ⟨_, xer, by first | exact Kd.R_nil _ _ _ _ _ | exact Kd.N_nil _ _ _ _ _ | exact Kd.V_nil _ _ _ _ _ | exact Kd.Q_nil _ _ _ _ _ | exact Kd.S_nil _ _ _ _ _, xW HB⟩

/-! ### rating_All: function 15 -/
def rating_All.l0 : Nat → Int → List Int → List (S41) → Int → Int → Option (List Int × Int)
  | 0, _, _, _, _, _ => none
  | k + 1, x2, x9, x25, x26, x27 => if x27 < x26 then (if 0 ≤ x27 then (if x27 < (x25.length : Int) then ((rating_Game.f k x9 ((rd_T41 x25 x27).f0) ((rd_T41 x25 x27).f1) ((rd_T41 x25 x27).f2) x2).bind fun bt159 => (if bt159.2 = 0 then (rating_All.l0 k x2 bt159.1 x25 x26 (wrap64 (x27 + 1))) else (some (([] : List Int), bt159.2)))) else (none)) else (none)) else (some (x9, 0))
def rating_All.f (k : Nat) (l0 : List Int) (l1 : List (S41)) (a2 : Int) : Option (List Int × Int) := (rating_Check.f k l0).bind fun t150 => (if t150 = 0 then (if (l1.length : Int) > 256 then (some (([] : List Int), 2)) else ((some (([] : List Int) : List Int)).bind fun y151 => (if y151.length + l0.length < 17592186044416 then (rating_All.l0 k a2 (y151 ++ l0) l1 (l1.length : Int) 0) else (none)))) else (some (([] : List Int), t150)))
theorem rating_All.mono_l : ∀ k, (∀ y0 y1 y2 y3 y4, LeO (rating_All.l0 k y0 y1 y2 y3 y4) (rating_All.l0 (k + 1) y0 y1 y2 y3 y4))
  | 0 => fun _ _ _ _ _ r h => by simp [rating_All.l0] at h
  | k + 1 => by
    have ih0 := rating_All.mono_l k
    · intros
      unfold rating_All.l0
      repeat' first
      | (with_reducible apply ih0)
      | (with_reducible apply rating_Check.mono)
      | (with_reducible apply rating_Game.mono)
      | (with_reducible exact LeO.refl _)
      | (with_reducible exact LeO.none _)
      | (with_reducible refine LeO.ite ?_ ?_)
      | (with_reducible refine LeO.bind ?_ (fun _ => ?_))
      | apply ih0
      | apply rating_Check.mono
      | apply rating_Game.mono
      | exact LeO.none _
      | refine LeO.ite ?_ ?_
      | refine LeO.bind ?_ (fun _ => ?_)
theorem rating_All.mono : ∀ a0 a1 a2 k, LeO (rating_All.f k a0 a1 a2) (rating_All.f (k + 1) a0 a1 a2) := by
  intro a0 a1 a2 k
  have ih0 := rating_All.mono_l k
  unfold rating_All.f
  repeat' first
      | (with_reducible apply ih0)
      | (with_reducible apply rating_Check.mono)
      | (with_reducible apply rating_Game.mono)
      | (with_reducible exact LeO.refl _)
      | (with_reducible exact LeO.none _)
      | (with_reducible refine LeO.ite ?_ ?_)
      | (with_reducible refine LeO.bind ?_ (fun _ => ?_))
      | apply ih0
      | apply rating_Check.mono
      | apply rating_Game.mono
      | exact LeO.none _
      | refine LeO.ite ?_ ?_
      | refine LeO.bind ?_ (fun _ => ?_)
set_option maxHeartbeats 8000000 in
set_option maxRecDepth 100000 in
theorem rating_All.calls (k : Nat) (A0 : Option Addr) (c0 : Nat) (l0 : List Int) (A1 : Option Addr) (c1 : Nat) (l1 : List (S41)) (a2 : Int) (r1 : List Int) (r2 : Int) (w : World) (hr0 : Kd.C (Kd.int .i64) w A0 l0.length l0) (hc0 : l0.length ≤ c0) (hr1 : Kd.C k41 w A1 l1.length l1) (hc1 : l1.length ≤ c1) (h : rating_All.f k l0 l1 a2 = some (r1, r2)) (hlaid : LaidS w) :
    Calls Tryd.prog 15 #[.slice A0 l0.length c0, .slice A1 l1.length c1, .int .i64 a2] w fun e w' => ∃ v0_ : Value, e = .returned (.tuple #[v0_, .int .i64 r2]) ∧ Kd.R (Kd.int .i64) 3 w' w.heap.size (fun _ => True) v0_ r1 ∧ Below w.heap.size w w' := by
 have hu41 := Tryd.underlying41; have HR0 := Aside0.mk hr0; have HC0 := Aside0.mk hc0; clear hr0 hc0; have HR1 := Aside0.mk hr1; have HC1 := Aside0.mk hc1; clear hr1 hc1; have HB := Aside0.mk (Below.refl w.heap.size w); have hss_ := @isSome_setCell
 have H : ((rating_Check.f k l0).bind fun t150 => (if t150 = 0 then (if (l1.length : Int) > 256 then (some (([] : List Int), 2)) else ((some (([] : List Int) : List Int)).bind fun y151 => (if y151.length + l0.length < 17592186044416 then (rating_All.l0 k a2 (y151 ++ l0) l1 (l1.length : Int) 0) else (none)))) else (some (([] : List Int), t150)))) = some (r1, r2) := h
 clear h; replace H := Option.bind_eq_some_iff.mp H
 obtain ⟨t150, A40, H⟩ := H
 try dsimp only at H
 have A4 := Aside0.mk A40; clear A40
 by_cases c5 : t150 = 0
 ·rw [if_pos c5] at H
  have c5b0 : (t150 == 0) = true := beq_iff_eq.mpr c5
  have c5b1 : (t150 != 0) = false := bne_eq_false_iff_eq.mpr c5
  clear c5
  by_cases c6 : (l1.length : Int) > 256
  ·rw [if_pos c6] at H
   have c6b0 : decide (256 < (l1.length : Int)) = true := decide_eq_true c6
   have c6b1 : decide (256 < l1.length) = true := decide_eq_true (by omega)
   clear c6
   as_aux_lemma =>
    simp only [Option.some.injEq, Prod.mk.injEq] at H
    obtain ⟨rfl, rfl⟩ := H
    go_enter Tryd.func15, Tryd.ntmps15
    go_wp2_with (first | ((with_reducible refine gate_callee (f := 16) rfl ?_); refine goesL_ (some 15) rfl rfl Tryd.func16 (by kernel_rfl) rfl #[.slice A0 l0.length c0] rfl (by (try simp only [List.map_toArray, List.map_cons, List.map_nil]); first | done | rfl | (simp only [List.length_drop, List.length_take]; rfl)) ?_; (with_reducible refine (rating_Check.calls k _ _ l0 t150 _ ?side1 ?side2 A4.out).mono ?_); (case side1 => repeat (first | exact HR0.out | (with_reducible refine Kd.C_alloc ?_ _) | (with_reducible refine Kd.C_drewN ?_ _) | (with_reducible refine Kd.C_drew ?_))); (case side2 => exact HC0.out); rintro e w' ⟨rfl, ⟨nd, rfl⟩⟩; refine ⟨_, rfl, ?_⟩))
    go_ret2
    exact ⟨_, xer, by first | exact Kd.R_nil _ _ _ _ _ | exact Kd.N_nil _ _ _ _ _ | exact Kd.V_nil _ _ _ _ _ | exact Kd.Q_nil _ _ _ _ _ | exact Kd.S_nil _ _ _ _ _, xW HB⟩
  ·rw [if_neg c6] at H
   have c6b0 : decide (256 < (l1.length : Int)) = false := decide_eq_false c6
   have c6b1 : decide (256 < l1.length) = false := decide_eq_false (by omega)
   clear c6
   obtain ⟨y151, hy151⟩ : ∃ y_ : List Int, y_ = (([] : List Int)) := ⟨_, rfl⟩
   replace H : (if y151.length + l0.length < 17592186044416 then (rating_All.l0 k a2 (y151 ++ l0) l1 (l1.length : Int) 0) else (none)) = some (r1, r2) := by first | (rw [hy151]; with_reducible exact H) | (have H2_ := (Option.bind_some _ _).symm.trans H; rw [hy151]; with_reducible exact H2_) | (have H2_ := (Option.bind_some _ _).symm.trans H; with_reducible exact H2_) | with_reducible exact H | (rw [hy151]; exact H) | exact H
   have Ny151 := Aside0.mk hy151; clear hy151
   by_cases c7 : y151.length + l0.length < 17592186044416
   ·rw [if_pos c7] at H
    have LMc7 := Aside0.mk c7; clear c7
    obtain ⟨y154, hy154⟩ : ∃ y_ : List Int, y_ = (y151 ++ l0) := ⟨_, rfl⟩
    replace H : (rating_All.l0 k a2 y154 l1 (l1.length : Int) 0) = some (r1, r2) := by first | (rw [hy154]; with_reducible exact H) | (have H2_ := (Option.bind_some _ _).symm.trans H; rw [hy154]; with_reducible exact H2_) | (have H2_ := (Option.bind_some _ _).symm.trans H; with_reducible exact H2_) | with_reducible exact H | (rw [hy154]; exact H) | exact H
    have Ny154 := Aside0.mk hy154; clear hy154
    have H' := Aside0.mk H
    clear H
    go_enter Tryd.func15, Tryd.ntmps15
    go_wp2_with (first | ((with_reducible refine gate_callee (f := 16) rfl ?_); refine goesL_ (some 15) rfl rfl Tryd.func16 (by kernel_rfl) rfl #[.slice A0 l0.length c0] rfl (by (try simp only [List.map_toArray, List.map_cons, List.map_nil]); first | done | rfl | (simp only [List.length_drop, List.length_take]; rfl)) ?_; (with_reducible refine (rating_Check.calls k _ _ l0 t150 _ ?side1 ?side2 A4.out).mono ?_); (case side1 => repeat (first | exact HR0.out | (with_reducible refine Kd.C_alloc ?_ _) | (with_reducible refine Kd.C_drewN ?_ _) | (with_reducible refine Kd.C_drew ?_))); (case side2 => exact HC0.out); rintro e w' ⟨rfl, ⟨nd, rfl⟩⟩; refine ⟨_, rfl, ?_⟩) | ((with_reducible refine gate_dst (N := 22) rfl ?_); refine Kd.R_lit (Kd.int .i64) _ 3 ?hg (N := 22) ?hd (xs := ([] : List Int)) (inner := []) (ok := fun _ => True) (okp := fun _ => True) ?hr ?hp (fun _ hk => hk) trivial (Below.refl _ _) (Nat.le_refl _) (by simp) ?_; (case hd => rfl); (case hg => rfl); (case hr => first | (go_simp; done) | (go_simp; rfl)); (case hp => exact (Reps.none _ _)); intro v152 w8 ho9 hb hg_ hnew_; clear hg_ hnew_; (first | rw [← Ny151.out] at ho9 | (simp only [Int.reduceToNat] at ho9; rw [← Ny151.out] at ho9)); have HO153 := Aside0.mk (Kd.R_lower ho9 (below_size (xW HB))); replace HB := Aside0.mk (xS HB hb); clear hb ho9) | ((with_reducible refine gate_builtin (b := .append) (xs := #[.tmp 22, .tmp 23]) rfl ?_); at_builtin; refine Kd.R_append_rows (Kd.int .i64) (w0 := w) w.heap.size rfl (.tmp 22) (.tmp 23) 22 3 (.int .i64 0) 8 rfl Tryd.underlying22 info3 rfl (by decide) (by omega) v152 y151 l0 _ _ _ (fun _ => True) (fun _ => False) rfl rfl ?aO ?aR (fun _ _ h => h) (fun _ h => h.elim) ?aF ?aB ?aS ?aL ?_; (case aR => exact xC (Kd.C_below HR0.out HB.out)); (case aB => exact (xW HB)); (case aF => exact (fun _ _ => trivial)); (case aO => exact (by (with_reducible repeat (first | apply Kd.R_alloc | apply Kd.R_drewN | apply Kd.R_drew)); exact HO153.out)); (case aS => exact (below_size (xW HB))); (case aL => have := LMc7.out; omega); intro v155 w10 ho hb hg hat; rw [← Ny154.out] at ho; have HO156 := Aside0.mk (ho); replace HB := Aside0.mk (hb); clear HO153; clear ho hb hg hat))
    go_loopg [9, 27] k (fun kq vs9 vs27 w' => ∃ (x9_1 : List Int) (x27_1 : Int), vs27 = .int .i64 x27_1 ∧ Aside0 (rating_All.l0 kq a2 x9_1 l1 (l1.length : Int) x27_1 = some (r1, r2)) ∧ Aside0 (kq ≤ k) ∧ Aside0 (Kd.R (Kd.int .i64) 3 w' w.heap.size (fun _ => True) vs9 x9_1) ∧ Aside0 (Below w.heap.size w w'))
    case atStart => exact ⟨(y154), (0), (xrf), H', ⟨Nat.le_refl _⟩, ⟨by (with_reducible repeat (first | apply Kd.R_alloc | apply Kd.R_drewN | apply Kd.R_drew)); exact HO156.out⟩, ⟨xW HB⟩⟩
    case round =>
     clear H'; (try clear p2)
     obtain ⟨x9_1, x27_1, rfl, HA, HK1, HO_9, HB⟩ := hrel
     cases gk with
     | zero => exact absurd HA.out (by simp [rating_All.l0])
     | succ k1 =>
      have H := HA.out; clear HA
      simp only [rating_All.l0] at H
      by_cases c11 : x27_1 < (l1.length : Int)
      ·rw [if_pos c11] at H
       have c11b0 : decide (x27_1 < (l1.length : Int)) = true := decide_eq_true c11
       clear c11
       by_cases c12 : 0 ≤ x27_1
       ·rw [if_pos c12] at H
        have c12b0 : decide (0 ≤ x27_1) = true := decide_eq_true c12
        clear c12
        by_cases c13 : x27_1 < (l1.length : Int)
        ·rw [if_pos c13] at H
         have c13b0 : decide (x27_1 < (l1.length : Int)) = true := decide_eq_true c13
         clear c13; replace H := Option.bind_eq_some_iff.mp H
         obtain ⟨⟨t159, t162⟩, A140, H⟩ := H
         try dsimp only at H
         have A14 := Aside0.mk A140; clear A140
         by_cases c15 : t162 = 0
         ·rw [if_pos c15] at H
          have c15b0 : (t162 == 0) = true := beq_iff_eq.mpr c15
          have c15b1 : (t162 != 0) = false := bne_eq_false_iff_eq.mpr c15
          clear c15
          as_aux_lemma =>
           have H' := Aside0.mk H
           clear H
           have p157 : 0 ≤ (x27_1 : Int) := of_decide_eq_true (by first | (with_reducible assumption) | assumption)
           have q157 : x27_1 < (l1.length : Int) := of_decide_eq_true (by first | (with_reducible assumption) | assumption)
           obtain ⟨ad157, e157, hx157_0, hx157_1, hx157_2⟩ := at_T41 HR1.out x27_1 p157 q157
           cases e157
           (first | replace hx157_0 := (HB.out.cell (World.block_lt_of_cell? w _ hx157_0)).trans hx157_0 | skip); (first | replace hx157_1 := (HB.out.cell (World.block_lt_of_cell? w _ hx157_1)).trans hx157_1 | skip); (first | replace hx157_2 := (HB.out.cell (World.block_lt_of_cell? w _ hx157_2)).trans hx157_2 | skip); replace p157 := eq_true p157; replace q157 := eq_true q157
           go_wp2_with (first | ((with_reducible refine gate_dst (N := 11) rfl ?_); refine box_event ?hg (N := 11) ?hd (cs := #[.int .i64 0, .int .i64 0, .int .i64 0]) (t := 41) ?hr ?_; (case hd => rfl); (case hg => rfl); (case hr => first | (go_simp; done) | (go_simp; rfl)); intro gb158 hg w16 hbox hb; have BK158 := Aside0.mk (hbox); have GW158 := Aside0.mk (xZ HB hg); have GE158 := Aside0.mk (xZ HB hg); replace HO_9 := Aside0.mk (Kd.R_below (by (with_reducible repeat (first | apply Kd.R_alloc | apply Kd.R_drewN | apply Kd.R_drew)); exact HO_9.out) hb); replace HB := Aside0.mk (xS HB hb); clear hb hbox hg; have hcz17_0 := blkc3 BK158.out; obtain ⟨Ao18, co18, eo18⟩ := Kd.R_slice HO_9.out; subst eo18) | ((with_reducible refine gate_callee (f := 17) rfl ?_); refine goesL_ (some 35) rfl rfl Tryd.func17 (by kernel_rfl) rfl #[.slice Ao18 x9_1.length co18, .agg #[.int .i64 ((rd_T41 l1 x27_1).f0), .int .i64 ((rd_T41 l1 x27_1).f1), .int .i64 ((rd_T41 l1 x27_1).f2)], .int .i64 a2] rfl (by (try simp only [List.map_toArray, List.map_cons, List.map_nil]); first | done | rfl | (simp only [List.length_drop, List.length_take]; rfl)) ?_; (with_reducible refine (rating_Game.calls k1 _ _ x9_1 ((rd_T41 l1 x27_1).f0) ((rd_T41 l1 x27_1).f1) ((rd_T41 l1 x27_1).f2) a2 t159 t162 _ ?side1 ?side2 A14.out ?sideL).mono ?_); (case sideL => exact xL hlaid); (case side1 => refine (Kd.R_reads' (e := 3) (base := w.heap.size) (ok := fun k_ => True) (n := x9_1.length) (c := co18) ?_).2.2; exact (by (with_reducible repeat (first | apply Kd.R_alloc | apply Kd.R_drewN | apply Kd.R_drew)); exact (Kd.R_mono (Kd.R_far (p := ⟨gb158, 2, none⟩) (Kd.R_far (p := ⟨gb158, 1, none⟩) (Kd.R_far (p := ⟨gb158, 0, none⟩) (Kd.R_types HO_9.out BK158.out (by decide)) (fun _ hk => hk.2) (.int .i64 ((rd_T41 l1 x27_1).f0))) (fun _ hk => hk.2) (.int .i64 ((rd_T41 l1 x27_1).f1))) (fun _ hk => hk.2) (.int .i64 ((rd_T41 l1 x27_1).f2))) (fun _ h_ => h_.1)))); (case side2 => exact (Kd.R_reads' HO_9.out).2.1); rintro e w19 ⟨v160, rfl, ho0, hb⟩; refine ⟨_, rfl, ?_⟩; have HO161 := Aside0.mk (Kd.R_lower (Kd.R_new' ho0 (Kd.R_lt (by (with_reducible repeat (first | apply Kd.R_alloc | apply Kd.R_drewN | apply Kd.R_drew)); exact (Kd.R_mono (Kd.R_far (p := ⟨gb158, 2, none⟩) (Kd.R_far (p := ⟨gb158, 1, none⟩) (Kd.R_far (p := ⟨gb158, 0, none⟩) (Kd.R_types HO_9.out BK158.out (by decide)) (fun _ hk => hk.2) (.int .i64 ((rd_T41 l1 x27_1).f0))) (fun _ hk => hk.2) (.int .i64 ((rd_T41 l1 x27_1).f1))) (fun _ hk => hk.2) (.int .i64 ((rd_T41 l1 x27_1).f2))) (fun _ h_ => h_.1))))) (below_size (xW HB))); replace HO_9 := Aside0.mk (Kd.R_elder' (by (with_reducible repeat (first | apply Kd.R_alloc | apply Kd.R_drewN | apply Kd.R_drew)); exact (Kd.R_mono (Kd.R_far (p := ⟨gb158, 2, none⟩) (Kd.R_far (p := ⟨gb158, 1, none⟩) (Kd.R_far (p := ⟨gb158, 0, none⟩) (Kd.R_types HO_9.out BK158.out (by decide)) (fun _ hk => hk.2) (.int .i64 ((rd_T41 l1 x27_1).f0))) (fun _ hk => hk.2) (.int .i64 ((rd_T41 l1 x27_1).f1))) (fun _ hk => hk.2) (.int .i64 ((rd_T41 l1 x27_1).f2))) (fun _ h_ => h_.1))) (Kd.R_base ho0) hb); replace BK158 := Aside0.mk (xP (l' := [.int .i64 ((rd_T41 l1 x27_1).f0), .int .i64 ((rd_T41 l1 x27_1).f1), .int .i64 ((rd_T41 l1 x27_1).f2)]) BK158 hb); replace HB := Aside0.mk (xS HB hb); (try clear hb); (try clear hb2); (try clear hk); (try clear hi); (try clear ho0)))
           go_roundg k1
           case measure => have := HK1.out; omega
           case rel => exact ⟨(t159), (wrap64 (x27_1 + 1)), (xrf), H', ⟨by have := HK1.out; omega⟩, ⟨by (with_reducible repeat (first | apply Kd.R_alloc | apply Kd.R_drewN | apply Kd.R_drew)); exact Kd.R_mono HO161.out (fun _ hk => trivial)⟩, ⟨xW HB⟩⟩
         ·rw [if_neg c15] at H
          have c15b0 : (t162 == 0) = false := beq_eq_false_iff_ne.mpr c15
          have c15b1 : (t162 != 0) = true := bne_iff_ne.mpr c15
          as_aux_lemma =>
           simp only [Option.some.injEq, Prod.mk.injEq] at H
           obtain ⟨rfl, rfl⟩ := H
           have p157 : 0 ≤ (x27_1 : Int) := of_decide_eq_true (by first | (with_reducible assumption) | assumption)
           have q157 : x27_1 < (l1.length : Int) := of_decide_eq_true (by first | (with_reducible assumption) | assumption)
           obtain ⟨ad157, e157, hx157_0, hx157_1, hx157_2⟩ := at_T41 HR1.out x27_1 p157 q157
           cases e157
           (first | replace hx157_0 := (HB.out.cell (World.block_lt_of_cell? w _ hx157_0)).trans hx157_0 | skip); (first | replace hx157_1 := (HB.out.cell (World.block_lt_of_cell? w _ hx157_1)).trans hx157_1 | skip); (first | replace hx157_2 := (HB.out.cell (World.block_lt_of_cell? w _ hx157_2)).trans hx157_2 | skip); replace p157 := eq_true p157; replace q157 := eq_true q157
           go_wp2_with (first | ((with_reducible refine gate_dst (N := 11) rfl ?_); refine box_event ?hg (N := 11) ?hd (cs := #[.int .i64 0, .int .i64 0, .int .i64 0]) (t := 41) ?hr ?_; (case hd => rfl); (case hg => rfl); (case hr => first | (go_simp; done) | (go_simp; rfl)); intro gb158 hg w20 hbox hb; have BK158 := Aside0.mk (hbox); have GW158 := Aside0.mk (xZ HB hg); have GE158 := Aside0.mk (xZ HB hg); replace HO_9 := Aside0.mk (Kd.R_below (by (with_reducible repeat (first | apply Kd.R_alloc | apply Kd.R_drewN | apply Kd.R_drew)); exact HO_9.out) hb); replace HB := Aside0.mk (xS HB hb); clear hb hbox hg; have hcz21_0 := blkc3 BK158.out; obtain ⟨Ao22, co22, eo22⟩ := Kd.R_slice HO_9.out; subst eo22) | ((with_reducible refine gate_callee (f := 17) rfl ?_); refine goesL_ (some 35) rfl rfl Tryd.func17 (by kernel_rfl) rfl #[.slice Ao22 x9_1.length co22, .agg #[.int .i64 ((rd_T41 l1 x27_1).f0), .int .i64 ((rd_T41 l1 x27_1).f1), .int .i64 ((rd_T41 l1 x27_1).f2)], .int .i64 a2] rfl (by (try simp only [List.map_toArray, List.map_cons, List.map_nil]); first | done | rfl | (simp only [List.length_drop, List.length_take]; rfl)) ?_; (with_reducible refine (rating_Game.calls k1 _ _ x9_1 ((rd_T41 l1 x27_1).f0) ((rd_T41 l1 x27_1).f1) ((rd_T41 l1 x27_1).f2) a2 t159 t162 _ ?side1 ?side2 A14.out ?sideL).mono ?_); (case sideL => exact xL hlaid); (case side1 => refine (Kd.R_reads' (e := 3) (base := w.heap.size) (ok := fun k_ => True) (n := x9_1.length) (c := co22) ?_).2.2; exact (by (with_reducible repeat (first | apply Kd.R_alloc | apply Kd.R_drewN | apply Kd.R_drew)); exact (Kd.R_mono (Kd.R_far (p := ⟨gb158, 2, none⟩) (Kd.R_far (p := ⟨gb158, 1, none⟩) (Kd.R_far (p := ⟨gb158, 0, none⟩) (Kd.R_types HO_9.out BK158.out (by decide)) (fun _ hk => hk.2) (.int .i64 ((rd_T41 l1 x27_1).f0))) (fun _ hk => hk.2) (.int .i64 ((rd_T41 l1 x27_1).f1))) (fun _ hk => hk.2) (.int .i64 ((rd_T41 l1 x27_1).f2))) (fun _ h_ => h_.1)))); (case side2 => exact (Kd.R_reads' HO_9.out).2.1); rintro e w23 ⟨v160, rfl, ho0, hb⟩; refine ⟨_, rfl, ?_⟩; have HO161 := Aside0.mk (Kd.R_lower (Kd.R_new' ho0 (Kd.R_lt (by (with_reducible repeat (first | apply Kd.R_alloc | apply Kd.R_drewN | apply Kd.R_drew)); exact (Kd.R_mono (Kd.R_far (p := ⟨gb158, 2, none⟩) (Kd.R_far (p := ⟨gb158, 1, none⟩) (Kd.R_far (p := ⟨gb158, 0, none⟩) (Kd.R_types HO_9.out BK158.out (by decide)) (fun _ hk => hk.2) (.int .i64 ((rd_T41 l1 x27_1).f0))) (fun _ hk => hk.2) (.int .i64 ((rd_T41 l1 x27_1).f1))) (fun _ hk => hk.2) (.int .i64 ((rd_T41 l1 x27_1).f2))) (fun _ h_ => h_.1))))) (below_size (xW HB))); replace HO_9 := Aside0.mk (Kd.R_elder' (by (with_reducible repeat (first | apply Kd.R_alloc | apply Kd.R_drewN | apply Kd.R_drew)); exact (Kd.R_mono (Kd.R_far (p := ⟨gb158, 2, none⟩) (Kd.R_far (p := ⟨gb158, 1, none⟩) (Kd.R_far (p := ⟨gb158, 0, none⟩) (Kd.R_types HO_9.out BK158.out (by decide)) (fun _ hk => hk.2) (.int .i64 ((rd_T41 l1 x27_1).f0))) (fun _ hk => hk.2) (.int .i64 ((rd_T41 l1 x27_1).f1))) (fun _ hk => hk.2) (.int .i64 ((rd_T41 l1 x27_1).f2))) (fun _ h_ => h_.1))) (Kd.R_base ho0) hb); replace BK158 := Aside0.mk (xP (l' := [.int .i64 ((rd_T41 l1 x27_1).f0), .int .i64 ((rd_T41 l1 x27_1).f1), .int .i64 ((rd_T41 l1 x27_1).f2)]) BK158 hb); replace HB := Aside0.mk (xS HB hb); (try clear hb); (try clear hb2); (try clear hk); (try clear hi); (try clear ho0)))
           go_ret2
           exact ⟨_, xer, by first | exact Kd.R_nil _ _ _ _ _ | exact Kd.N_nil _ _ _ _ _ | exact Kd.V_nil _ _ _ _ _ | exact Kd.Q_nil _ _ _ _ _ | exact Kd.S_nil _ _ _ _ _, xW HB⟩
        ·rw [if_neg c13] at H
         exact absurd H (by simp)
       ·rw [if_neg c12] at H
        exact absurd H (by simp)
      ·rw [if_neg c11] at H
       have c11b0 : decide (x27_1 < (l1.length : Int)) = false := decide_eq_false c11
       clear c11
       as_aux_lemma =>
        simp only [Option.some.injEq, Prod.mk.injEq] at H
        obtain ⟨rfl, rfl⟩ := H
        go_wp2
        go_ret2
        exact ⟨_, xer, by (with_reducible repeat (first | apply Kd.R_alloc | apply Kd.R_drewN | apply Kd.R_drew)); exact HO_9.out, xW HB⟩
   ·rw [if_neg c7] at H
    exact absurd H (by simp)
 ·rw [if_neg c5] at H
  have c5b0 : (t150 == 0) = false := beq_eq_false_iff_ne.mpr c5
  have c5b1 : (t150 != 0) = true := bne_iff_ne.mpr c5
  as_aux_lemma =>
   simp only [Option.some.injEq, Prod.mk.injEq] at H
   obtain ⟨rfl, rfl⟩ := H
   go_enter Tryd.func15, Tryd.ntmps15
   go_wp2_with (first | ((with_reducible refine gate_callee (f := 16) rfl ?_); refine goesL_ (some 15) rfl rfl Tryd.func16 (by kernel_rfl) rfl #[.slice A0 l0.length c0] rfl (by (try simp only [List.map_toArray, List.map_cons, List.map_nil]); first | done | rfl | (simp only [List.length_drop, List.length_take]; rfl)) ?_; (with_reducible refine (rating_Check.calls k _ _ l0 t150 _ ?side1 ?side2 A4.out).mono ?_); (case side1 => repeat (first | exact HR0.out | (with_reducible refine Kd.C_alloc ?_ _) | (with_reducible refine Kd.C_drewN ?_ _) | (with_reducible refine Kd.C_drew ?_))); (case side2 => exact HC0.out); rintro e w' ⟨rfl, ⟨nd, rfl⟩⟩; refine ⟨_, rfl, ?_⟩))
   go_ret2
   exact ⟨_, xer, by first | exact Kd.R_nil _ _ _ _ _ | exact Kd.N_nil _ _ _ _ _ | exact Kd.V_nil _ _ _ _ _ | exact Kd.Q_nil _ _ _ _ _ | exact Kd.S_nil _ _ _ _ _, xW HB⟩

/-! ### gamehalllaw3_sameInts: function 19 -/
def gamehalllaw3_sameInts.l0 : Nat → List Int → List Int → Int → Int → Option (Bool)
  | 0, _, _, _, _ => none
  | k + 1, x0, x1, x12, x13 => if x13 < x12 then (if 0 ≤ x13 then (if x13 < (x0.length : Int) then (if x13 < (x1.length : Int) then (if (rd x0 x13) = (rd x1 x13) then (gamehalllaw3_sameInts.l0 k x0 x1 x12 (wrap64 (x13 + 1))) else (some false)) else (none)) else (none)) else (none)) else (some true)
def gamehalllaw3_sameInts.f (k : Nat) (l0 : List Int) (l1 : List Int) : Option (Bool) := if (l0.length : Int) = (l1.length : Int) then (gamehalllaw3_sameInts.l0 k l0 l1 (l0.length : Int) 0) else (some false)
theorem gamehalllaw3_sameInts.mono_l : ∀ k, (∀ y0 y1 y2 y3, LeO (gamehalllaw3_sameInts.l0 k y0 y1 y2 y3) (gamehalllaw3_sameInts.l0 (k + 1) y0 y1 y2 y3))
  | 0 => fun _ _ _ _ r h => by simp [gamehalllaw3_sameInts.l0] at h
  | k + 1 => by
    have ih0 := gamehalllaw3_sameInts.mono_l k
    · intros
      unfold gamehalllaw3_sameInts.l0
      repeat' first
      | (with_reducible apply ih0)
      | (with_reducible exact LeO.refl _)
      | (with_reducible exact LeO.none _)
      | (with_reducible refine LeO.ite ?_ ?_)
      | (with_reducible refine LeO.bind ?_ (fun _ => ?_))
      | apply ih0
      | exact LeO.none _
      | refine LeO.ite ?_ ?_
      | refine LeO.bind ?_ (fun _ => ?_)
theorem gamehalllaw3_sameInts.mono : ∀ a0 a1 k, LeO (gamehalllaw3_sameInts.f k a0 a1) (gamehalllaw3_sameInts.f (k + 1) a0 a1) := by
  intro a0 a1 k
  have ih0 := gamehalllaw3_sameInts.mono_l k
  unfold gamehalllaw3_sameInts.f
  repeat' first
      | (with_reducible apply ih0)
      | (with_reducible exact LeO.refl _)
      | (with_reducible exact LeO.none _)
      | (with_reducible refine LeO.ite ?_ ?_)
      | (with_reducible refine LeO.bind ?_ (fun _ => ?_))
      | apply ih0
      | exact LeO.none _
      | refine LeO.ite ?_ ?_
      | refine LeO.bind ?_ (fun _ => ?_)
set_option maxHeartbeats 8000000 in
set_option maxRecDepth 100000 in
theorem gamehalllaw3_sameInts.calls (k : Nat) (A0 : Option Addr) (c0 : Nat) (l0 : List Int) (A1 : Option Addr) (c1 : Nat) (l1 : List Int) (r : Bool) (w : World) (hr0 : Kd.C (Kd.int .i64) w A0 l0.length l0) (hc0 : l0.length ≤ c0) (hr1 : Kd.C (Kd.int .i64) w A1 l1.length l1) (hc1 : l1.length ≤ c1) (h : gamehalllaw3_sameInts.f k l0 l1 = some r) :
    Calls Tryd.prog 19 #[.slice A0 l0.length c0, .slice A1 l1.length c1] w fun e w' => e = .returned (.bool r) ∧ Drawn0 w w' := by
 have HR0 := Aside0.mk hr0; have HC0 := Aside0.mk hc0; clear hr0 hc0; have HR1 := Aside0.mk hr1; have HC1 := Aside0.mk hc1; clear hr1 hc1
 have H : (if (l0.length : Int) = (l1.length : Int) then (gamehalllaw3_sameInts.l0 k l0 l1 (l0.length : Int) 0) else (some false)) = some r := h
 clear h
 by_cases c3 : (l0.length : Int) = (l1.length : Int)
 ·rw [if_pos c3] at H
  have c3b0 : ((l0.length : Int) == (l1.length : Int)) = true := beq_iff_eq.mpr c3
  have c3b1 : ((l0.length : Int) != (l1.length : Int)) = false := bne_eq_false_iff_eq.mpr c3
  have c3b2 : (l0.length == l1.length) = true := by first | simpa using c3 | (simp at c3 ⊢; omega)
  clear c3
  have H' := Aside0.mk H
  clear H
  go_enter Tryd.func19, Tryd.ntmps19
  go_wp2
  repeat (go_quiet (fail); try go_wp2)
  go_loopg [13] k (fun kq vs13 w' => ∃ (x13_1 : Int), vs13 = .int .i64 x13_1 ∧ Aside0 (gamehalllaw3_sameInts.l0 kq l0 l1 (l0.length : Int) x13_1 = some r) ∧ Aside0 (kq ≤ k) ∧ Drawn0 w w')
  case atStart => exact ⟨(0), (xrf), H', ⟨Nat.le_refl _⟩, by repeat (first | exact Drawn0.refl _ | apply Drawn0.step)⟩
  case round =>
   clear H'; (try clear p2)
   obtain ⟨x13_1, rfl, HA, HK1, ⟨m1, rfl⟩⟩ := hrel
   cases gk with
   | zero => exact absurd HA.out (by simp [gamehalllaw3_sameInts.l0])
   | succ k1 =>
    have H := HA.out; clear HA
    simp only [gamehalllaw3_sameInts.l0] at H
    by_cases c4 : x13_1 < (l0.length : Int)
    ·rw [if_pos c4] at H
     have c4b0 : decide (x13_1 < (l0.length : Int)) = true := decide_eq_true c4
     clear c4
     by_cases c5 : 0 ≤ x13_1
     ·rw [if_pos c5] at H
      have c5b0 : decide (0 ≤ x13_1) = true := decide_eq_true c5
      clear c5
      by_cases c6 : x13_1 < (l0.length : Int)
      ·rw [if_pos c6] at H
       have c6b0 : decide (x13_1 < (l0.length : Int)) = true := decide_eq_true c6
       clear c6
       by_cases c7 : x13_1 < (l1.length : Int)
       ·rw [if_pos c7] at H
        have c7b0 : decide (x13_1 < (l1.length : Int)) = true := decide_eq_true c7
        clear c7
        by_cases c8 : (rd l0 x13_1) = (rd l1 x13_1)
        ·rw [if_pos c8] at H
         have c8b0 : ((rd l0 x13_1) == (rd l1 x13_1)) = true := beq_iff_eq.mpr c8
         have c8b1 : ((rd l0 x13_1) != (rd l1 x13_1)) = false := bne_eq_false_iff_eq.mpr c8
         clear c8
         as_aux_lemma =>
          have H' := Aside0.mk H
          clear H
          have p163 : 0 ≤ (x13_1 : Int) := of_decide_eq_true (by first | (with_reducible assumption) | assumption)
          have q163 : x13_1 < (l0.length : Int) := of_decide_eq_true (by first | (with_reducible assumption) | assumption)
          obtain ⟨ad163, e163, hx163_0⟩ := Kd.at_int HR0.out x13_1 p163 q163
          cases e163
          replace p163 := eq_true p163; replace q163 := eq_true q163
          have p164 : 0 ≤ (x13_1 : Int) := of_decide_eq_true (by first | (with_reducible assumption) | assumption)
          have q164 : x13_1 < (l1.length : Int) := of_decide_eq_true (by first | (with_reducible assumption) | assumption)
          obtain ⟨ad164, e164, hx164_0⟩ := Kd.at_int HR1.out x13_1 p164 q164
          cases e164
          replace p164 := eq_true p164; replace q164 := eq_true q164
          go_wp2
          repeat (go_quiet (fail); try go_wp2)
          go_roundg k1
          case measure => have := HK1.out; omega
          case rel => exact ⟨(wrap64 (x13_1 + 1)), (xrf), H', ⟨by have := HK1.out; omega⟩, by repeat (first | exact Drawn0.refl _ | apply Drawn0.step)⟩
        ·rw [if_neg c8] at H
         have c8b0 : ((rd l0 x13_1) == (rd l1 x13_1)) = false := beq_eq_false_iff_ne.mpr c8
         have c8b1 : ((rd l0 x13_1) != (rd l1 x13_1)) = true := bne_iff_ne.mpr c8
         as_aux_lemma =>
          obtain rfl := Option.some.inj H
          have p163 : 0 ≤ (x13_1 : Int) := of_decide_eq_true (by first | (with_reducible assumption) | assumption)
          have q163 : x13_1 < (l0.length : Int) := of_decide_eq_true (by first | (with_reducible assumption) | assumption)
          obtain ⟨ad163, e163, hx163_0⟩ := Kd.at_int HR0.out x13_1 p163 q163
          cases e163
          replace p163 := eq_true p163; replace q163 := eq_true q163
          have p164 : 0 ≤ (x13_1 : Int) := of_decide_eq_true (by first | (with_reducible assumption) | assumption)
          have q164 : x13_1 < (l1.length : Int) := of_decide_eq_true (by first | (with_reducible assumption) | assumption)
          obtain ⟨ad164, e164, hx164_0⟩ := Kd.at_int HR1.out x13_1 p164 q164
          cases e164
          replace p164 := eq_true p164; replace q164 := eq_true q164
          go_wp2
          repeat (go_quiet (fail); try go_wp2)
          go_ret
          exact ⟨xrf, by repeat (first | exact Drawn0.refl _ | apply Drawn0.step)⟩
       ·rw [if_neg c7] at H
        exact absurd H (by simp)
      ·rw [if_neg c6] at H
       exact absurd H (by simp)
     ·rw [if_neg c5] at H
      exact absurd H (by simp)
    ·rw [if_neg c4] at H
     have c4b0 : decide (x13_1 < (l0.length : Int)) = false := decide_eq_false c4
     clear c4
     as_aux_lemma =>
      obtain rfl := Option.some.inj H
      go_wp2
      repeat (go_quiet (fail); try go_wp2)
      go_ret
      exact ⟨xrf, by repeat (first | exact Drawn0.refl _ | apply Drawn0.step)⟩
 ·rw [if_neg c3] at H
  have c3b0 : ((l0.length : Int) == (l1.length : Int)) = false := beq_eq_false_iff_ne.mpr c3
  have c3b1 : ((l0.length : Int) != (l1.length : Int)) = true := bne_iff_ne.mpr c3
  have c3b2 : (l0.length == l1.length) = false := by first | simpa using c3 | (simp at c3 ⊢; omega)
  as_aux_lemma =>
   obtain rfl := Option.some.inj H
   go_enter Tryd.func19, Tryd.ntmps19
   go_wp2
   repeat (go_quiet (fail); try go_wp2)
   go_ret
   exact ⟨xrf, by repeat (first | exact Drawn0.refl _ | apply Drawn0.step)⟩

end Go.Proofs.YtcncilipmekfhaaDoor.PRatingMoves
