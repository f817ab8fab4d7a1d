-- Printed by a program of this claim's writer (wip/ext): an extension of the kit's print.
import Derived.Test.YtloadbbndnmdlaaPZobKeysx0
namespace Go.Proofs.Ytloadbbndnmdlaa.PZobKeys
open Go.RowKit Go.Proofs.YtloadbbndnmdlaaW.PrintWords Go.Proofs.YtloadbbndnmdlaaW.PrintLast Go.Proofs.YtloadbbndnmdlaaW.PrintMore
set_option maxHeartbeats 8000000
set_option maxRecDepth 100000
attribute [local go_sem] max2_int min2_int max_two min_two max_three min_three max_four min_four   -- for this text's walks alone
set_option linter.unusedVariables false
set_option linter.unusedSimpArgs false

/-! ### gamehalllaw1_three: function 8 -/
def gamehalllaw1_three.f  : Option (ByteArray × Int × Int × (List (S62)) × List Int × Bool × Bool × (List (S64)) × Int × Int × Int) := if 9 ≤ 35184372088832 then (some ((⟨#[84, 73, 67]⟩ : ByteArray), 3, 3, (([(⟨65, 5, 0, ([] : List (S74))⟩ : S62)] : List (S62))), (List.replicate 9 0), false, false, (([(⟨0, 0, 3, false⟩ : S64)] : List (S64))), 2, 0, 0)) else (none)
theorem gamehalllaw1_three.calls  (r1 : ByteArray) (r2 : Int) (r3 : Int) (r4 : List (S62)) (r5 : List Int) (r6 : Bool) (r7 : Bool) (r8 : List (S64)) (r9 : Int) (r10 : Int) (r11 : Int) (w : World) (h : gamehalllaw1_three.f  = some (r1, r2, r3, r4, r5, r6, r7, r8, r9, r10, r11)) :
    Calls Try.prog 8 #[] w fun e w' => ∃ v3_ v4_ v7_ : Value, e = .returned (.agg #[.string r1, .int .i64 r2, .int .i64 r3, v3_, v4_, .bool r6, .bool r7, v7_, .int .i64 r9, .int .i64 r10, .int .i64 r11]) ∧ Kd.S k62 62 w' w.heap.size (fun _ => True) v3_ r4 ∧ Kd.R (Kd.int .i64) 3 w' w.heap.size (fun _ => True) v4_ r5 ∧ Kd.R k64 64 w' w.heap.size (fun _ => True) v7_ r8 ∧ Below w.heap.size w w' := by
 have hu26 := Try.underlying26; have hu62 := Try.underlying62; have hu64 := Try.underlying64; have HB := xm (Below.refl w.heap.size w); have hss_ := @isSome_setCell
 have H : (if 9 ≤ 35184372088832 then (some ((⟨#[84, 73, 67]⟩ : ByteArray), 3, 3, (([(⟨65, 5, 0, ([] : List (S74))⟩ : S62)] : List (S62))), (List.replicate 9 0), false, false, (([(⟨0, 0, 3, false⟩ : S64)] : List (S64))), 2, 0, 0)) else (none)) = some (r1, r2, r3, r4, r5, r6, r7, r8, r9, r10, r11) := h
 clear h
 obtain ⟨y102, hy102⟩ : ∃ y_ : List (S62), y_ = (([(⟨65, 5, 0, ([] : List (S74))⟩ : S62)] : List (S62))) := ⟨_, rfl⟩
 replace H : (if 9 ≤ 35184372088832 then (some ((⟨#[84, 73, 67]⟩ : ByteArray), 3, 3, y102, (List.replicate 9 0), false, false, (([(⟨0, 0, 3, false⟩ : S64)] : List (S64))), 2, 0, 0)) else (none)) = some (r1, r2, r3, r4, r5, r6, r7, r8, r9, r10, r11) := by first | (rw [hy102]; with_reducible exact H) | (have H2_ := (Option.bind_some _ _).symm.trans H; rw [hy102]; with_reducible exact H2_) | (have H2_ := (Option.bind_some _ _).symm.trans H; with_reducible exact H2_) | with_reducible exact H | (rw [hy102]; exact H) | exact H
 have Ny102 := xm hy102; clear hy102
 by_cases c1 : 9 ≤ 35184372088832
 ·rw [if_pos c1] at H
  have c1b0 := eq_true c1
  have c1b1 := decide_eq_true c1
  clear c1
  obtain ⟨y105, hy105⟩ : ∃ y_ : List Int, y_ = (List.replicate 9 0) := ⟨_, rfl⟩
  replace H : (some ((⟨#[84, 73, 67]⟩ : ByteArray), 3, 3, y102, y105, false, false, (([(⟨0, 0, 3, false⟩ : S64)] : List (S64))), 2, 0, 0)) = some (r1, r2, r3, r4, r5, r6, r7, r8, r9, r10, r11) := by first | (rw [hy105]; with_reducible exact H) | (have H2_ := (Option.bind_some _ _).symm.trans H; rw [hy105]; with_reducible exact H2_) | (have H2_ := (Option.bind_some _ _).symm.trans H; with_reducible exact H2_) | with_reducible exact H | (rw [hy105]; exact H) | exact H
  have Ny105 := xm hy105; clear hy105
  obtain ⟨y108, hy108⟩ : ∃ y_ : List (S64), y_ = (([(⟨0, 0, 3, false⟩ : S64)] : List (S64))) := ⟨_, rfl⟩
  replace H : (some ((⟨#[84, 73, 67]⟩ : ByteArray), 3, 3, y102, y105, false, false, y108, 2, 0, 0)) = some (r1, r2, r3, r4, r5, r6, r7, r8, r9, r10, r11) := by first | (rw [hy108]; with_reducible exact H) | (have H2_ := (Option.bind_some _ _).symm.trans H; rw [hy108]; with_reducible exact H2_) | (have H2_ := (Option.bind_some _ _).symm.trans H; with_reducible exact H2_) | with_reducible exact H | (rw [hy108]; exact H) | exact H
  have Ny108 := xm hy108; clear hy108
  simp only [Option.some.injEq, Prod.mk.injEq] at H
  obtain ⟨rfl, rfl, rfl, rfl, rfl, rfl, rfl, rfl, rfl, rfl, rfl⟩ := H
  go_enter Try.func8, Try.ntmps8
  go_wp2_with (first | ((with_reducible refine gate_dst (N := 0) rfl ?_); refine xG (cs := #[.string (⟨#[]⟩ : ByteArray), .int .i64 0, .int .i64 0, .slice none 0 0, .slice none 0 0, .bool false, .bool false, .slice none 0 0, .int .i64 0, .int .i64 0, .int .i64 0]) (t := 26) ?_; intro gb101 hg w2 hbox hb; have BK101 := xm (hbox); have GW101 := xm (xZ HB hg); have GE101 := xm (xZ HB hg); replace HB := xm (xS HB hb); clear hb hbox hg) | ((with_reducible refine gate_dst (N := 2) rfl ?_); refine Kd.S_lit k62 _ 62 ?hg (N := 2) ?hd (xs := ([(⟨65, 5, 0, ([] : List (S74))⟩ : S62)] : List (S62))) (inner := [.int .u8 65, .int .i64 5, .int .i64 0, .slice none 0 0]) (ok := fun _ => True) (okp := fun _ => True) ?hr ?hp (fun _ hk => hk) trivial (Below.refl _ _) (Nat.le_refl _) (by simp) ?_; (case hd => rfl); (case hg => rfl); (case hr => first | (go_simp; done) | (go_simp; rfl)); (case hp => exact (Reps.c4 (show Kd.M k62 _ _ _ (⟨65, 5, 0, ([] : List (S74))⟩ : S62) [.int .u8 65, .int .i64 5, .int .i64 0, .slice none 0 0] from (k62_mkM _ _ _ (⟨65, 5, 0, ([] : List (S74))⟩ : S62) (Kd.R_nil _ _ _ _ _))) (Reps.none _ _))); intro v103 w3 ho4 hb hg_ hnew_; clear hg_ hnew_; (first | rw [← Ny102.out] at ho4 | (simp only [Int.reduceToNat] at ho4; rw [← Ny102.out] at ho4)); have HO104 := xm (Kd.S_lower ho4 (below_size (xW HB))); replace BK101 := xm (xB BK101 hb); replace HB := xm (xS HB hb); clear hb ho4) | ((with_reducible refine gate_dst (N := 3) rfl ?_); refine Kd.R_make (Kd.int .i64) _ 3 rfl (N := 3) rfl 23 _ _ rfl 9 rfl rfl Try.underlying23 (.int .i64 0) 8 info3 rfl (by decide) (by omega) 0 (ok := fun _ => True) (okp := fun _ => True) rfl (fun _ hk => hk) trivial (by omega) (by omega) (Below.refl _ _) (Nat.le_refl _) ?_; intro v106 w5 ho6 hb hg_ hnew_; clear hg_ hnew_; (first | rw [← Ny105.out] at ho6 | (simp only [Int.reduceToNat] at ho6; rw [← Ny105.out] at ho6)); have HO107 := xm (Kd.R_lower ho6 (below_size (xW HB))); replace HO104 := xm (Kd.S_below (yS HO104) hb); replace BK101 := xm (xB BK101 hb); replace HB := xm (xS HB hb); clear hb ho6) | ((with_reducible refine gate_dst (N := 5) rfl ?_); refine Kd.R_lit k64 _ 64 ?hg (N := 5) ?hd (xs := ([(⟨0, 0, 3, false⟩ : S64)] : List (S64))) (inner := [.int .i64 0, .int .i64 0, .int .i64 3, .bool false]) (ok := fun _ => True) (okp := fun _ => True) ?hr ?hp (fun _ hk => hk) trivial (Below.refl _ _) (Nat.le_refl _) (by simp) ?_; (case hd => rfl); (case hg => rfl); (case hr => first | (go_simp; done) | (go_simp; rfl)); (case hp => exact (Reps.c4 (show Kd.M k64 _ _ _ (⟨0, 0, 3, false⟩ : S64) [.int .i64 0, .int .i64 0, .int .i64 3, .bool false] from (k64_mkM _ _ _ (⟨0, 0, 3, false⟩ : S64) )) (Reps.none _ _))); intro v109 w7 ho8 hb hg_ hnew_; clear hg_ hnew_; (first | rw [← Ny108.out] at ho8 | (simp only [Int.reduceToNat] at ho8; rw [← Ny108.out] at ho8)); have HO110 := xm (Kd.R_lower ho8 (below_size (xW HB))); replace HO104 := xm (Kd.S_below (yS HO104) hb); replace HO107 := xm (Kd.R_below (yR HO107) hb); replace BK101 := xm (xB BK101 hb); replace HB := xm (xS HB hb); clear hb ho8; obtain ⟨Ao9, co9, eo9⟩ := Kd.R_slice HO110.out; subst eo9; obtain ⟨Ao10, co10, eo10⟩ := Kd.R_slice HO107.out; subst eo10; obtain ⟨Ao11, co11, eo11⟩ := Kd.S_slice HO104.out; subst eo11; have hcz12_0 := blkc11 BK101.out))
  refine bodyPost_ret (results_cell_row rfl _ _ gb101 26 #[.string (⟨#[84, 73, 67]⟩ : ByteArray), .int .i64 3, .int .i64 3, .slice Ao11 y102.length co11, .slice Ao10 y105.length co10, .bool false, .bool false, .slice Ao9 y108.length co9, .int .i64 2, .int .i64 0, .int .i64 0] (0, 0) _ rfl (xQ BK101) Try.underlying26 rfl (by kernel_rfl)) rfl ?_
  exact ⟨_, _, _, xer, by (with_reducible repeat (first | apply Kd.S_alloc | apply Kd.S_drewN | apply Kd.S_drew)); exact Kd.S_mono (Kd.S_far (p := ⟨gb101, 10, none⟩) (Kd.S_far (p := ⟨gb101, 9, none⟩) (Kd.S_far (p := ⟨gb101, 8, none⟩) (Kd.S_far (p := ⟨gb101, 7, none⟩) (Kd.S_far (p := ⟨gb101, 6, none⟩) (Kd.S_far (p := ⟨gb101, 5, none⟩) (Kd.S_far (p := ⟨gb101, 4, none⟩) (Kd.S_far (p := ⟨gb101, 3, none⟩) (Kd.S_far (p := ⟨gb101, 2, none⟩) (Kd.S_far (p := ⟨gb101, 1, none⟩) (Kd.S_far (p := ⟨gb101, 0, none⟩) (Kd.S_types HO104.out BK101.out (by decide)) (fun _ hk => hk.2) (.string (⟨#[84, 73, 67]⟩ : ByteArray))) (fun _ hk => hk.2) (.int .i64 3)) (fun _ hk => hk.2) (.int .i64 3)) (fun _ hk => hk.2) (.slice Ao11 y102.length co11)) (fun _ hk => hk.2) (.slice Ao10 y105.length co10)) (fun _ hk => hk.2) (.bool false)) (fun _ hk => hk.2) (.bool false)) (fun _ hk => hk.2) (.slice Ao9 y108.length co9)) (fun _ hk => hk.2) (.int .i64 2)) (fun _ hk => hk.2) (.int .i64 0)) (fun _ hk => hk.2) (.int .i64 0)) (fun _ hk => trivial), by (with_reducible repeat (first | apply Kd.R_alloc | apply Kd.R_drewN | apply Kd.R_drew)); exact Kd.R_mono (Kd.R_far (p := ⟨gb101, 10, none⟩) (Kd.R_far (p := ⟨gb101, 9, none⟩) (Kd.R_far (p := ⟨gb101, 8, none⟩) (Kd.R_far (p := ⟨gb101, 7, none⟩) (Kd.R_far (p := ⟨gb101, 6, none⟩) (Kd.R_far (p := ⟨gb101, 5, none⟩) (Kd.R_far (p := ⟨gb101, 4, none⟩) (Kd.R_far (p := ⟨gb101, 3, none⟩) (Kd.R_far (p := ⟨gb101, 2, none⟩) (Kd.R_far (p := ⟨gb101, 1, none⟩) (Kd.R_far (p := ⟨gb101, 0, none⟩) (Kd.R_types HO107.out BK101.out (by decide)) (fun _ hk => hk.2) (.string (⟨#[84, 73, 67]⟩ : ByteArray))) (fun _ hk => hk.2) (.int .i64 3)) (fun _ hk => hk.2) (.int .i64 3)) (fun _ hk => hk.2) (.slice Ao11 y102.length co11)) (fun _ hk => hk.2) (.slice Ao10 y105.length co10)) (fun _ hk => hk.2) (.bool false)) (fun _ hk => hk.2) (.bool false)) (fun _ hk => hk.2) (.slice Ao9 y108.length co9)) (fun _ hk => hk.2) (.int .i64 2)) (fun _ hk => hk.2) (.int .i64 0)) (fun _ hk => hk.2) (.int .i64 0)) (fun _ hk => trivial), by (with_reducible repeat (first | apply Kd.R_alloc | apply Kd.R_drewN | apply Kd.R_drew)); exact Kd.R_mono (Kd.R_far (p := ⟨gb101, 10, none⟩) (Kd.R_far (p := ⟨gb101, 9, none⟩) (Kd.R_far (p := ⟨gb101, 8, none⟩) (Kd.R_far (p := ⟨gb101, 7, none⟩) (Kd.R_far (p := ⟨gb101, 6, none⟩) (Kd.R_far (p := ⟨gb101, 5, none⟩) (Kd.R_far (p := ⟨gb101, 4, none⟩) (Kd.R_far (p := ⟨gb101, 3, none⟩) (Kd.R_far (p := ⟨gb101, 2, none⟩) (Kd.R_far (p := ⟨gb101, 1, none⟩) (Kd.R_far (p := ⟨gb101, 0, none⟩) (Kd.R_types HO110.out BK101.out (by decide)) (fun _ hk => hk.2) (.string (⟨#[84, 73, 67]⟩ : ByteArray))) (fun _ hk => hk.2) (.int .i64 3)) (fun _ hk => hk.2) (.int .i64 3)) (fun _ hk => hk.2) (.slice Ao11 y102.length co11)) (fun _ hk => hk.2) (.slice Ao10 y105.length co10)) (fun _ hk => hk.2) (.bool false)) (fun _ hk => hk.2) (.bool false)) (fun _ hk => hk.2) (.slice Ao9 y108.length co9)) (fun _ hk => hk.2) (.int .i64 2)) (fun _ hk => hk.2) (.int .i64 0)) (fun _ hk => hk.2) (.int .i64 0)) (fun _ hk => trivial), xW HB⟩
 ·exact absurd (by decide) c1

/-! ### gamehalllaw1_won: function 9 -/
def gamehalllaw1_won.f  : Option (List Int × List Int × List Int × Int × Int) := some ((([1, 1, 1, 2, 2, 0, 0, 0, 0] : List Int)), (([2] : List Int)), (([3] : List Int)), 1, 0)
theorem gamehalllaw1_won.calls  (r1 : List Int) (r2 : List Int) (r3 : List Int) (r4 : Int) (r5 : Int) (w : World) (h : gamehalllaw1_won.f  = some (r1, r2, r3, r4, r5)) :
    Calls Try.prog 9 #[] w fun e w' => ∃ v0_ v1_ v2_ : Value, e = .returned (.agg #[v0_, v1_, v2_, .int .i64 r4, .int .i64 r5]) ∧ Kd.R (Kd.int .i64) 3 w' w.heap.size (fun k_ => some k_ ≠ (v1_ : Value).ownBlock ∧ some k_ ≠ (v2_ : Value).ownBlock) v0_ r1 ∧ Kd.R (Kd.int .i64) 3 w' w.heap.size (fun k_ => some k_ ≠ (v0_ : Value).ownBlock ∧ some k_ ≠ (v2_ : Value).ownBlock) v1_ r2 ∧ Kd.R (Kd.int .i64) 3 w' w.heap.size (fun k_ => some k_ ≠ (v0_ : Value).ownBlock ∧ some k_ ≠ (v1_ : Value).ownBlock) v2_ r3 ∧ Below w.heap.size w w' := by
 have hu29 := Try.underlying29; have hu27 := Try.underlying27; have HB := xm (Below.refl w.heap.size w); have hss_ := @isSome_setCell
 have H : (some ((([1, 1, 1, 2, 2, 0, 0, 0, 0] : List Int)), (([2] : List Int)), (([3] : List Int)), 1, 0)) = some (r1, r2, r3, r4, r5) := h
 clear h
 obtain ⟨y112, hy112⟩ : ∃ y_ : List Int, y_ = (([1, 1, 1, 2, 2, 0, 0, 0, 0] : List Int)) := ⟨_, rfl⟩
 replace H : (some (y112, (([2] : List Int)), (([3] : List Int)), 1, 0)) = some (r1, r2, r3, r4, r5) := by first | (rw [hy112]; with_reducible exact H) | (have H2_ := (Option.bind_some _ _).symm.trans H; rw [hy112]; with_reducible exact H2_) | (have H2_ := (Option.bind_some _ _).symm.trans H; with_reducible exact H2_) | with_reducible exact H | (rw [hy112]; exact H) | exact H
 have Ny112 := xm hy112; clear hy112
 obtain ⟨y115, hy115⟩ : ∃ y_ : List Int, y_ = (([2] : List Int)) := ⟨_, rfl⟩
 replace H : (some (y112, y115, (([3] : List Int)), 1, 0)) = some (r1, r2, r3, r4, r5) := by first | (rw [hy115]; with_reducible exact H) | (have H2_ := (Option.bind_some _ _).symm.trans H; rw [hy115]; with_reducible exact H2_) | (have H2_ := (Option.bind_some _ _).symm.trans H; with_reducible exact H2_) | with_reducible exact H | (rw [hy115]; exact H) | exact H
 have Ny115 := xm hy115; clear hy115
 obtain ⟨y118, hy118⟩ : ∃ y_ : List Int, y_ = (([3] : List Int)) := ⟨_, rfl⟩
 replace H : (some (y112, y115, y118, 1, 0)) = some (r1, r2, r3, r4, r5) := by first | (rw [hy118]; with_reducible exact H) | (have H2_ := (Option.bind_some _ _).symm.trans H; rw [hy118]; with_reducible exact H2_) | (have H2_ := (Option.bind_some _ _).symm.trans H; with_reducible exact H2_) | with_reducible exact H | (rw [hy118]; exact H) | exact H
 have Ny118 := xm hy118; clear hy118
 simp only [Option.some.injEq, Prod.mk.injEq] at H
 obtain ⟨rfl, rfl, rfl, rfl, rfl⟩ := H
 go_enter Try.func9, Try.ntmps9
 go_wp2_with (first | ((with_reducible refine gate_dst (N := 0) rfl ?_); refine xG (cs := #[.slice none 0 0, .slice none 0 0, .slice none 0 0, .int .i64 0, .int .i64 0]) (t := 29) ?_; intro gb111 hg w1 hbox hb; have BK111 := xm (hbox); have GW111 := xm (xZ HB hg); have GE111 := xm (xZ HB hg); replace HB := xm (xS HB hb); clear hb hbox hg) | ((with_reducible refine gate_dst (N := 1) rfl ?_); refine Kd.R_lit (Kd.int .i64) _ 3 ?hg (N := 1) ?hd (xs := ([1, 1, 1, 2, 2, 0, 0, 0, 0] : List Int)) (inner := [.int .i64 1, .int .i64 1, .int .i64 1, .int .i64 2, .int .i64 2, .int .i64 0, .int .i64 0, .int .i64 0, .int .i64 0]) (ok := fun _ => True) (okp := fun _ => True) ?hr ?hp (fun _ hk => hk) trivial (Below.refl _ _) (Nat.le_refl _) (by simp) ?_; (case hd => rfl); (case hg => rfl); (case hr => first | (go_simp; done) | (go_simp; rfl)); (case hp => exact (Reps.one (show Kd.M (Kd.int .i64) _ _ _ 1 [.int .i64 1] from rfl) (Reps.one (show Kd.M (Kd.int .i64) _ _ _ 1 [.int .i64 1] from rfl) (Reps.one (show Kd.M (Kd.int .i64) _ _ _ 1 [.int .i64 1] from rfl) (Reps.one (show Kd.M (Kd.int .i64) _ _ _ 2 [.int .i64 2] from rfl) (Reps.one (show Kd.M (Kd.int .i64) _ _ _ 2 [.int .i64 2] from rfl) (Reps.one (show Kd.M (Kd.int .i64) _ _ _ 0 [.int .i64 0] from rfl) (Reps.one (show Kd.M (Kd.int .i64) _ _ _ 0 [.int .i64 0] from rfl) (Reps.one (show Kd.M (Kd.int .i64) _ _ _ 0 [.int .i64 0] from rfl) (Reps.one (show Kd.M (Kd.int .i64) _ _ _ 0 [.int .i64 0] from rfl) (Reps.none _ _))))))))))); intro v113 w2 ho3 hb hg_ hnew_; clear hg_ hnew_; (first | rw [← Ny112.out] at ho3 | (simp only [Int.reduceToNat] at ho3; rw [← Ny112.out] at ho3)); have HO114 := xm (Kd.R_lower ho3 (below_size (xW HB))); replace BK111 := xm (xB BK111 hb); replace HB := xm (xS HB hb); clear hb ho3) | ((with_reducible refine gate_dst (N := 2) rfl ?_); refine Kd.R_lit (Kd.int .i64) _ 3 ?hg (N := 2) ?hd (xs := ([2] : List Int)) (inner := [.int .i64 2]) (ok := fun _ => True) (okp := fun _ => True) ?hr ?hp (fun _ hk => hk) trivial (Below.refl _ _) (Nat.le_refl _) (by simp) ?_; (case hd => rfl); (case hg => rfl); (case hr => first | (go_simp; done) | (go_simp; rfl)); (case hp => exact (Reps.one (show Kd.M (Kd.int .i64) _ _ _ 2 [.int .i64 2] from rfl) (Reps.none _ _))); intro v116 w4 ho5 hb hg_ hnew_; clear hg_ hnew_; (first | rw [← Ny115.out] at ho5 | (simp only [Int.reduceToNat] at ho5; rw [← Ny115.out] at ho5)); have HO117 := xm (Kd.R_lower (Kd.R_new' ho5 (Kd.R_lt (yR HO114))) (below_size (xW HB))); replace HO114 := xm (Kd.R_elder' (yR HO114) (Kd.R_base ho5) hb); replace BK111 := xm (xB BK111 hb); replace HB := xm (xS HB hb); clear hb ho5) | ((with_reducible refine gate_dst (N := 3) rfl ?_); refine Kd.R_lit (Kd.int .i64) _ 3 ?hg (N := 3) ?hd (xs := ([3] : List Int)) (inner := [.int .i64 3]) (ok := fun _ => True) (okp := fun _ => True) ?hr ?hp (fun _ hk => hk) trivial (Below.refl _ _) (Nat.le_refl _) (by simp) ?_; (case hd => rfl); (case hg => rfl); (case hr => first | (go_simp; done) | (go_simp; rfl)); (case hp => exact (Reps.one (show Kd.M (Kd.int .i64) _ _ _ 3 [.int .i64 3] from rfl) (Reps.none _ _))); intro v119 w6 ho7 hb hg_ hnew_; clear hg_ hnew_; (first | rw [← Ny118.out] at ho7 | (simp only [Int.reduceToNat] at ho7; rw [← Ny118.out] at ho7)); have HO120 := xm (Kd.R_lower (Kd.R_new' (Kd.R_new' ho7 (Kd.R_lt (yR HO114))) (Kd.R_lt (yR HO117))) (below_size (xW HB))); replace HO114 := xm (Kd.R_elder' (yR HO114) (Kd.R_base ho7) hb); replace HO117 := xm (Kd.R_elder' (yR HO117) (Kd.R_base ho7) hb); replace BK111 := xm (xB BK111 hb); replace HB := xm (xS HB hb); clear hb ho7; obtain ⟨Ao8, co8, eo8⟩ := Kd.R_slice HO120.out; subst eo8; obtain ⟨Ao9, co9, eo9⟩ := Kd.R_slice HO117.out; subst eo9; obtain ⟨Ao10, co10, eo10⟩ := Kd.R_slice HO114.out; subst eo10; have hcz11_0 := blkc5 BK111.out))
 refine bodyPost_ret (results_cell_row rfl _ _ gb111 29 #[.slice Ao10 y112.length co10, .slice Ao9 y115.length co9, .slice Ao8 y118.length co8, .int .i64 1, .int .i64 0] (0, 0) _ rfl (xQ BK111) Try.underlying29 rfl (by kernel_rfl)) rfl ?_
 exact ⟨_, _, _, xer, by (with_reducible repeat (first | apply Kd.R_alloc | apply Kd.R_drewN | apply Kd.R_drew)); exact Kd.R_mono (Kd.R_far (p := ⟨gb111, 4, none⟩) (Kd.R_far (p := ⟨gb111, 3, none⟩) (Kd.R_far (p := ⟨gb111, 2, none⟩) (Kd.R_far (p := ⟨gb111, 1, none⟩) (Kd.R_far (p := ⟨gb111, 0, none⟩) (Kd.R_types HO114.out BK111.out (by decide)) (fun _ hk => hk.2) (.slice Ao10 y112.length co10)) (fun _ hk => hk.2) (.slice Ao9 y115.length co9)) (fun _ hk => hk.2) (.slice Ao8 y118.length co8)) (fun _ hk => hk.2) (.int .i64 1)) (fun _ hk => hk.2) (.int .i64 0)) (fun _ hk => ⟨hk.1.1.2, hk.1.2⟩), by (with_reducible repeat (first | apply Kd.R_alloc | apply Kd.R_drewN | apply Kd.R_drew)); exact Kd.R_mono (Kd.R_far (p := ⟨gb111, 4, none⟩) (Kd.R_far (p := ⟨gb111, 3, none⟩) (Kd.R_far (p := ⟨gb111, 2, none⟩) (Kd.R_far (p := ⟨gb111, 1, none⟩) (Kd.R_far (p := ⟨gb111, 0, none⟩) (Kd.R_types HO117.out BK111.out (by decide)) (fun _ hk => hk.2) (.slice Ao10 y112.length co10)) (fun _ hk => hk.2) (.slice Ao9 y115.length co9)) (fun _ hk => hk.2) (.slice Ao8 y118.length co8)) (fun _ hk => hk.2) (.int .i64 1)) (fun _ hk => hk.2) (.int .i64 0)) (fun _ hk => ⟨hk.1.1.2, hk.1.2⟩), by (with_reducible repeat (first | apply Kd.R_alloc | apply Kd.R_drewN | apply Kd.R_drew)); exact Kd.R_mono (Kd.R_far (p := ⟨gb111, 4, none⟩) (Kd.R_far (p := ⟨gb111, 3, none⟩) (Kd.R_far (p := ⟨gb111, 2, none⟩) (Kd.R_far (p := ⟨gb111, 1, none⟩) (Kd.R_far (p := ⟨gb111, 0, none⟩) (Kd.R_types HO120.out BK111.out (by decide)) (fun _ hk => hk.2) (.slice Ao10 y112.length co10)) (fun _ hk => hk.2) (.slice Ao9 y115.length co9)) (fun _ hk => hk.2) (.slice Ao8 y118.length co8)) (fun _ hk => hk.2) (.int .i64 1)) (fun _ hk => hk.2) (.int .i64 0)) (fun _ hk => ⟨hk.1.1.2, hk.1.2⟩), xW HB⟩

/-! ### gamehallref1_In: function 29 -/
def gamehallref1_In.f (a0 : Int) (a1 : Int) (a2 : Int) : Option (Bool) := if a0 ≥ a1 then (some (decide (a0 ≤ a2))) else (some false)
theorem gamehallref1_In.calls (a0 : Int) (a1 : Int) (a2 : Int) (r : Bool) (w : World) (h : gamehallref1_In.f a0 a1 a2 = some r) :
    Calls Try.prog 29 #[.int .i64 a0, .int .i64 a1, .int .i64 a2] w fun e w' => e = .returned (.bool r) ∧ Drawn0 w w' := by
 have H : (if a0 ≥ a1 then (some (decide (a0 ≤ a2))) else (some false)) = some r := h
 clear h
 by_cases c4 : a0 ≥ a1
 ·rw [if_pos c4] at H
  have c4b0 := decide_eq_true c4
  clear c4
  obtain rfl := Option.some.inj H
  go_enter Try.func29, Try.ntmps29
  go_wp2
  go_ret
  exact ⟨xrf, by repeat (first | exact Drawn0.refl _ | apply Drawn0.step)⟩
 ·rw [if_neg c4] at H
  have c4b0 := decide_eq_false c4
  clear c4
  obtain rfl := Option.some.inj H
  go_enter Try.func29, Try.ntmps29
  go_wp2
  go_ret
  exact ⟨xrf, by repeat (first | exact Drawn0.refl _ | apply Drawn0.step)⟩

/-! ### gamehallref1_Named: function 45 -/
def gamehallref1_Named.l0 : Nat → ByteArray → Int → Int → Option (Bool)
  | 0, _, _, _ => none
  | k + 1, x0, x6, x7 => if x7 < x6 then (if 0 ≤ x7 then (if x7 < (x0.size : Int) then ((gamehallref1_In.f (wrap64 (bt x0 x7)) 48 57).bind fun t122 => (if t122 = true then (if x7 = 0 then (some false) else (gamehallref1_Named.l0 k x0 x6 (wrap64 (x7 + 1)))) else ((gamehallref1_In.f (wrap64 (bt x0 x7)) 65 90).bind fun t123 => (if t123 = true then (gamehallref1_Named.l0 k x0 x6 (wrap64 (x7 + 1))) else (some false))))) else (none)) else (none)) else ((gamehallref1_In.f (x0.size : Int) 1 8).bind fun t121 => (some t121))
def gamehallref1_Named.f (k : Nat) (a0 : ByteArray) : Option (Bool) := gamehallref1_Named.l0 k a0 (a0.size : Int) 0
theorem gamehallref1_Named.mono_l : ∀ k, LM (LM (LM (LeO))) (gamehallref1_Named.l0 k) (gamehallref1_Named.l0 (k + 1))
  | 0 => by (repeat (first | exact LeO.none _ | intro _))
  | k + 1 => by
    have ih0 := gamehallref1_Named.mono_l k
    ((repeat (first | (with_reducible refine LeO.st ?_) | intro _)); constructor; (first | unfold gamehallref1_Named.l0); repeat' first | (with_reducible first | apply ih0 | exact LeO.refl _ | exact LeO.none _ | refine LeO.ite ?_ ?_ | refine LeO.bind ?_ (fun _ => ?_)) | apply ih0 | exact LeO.none _ | refine LeO.ite ?_ ?_ | refine LeO.bind ?_ (fun _ => ?_))
theorem gamehallref1_Named.mono : ∀ a0 k, LeO (gamehallref1_Named.f k a0) (gamehallref1_Named.f (k + 1) a0) := by
  intros; rename_i k
  have ih0 := gamehallref1_Named.mono_l k
  unfold gamehallref1_Named.f
  repeat' first | (with_reducible first | apply ih0 | exact LeO.refl _ | exact LeO.none _ | refine LeO.ite ?_ ?_ | refine LeO.bind ?_ (fun _ => ?_)) | apply ih0 | exact LeO.none _ | refine LeO.ite ?_ ?_ | refine LeO.bind ?_ (fun _ => ?_)
theorem gamehallref1_Named.calls (k : Nat) (a0 : ByteArray) (r : Bool) (w : World) (h : gamehallref1_Named.f k a0 = some r) :
    Calls Try.prog 45 #[.string a0] w fun e w' => e = .returned (.bool r) ∧ Drawn0 w w' := by
 have H : (gamehallref1_Named.l0 k a0 (a0.size : Int) 0) = some r := h
 clear h
 have H' := xm H
 clear H
 go_enter Try.func45, Try.ntmps45
 go_wp2
 go_loopg [7] k (fun kq vs7 w' => ∃ (x7_1 : Int), vs7 = .int .i64 x7_1 ∧ Aside0 (gamehallref1_Named.l0 kq a0 (a0.size : Int) x7_1 = some r) ∧ Aside0 (kq ≤ k) ∧ Drawn0 w w')
 case atStart => exact ⟨(0), (xrf), H', ⟨Nat.le_refl _⟩, by repeat (first | exact Drawn0.refl _ | apply Drawn0.step)⟩
 case round =>
  clear H'
  obtain ⟨x7_1, rfl, HA, HK1, ⟨m1, rfl⟩⟩ := hrel
  cases gk with
  | zero => exact absurd HA.out (by simp [gamehallref1_Named.l0])
  | succ k1 =>
   have H := HA.out; clear HA
   simp only [gamehallref1_Named.l0] at H
   by_cases c2 : x7_1 < (a0.size : Int)
   ·rw [if_pos c2] at H
    have c2b0 := decide_eq_true c2
    clear c2
    obtain ⟨c3b0, H⟩ := xJ H
    obtain ⟨c4b0, H⟩ := xJ H
    obtain ⟨t122, A6, H⟩ := xH H
    (try dsimp only at H)
    by_cases c7 : t122 = true
    ·subst c7
     rw [if_pos rfl] at H
     by_cases c8 : x7_1 = 0
     ·rw [if_pos c8] at H
      have c8b0 := beq_iff_eq.mpr c8
      have c8b1 := bne_eq_false_iff_eq.mpr c8
      clear c8
      obtain rfl := Option.some.inj H
      have p5 : 0 ≤ (x7_1 : Int) := xO
      have q5 : x7_1 < (a0.size : Int) := xO
      have hx5 := bt_at a0 x7_1; replace p5 := eq_true p5; replace q5 := eq_true q5
      go_wp2_with (first | ((with_reducible refine gate_callee (f := 29) rfl ?_); refine xL (some 14) Try.func29 #[.int .i64 (wrap64 (bt a0 x7_1)), .int .i64 48, .int .i64 57] rfl ?_; (with_reducible refine (gamehallref1_In.calls (wrap64 (bt a0 x7_1)) 48 57 true _ A6.out).mono ?_); rintro e w' ⟨rfl, ⟨nd, rfl⟩⟩; refine ⟨_, rfl, ?_⟩))
      go_ret
      exact ⟨xrf, by repeat (first | exact Drawn0.refl _ | apply Drawn0.step)⟩
     ·rw [if_neg c8] at H
      have c8b0 := beq_eq_false_iff_ne.mpr c8
      have c8b1 := bne_iff_ne.mpr c8
      have H' := xm H
      clear H
      have p5 : 0 ≤ (x7_1 : Int) := xO
      have q5 : x7_1 < (a0.size : Int) := xO
      have hx5 := bt_at a0 x7_1; replace p5 := eq_true p5; replace q5 := eq_true q5
      go_wp2_with (first | ((with_reducible refine gate_callee (f := 29) rfl ?_); refine xL (some 14) Try.func29 #[.int .i64 (wrap64 (bt a0 x7_1)), .int .i64 48, .int .i64 57] rfl ?_; (with_reducible refine (gamehallref1_In.calls (wrap64 (bt a0 x7_1)) 48 57 true _ A6.out).mono ?_); rintro e w' ⟨rfl, ⟨nd, rfl⟩⟩; refine ⟨_, rfl, ?_⟩))
      go_roundg k1
      case measure => have := HK1.out; omega
      case rel => exact ⟨(wrap64 (x7_1 + 1)), (xrf), H', ⟨by have := HK1.out; omega⟩, by repeat (first | exact Drawn0.refl _ | apply Drawn0.step)⟩
    ·obtain rfl := Bool.eq_false_iff.mpr c7
     rw [if_neg xF] at H
     obtain ⟨t123, A10, H⟩ := xH H
     (try dsimp only at H)
     by_cases c11 : t123 = true
     ·subst c11
      rw [if_pos rfl] at H
      have H' := xm H
      clear H
      have p5 : 0 ≤ (x7_1 : Int) := xO
      have q5 : x7_1 < (a0.size : Int) := xO
      have hx5 := bt_at a0 x7_1; replace p5 := eq_true p5; replace q5 := eq_true q5
      go_wp2_with (first | ((with_reducible refine gate_callee (f := 29) rfl ?_); refine xL (some 14) Try.func29 #[.int .i64 (wrap64 (bt a0 x7_1)), .int .i64 48, .int .i64 57] rfl ?_; (with_reducible refine (gamehallref1_In.calls (wrap64 (bt a0 x7_1)) 48 57 false _ A6.out).mono ?_); rintro e w' ⟨rfl, ⟨nd, rfl⟩⟩; refine ⟨_, rfl, ?_⟩; have p9 : 0 ≤ (x7_1 : Int) := xO; have q9 : x7_1 < (a0.size : Int) := xO; have hx9 := bt_at a0 x7_1; replace p9 := eq_true p9; replace q9 := eq_true q9) | (go_at_call 29; (with_reducible refine (gamehallref1_In.calls (wrap64 (bt a0 x7_1)) 65 90 true _ A10.out).mono ?_); rintro e w' ⟨rfl, ⟨nd, rfl⟩⟩))
      go_roundg k1
      case measure => have := HK1.out; omega
      case rel => exact ⟨(wrap64 (x7_1 + 1)), (xrf), H', ⟨by have := HK1.out; omega⟩, by repeat (first | exact Drawn0.refl _ | apply Drawn0.step)⟩
     ·obtain rfl := Bool.eq_false_iff.mpr c11
      rw [if_neg xF] at H
      obtain rfl := Option.some.inj H
      have p5 : 0 ≤ (x7_1 : Int) := xO
      have q5 : x7_1 < (a0.size : Int) := xO
      have hx5 := bt_at a0 x7_1; replace p5 := eq_true p5; replace q5 := eq_true q5
      go_wp2_with (first | ((with_reducible refine gate_callee (f := 29) rfl ?_); refine xL (some 14) Try.func29 #[.int .i64 (wrap64 (bt a0 x7_1)), .int .i64 48, .int .i64 57] rfl ?_; (with_reducible refine (gamehallref1_In.calls (wrap64 (bt a0 x7_1)) 48 57 false _ A6.out).mono ?_); rintro e w' ⟨rfl, ⟨nd, rfl⟩⟩; refine ⟨_, rfl, ?_⟩; have p9 : 0 ≤ (x7_1 : Int) := xO; have q9 : x7_1 < (a0.size : Int) := xO; have hx9 := bt_at a0 x7_1; replace p9 := eq_true p9; replace q9 := eq_true q9) | (go_at_call 29; (with_reducible refine (gamehallref1_In.calls (wrap64 (bt a0 x7_1)) 65 90 false _ A10.out).mono ?_); rintro e w' ⟨rfl, ⟨nd, rfl⟩⟩))
      go_ret
      exact ⟨xrf, by repeat (first | exact Drawn0.refl _ | apply Drawn0.step)⟩
   ·rw [if_neg c2] at H
    have c2b0 := decide_eq_false c2
    clear c2; replace H := Option.bind_eq_some_iff.mp H
    obtain ⟨t121, A120, H⟩ := H
    replace H : (some t121) = some r := H
    have A12 := xm A120; clear A120
    obtain rfl := Option.some.inj H
    go_wp2_with (first | ((with_reducible refine gate_callee (f := 29) rfl ?_); refine xL (some 35) Try.func29 #[.int .i64 (a0.size : Int), .int .i64 1, .int .i64 8] rfl ?_; (with_reducible refine (gamehallref1_In.calls (a0.size : Int) 1 8 t121 _ A12.out).mono ?_); rintro e w' ⟨rfl, ⟨nd, rfl⟩⟩; refine ⟨_, rfl, ?_⟩))
    go_ret
    exact ⟨xrf, by repeat (first | exact Drawn0.refl _ | apply Drawn0.step)⟩

/-! ### gamehallref1_pieceError: function 46 -/
mutual
def gamehallref1_pieceError.l0 : Nat → List (S62) → Int → Int → Int → Int → Int → List (S74) → Option (Int)
  | 0, _, _, _, _, _, _, _ => none
  | k + 1, x0, x18, x19, z126a, z126b, z126c, z126d => if x19 < x18 then (if 0 ≤ x19 then (if x19 < (x0.length : Int) then (if ((rd_T62 x0 x19).f0) = z126a then (some 7) else (gamehallref1_pieceError.l0 k x0 x18 (wrap64 (x19 + 1)) z126a z126b z126c z126d)) else (none)) else (none)) else ((gamehallref1_In.f z126b 0 64).bind fun t128 => (if t128 = true then ((gamehallref1_In.f z126c 0 (x0.length : Int)).bind fun t129 => (gamehallref1_pieceError.j1 k (!t129) z126a z126b z126c z126d)) else (gamehallref1_pieceError.j1 k true z126a z126b z126c z126d)))
def gamehallref1_pieceError.j1 : Nat → Bool → Int → Int → Int → List (S74) → Option (Int)
  | 0, _, _, _, _, _ => none
  | k + 1, x42, z126a, z126b, z126c, z126d => if x42 = true then (some 4) else (if (z126d.length : Int) > 16 then (some 2) else (gamehallref1_pieceError.l1 k z126d (z126d.length : Int) 0))
def gamehallref1_pieceError.l1 : Nat → List (S74) → Int → Int → Option (Int)
  | 0, _, _, _ => none
  | k + 1, x48, x49, x50 => if x50 < x49 then (if 0 ≤ x50 then (if x50 < (x48.length : Int) then ((gamehallref1_In.f ((rd_T74 x48 x50).f0) (-7) 7).bind fun t132 => (if t132 = true then ((gamehallref1_In.f ((rd_T74 x48 x50).f1) (-7) 7).bind fun t133 => (if t133 = true then (if ((rd_T74 x48 x50).f0) = 0 then (if ((rd_T74 x48 x50).f1) = 0 then (some 4) else ((gamehallref1_In.f ((rd_T74 x48 x50).f2) 1 7).bind fun t134 => (if t134 = true then ((gamehallref1_In.f ((rd_T74 x48 x50).f3) 0 2).bind fun t135 => (if t135 = true then (gamehallref1_pieceError.l1 k x48 x49 (wrap64 (x50 + 1))) else (some 4))) else (some 4)))) else ((gamehallref1_In.f ((rd_T74 x48 x50).f2) 1 7).bind fun t136 => (if t136 = true then ((gamehallref1_In.f ((rd_T74 x48 x50).f3) 0 2).bind fun t137 => (if t137 = true then (gamehallref1_pieceError.l1 k x48 x49 (wrap64 (x50 + 1))) else (some 4))) else (some 4)))) else (some 4))) else (some 4))) else (none)) else (none)) else (some 0)
end
def gamehallref1_pieceError.f (k : Nat) (l0 : List (S62)) (a1 : Int) : Option (Int) := if 0 ≤ a1 then (if a1 < (l0.length : Int) then ((gamehallref1_In.f (wrap64 ((rd_T62 l0 a1).f0)) 65 90).bind fun t126 => (if t126 = true then (gamehallref1_pieceError.l0 k l0 a1 0 ((rd_T62 l0 a1).f0) ((rd_T62 l0 a1).f1) ((rd_T62 l0 a1).f2) ((rd_T62 l0 a1).f3)) else (some 6))) else (none)) else (none)
theorem gamehallref1_pieceError.mono_l : ∀ k, L5 (LM (LM (LeO))) (gamehallref1_pieceError.l0 k) (gamehallref1_pieceError.l0 (k + 1)) ∧ L5 (LeO) (gamehallref1_pieceError.j1 k) (gamehallref1_pieceError.j1 (k + 1)) ∧ LM (LM (LM (LeO))) (gamehallref1_pieceError.l1 k) (gamehallref1_pieceError.l1 (k + 1))
  | 0 => by refine ⟨?_, ?_, ?_⟩ <;> (repeat (first | exact LeO.none _ | intro _))
  | k + 1 => by
    obtain ⟨ih0, ih1, ih2⟩ := gamehallref1_pieceError.mono_l k
    refine ⟨?_, ?_, ?_⟩ <;> ((repeat (first | (with_reducible refine LeO.st ?_) | intro _)); constructor; (first | unfold gamehallref1_pieceError.l0 | unfold gamehallref1_pieceError.j1 | unfold gamehallref1_pieceError.l1); repeat' first | (with_reducible first | apply ih0 | apply ih1 | apply ih2 | exact LeO.refl _ | exact LeO.none _ | refine LeO.ite ?_ ?_ | refine LeO.bind ?_ (fun _ => ?_)) | apply ih0 | apply ih1 | apply ih2 | exact LeO.none _ | refine LeO.ite ?_ ?_ | refine LeO.bind ?_ (fun _ => ?_))
theorem gamehallref1_pieceError.mono : ∀ a0 a1 k, LeO (gamehallref1_pieceError.f k a0 a1) (gamehallref1_pieceError.f (k + 1) a0 a1) := by
  intros; rename_i k
  obtain ⟨ih0, ih1, ih2⟩ := gamehallref1_pieceError.mono_l k
  unfold gamehallref1_pieceError.f
  repeat' first | (with_reducible first | apply ih0 | apply ih1 | apply ih2 | exact LeO.refl _ | exact LeO.none _ | refine LeO.ite ?_ ?_ | refine LeO.bind ?_ (fun _ => ?_)) | apply ih0 | apply ih1 | apply ih2 | exact LeO.none _ | refine LeO.ite ?_ ?_ | refine LeO.bind ?_ (fun _ => ?_)
theorem gamehallref1_pieceError.calls (k : Nat) (A0 : Option Addr) (c0 : Nat) (l0 : List (S62)) (a1 : Int) (r : Int) (w : World) (hr0 : Kd.C k62 w A0 l0.length l0) (hc0 : l0.length ≤ c0) (h : gamehallref1_pieceError.f k l0 a1 = some r) :
    Calls Try.prog 46 #[.slice A0 l0.length c0, .int .i64 a1] w fun e w' => e = .returned (.int .i64 r) ∧ Below w.heap.size w w' := by
 have hu62 := Try.underlying62; have hu74 := Try.underlying74; have HR0 := xm hr0; have HC0 := xm hc0; clear hr0 hc0; have HB := xm (Below.refl w.heap.size w); have hss_ := @isSome_setCell
 have H : (if 0 ≤ a1 then (if a1 < (l0.length : Int) then ((gamehallref1_In.f (wrap64 ((rd_T62 l0 a1).f0)) 65 90).bind fun t126 => (if t126 = true then (gamehallref1_pieceError.l0 k l0 a1 0 ((rd_T62 l0 a1).f0) ((rd_T62 l0 a1).f1) ((rd_T62 l0 a1).f2) ((rd_T62 l0 a1).f3)) else (some 6))) else (none)) else (none)) = some r := h
 clear h
 obtain ⟨c3b0, H⟩ := xJ H
 obtain ⟨c4b0, H⟩ := xJ H
 obtain ⟨t126, A5, H⟩ := xH H
 (try dsimp only at H)
 by_cases c6 : t126 = true
 ·subst c6
  rw [if_pos rfl] at H
  have H' := xm H
  clear H
  have p124 : 0 ≤ (a1 : Int) := xO
  have q124 : a1 < (l0.length : Int) := xO
  obtain ⟨ad124, A124_3, c124_3, e124, hx124_0, hx124_1, hx124_2, hx124_3, hl124_3, hi124_3⟩ := at_T62 HR0.out a1 p124 q124
  cases e124
  have HR124_3 := xm hi124_3; have HC124_3 := xm hl124_3; clear hi124_3 hl124_3; replace p124 := eq_true p124; replace q124 := eq_true q124
  go_enter Try.func46, Try.ntmps46
  go_wp2_with (first | ((with_reducible refine gate_dst (N := 5) rfl ?_); (try (refine gate_guard (by rfl) ?_; dsimp only)); refine xG (cs := #[.int .u8 0, .int .i64 0, .int .i64 0, .slice none 0 0]) (t := 62) ?_; intro gb125 hg w7 hbox hb; have BK125 := xm (hbox); have GW125 := xm (xZ HB hg); have GE125 := xm (xZ HB hg); replace HB := xm (xS HB hb); clear hb hbox hg; have hcz8_0 := blkc4 BK125.out) | (go_at_call 29; (with_reducible refine (gamehallref1_In.calls (wrap64 ((rd_T62 l0 a1).f0)) 65 90 true _ A5.out).mono ?_); rintro e w' ⟨rfl, ⟨nd, rfl⟩⟩; (try exact xE)))
  go_loopg [19] k (fun kq vs19 w' => ∃ (x19_1 : Int), vs19 = .int .i64 x19_1 ∧ Aside0 (gamehallref1_pieceError.l0 kq l0 a1 x19_1 ((rd_T62 l0 a1).f0) ((rd_T62 l0 a1).f1) ((rd_T62 l0 a1).f2) ((rd_T62 l0 a1).f3) = some r) ∧ Aside0 (kq ≤ k) ∧ Aside0 (w'.heap[gb125]? = some (.cells #[.int .u8 ((rd_T62 l0 a1).f0), .int .i64 ((rd_T62 l0 a1).f1), .int .i64 ((rd_T62 l0 a1).f2), (.slice A124_3 ((rd_T62 l0 a1).f3).length c124_3)] 62 (0, 0))) ∧ Aside0 (Below w.heap.size w w'))
  case atStart => exact ⟨(0), (xrf), H', ⟨Nat.le_refl _⟩, ⟨xQ BK125⟩, ⟨xW HB⟩⟩
  case round =>
   clear H'; (try clear p1); (try clear q1); (try clear hx1); (try clear p2); (try clear p6); (try clear hx124_0); (try clear hx124_1); (try clear hx124_2); (try clear hx124_3); (try clear p124); (try clear q124)
   obtain ⟨x19_1, rfl, HA, HK1, BK125, HB⟩ := hrel
   cases gk with
   | zero => exact absurd HA.out (by simp [gamehallref1_pieceError.l0])
   | succ k1 =>
    have H := HA.out; clear HA
    simp only [gamehallref1_pieceError.l0] at H
    by_cases c9 : x19_1 < a1
    ·rw [if_pos c9] at H
     have c9b0 := decide_eq_true c9
     clear c9
     obtain ⟨c10b0, H⟩ := xJ H
     obtain ⟨c11b0, H⟩ := xJ H
     by_cases c12 : ((rd_T62 l0 x19_1).f0) = ((rd_T62 l0 a1).f0)
     ·rw [if_pos c12] at H
      have c12b0 := beq_iff_eq.mpr c12
      have c12b1 := bne_eq_false_iff_eq.mpr c12
      clear c12
      obtain rfl := Option.some.inj H
      have p127 : 0 ≤ (x19_1 : Int) := xO
      have q127 : x19_1 < (l0.length : Int) := xO
      obtain ⟨ad127, A127_3, c127_3, e127, hx127_0, hx127_1, hx127_2, hx127_3, hl127_3, hi127_3⟩ := at_T62 HR0.out x19_1 p127 q127
      obtain rfl : ad124 = ad127 := (by injection e127)
      replace hx127_0 := xR HB hx127_0; replace hx127_1 := xR HB hx127_1; replace hx127_2 := xR HB hx127_2; replace hx127_3 := xR HB hx127_3; have HR127_3 := xm hi127_3; have HC127_3 := xm hl127_3; clear hi127_3 hl127_3; replace p127 := eq_true p127; replace q127 := eq_true q127; have hcz13_0 := blkc4 BK125.out
      go_wp2
      repeat (go_quiet (fail); try go_wp2)
      go_ret
      exact ⟨xer, xW HB⟩
     ·rw [if_neg c12] at H
      have c12b0 := beq_eq_false_iff_ne.mpr c12
      have c12b1 := bne_iff_ne.mpr c12
      have H' := xm H
      clear H
      have p127 : 0 ≤ (x19_1 : Int) := xO
      have q127 : x19_1 < (l0.length : Int) := xO
      obtain ⟨ad127, A127_3, c127_3, e127, hx127_0, hx127_1, hx127_2, hx127_3, hl127_3, hi127_3⟩ := at_T62 HR0.out x19_1 p127 q127
      obtain rfl : ad124 = ad127 := (by injection e127)
      replace hx127_0 := xR HB hx127_0; replace hx127_1 := xR HB hx127_1; replace hx127_2 := xR HB hx127_2; replace hx127_3 := xR HB hx127_3; have HR127_3 := xm hi127_3; have HC127_3 := xm hl127_3; clear hi127_3 hl127_3; replace p127 := eq_true p127; replace q127 := eq_true q127; have hcz14_0 := blkc4 BK125.out
      go_wp2
      repeat (go_quiet (fail); try go_wp2)
      go_roundg k1
      case measure => have := HK1.out; omega
      case rel => exact ⟨(wrap64 (x19_1 + 1)), (xrf), H', ⟨by have := HK1.out; omega⟩, ⟨xK BK125⟩, ⟨xW HB⟩⟩
    ·rw [if_neg c9] at H
     have c9b0 := decide_eq_false c9
     clear c9; have HC15 := xm H; clear H
     go_upto_region 10 with (fail)
     go_cut [42] (fun vs42 wc => ∃ (kq : Nat) (x42_14 : Bool), vs42 = .bool x42_14 ∧ Aside0 (gamehallref1_pieceError.j1 kq x42_14 ((rd_T62 l0 a1).f0) ((rd_T62 l0 a1).f1) ((rd_T62 l0 a1).f2) ((rd_T62 l0 a1).f3) = some r) ∧ Aside0 (kq ≤ k1) ∧ Aside0 (wc.heap[gb125]? = some (.cells #[.int .u8 ((rd_T62 l0 a1).f0), .int .i64 ((rd_T62 l0 a1).f1), .int .i64 ((rd_T62 l0 a1).f2), (.slice A124_3 ((rd_T62 l0 a1).f3).length c124_3)] 62 (0, 0))) ∧ Aside0 (Below w.heap.size w wc))
     case first =>
      have H := HC15.out; clear HC15; obtain ⟨t128, A16, H⟩ := xH H
      (try dsimp only at H)
      by_cases c17 : t128 = true
      ·subst c17
       rw [if_pos rfl] at H
       obtain ⟨t129, A18, H⟩ := xH H
       (try dsimp only at H)
       have H' := xm H
       clear H; have hcz19_0 := blkc4 BK125.out
       go_wp2_with (first | (go_at_call 29; (with_reducible refine (gamehallref1_In.calls ((rd_T62 l0 a1).f1) 0 64 true _ A16.out).mono ?_); rintro e w' ⟨rfl, ⟨nd, rfl⟩⟩; (try exact xE)) | (go_at_call 29; (with_reducible refine (gamehallref1_In.calls ((rd_T62 l0 a1).f2) 0 (l0.length : Int) t129 _ A18.out).mono ?_); rintro e w' ⟨rfl, ⟨nd, rfl⟩⟩; (try exact xE)))
       go_meet
       case rel => exact ⟨_, (!t129), (xrf), H', ⟨by have := HK1.out; first | omega | exact Nat.le_refl _⟩, ⟨xK BK125⟩, ⟨xW HB⟩⟩
      ·obtain rfl := Bool.eq_false_iff.mpr c17
       rw [if_neg xF] at H
       have H' := xm H
       clear H; have hcz20_0 := blkc4 BK125.out
       go_wp2_with (first | (go_at_call 29; (with_reducible refine (gamehallref1_In.calls ((rd_T62 l0 a1).f1) 0 64 false _ A16.out).mono ?_); rintro e w' ⟨rfl, ⟨nd, rfl⟩⟩; (try exact xE)))
       go_meet
       case rel => exact ⟨_, (true), (xrf), H', ⟨by have := HK1.out; first | omega | exact Nat.le_refl _⟩, ⟨xK BK125⟩, ⟨xW HB⟩⟩
     case rest =>
      clear HC15; (try clear p1); (try clear q1); (try clear hx1); (try clear p2); (try clear p6); (try clear p12); (try clear q12); (try clear hx12); (try clear hx124_0); (try clear hx124_1); (try clear hx124_2); (try clear hx124_3); (try clear hx127_0); (try clear hx127_1); (try clear hx127_2); (try clear hx127_3); (try clear p124); (try clear p127); (try clear q124); (try clear q127)
      obtain ⟨kq, x42_14, rfl, HA, HJ14, BK125, HB⟩ := hcut
      cases kq with
      | zero => exact absurd HA.out (by simp [gamehallref1_pieceError.j1])
      | succ kj14 =>
       have H := HA.out; clear HA
       simp only [gamehallref1_pieceError.j1] at H
       by_cases c21 : x42_14 = true
       ·subst c21
        rw [if_pos rfl] at H
        obtain rfl := Option.some.inj H
        go_wp2
        go_ret
        exact ⟨xer, xW HB⟩
       ·obtain rfl := Bool.eq_false_iff.mpr c21
        rw [if_neg xF] at H
        by_cases c22 : (((rd_T62 l0 a1).f3).length : Int) > 16
        ·rw [if_pos c22] at H
         have c22b0 := decide_eq_true c22
         have c22b1 : decide (16 < ((rd_T62 l0 a1).f3).length) = true := decide_eq_true (by omega)
         clear c22
         obtain rfl := Option.some.inj H
         have hcz23_0 := blkc4 BK125.out
         go_wp2
         go_ret
         exact ⟨xer, xW HB⟩
        ·rw [if_neg c22] at H
         have c22b0 := decide_eq_false c22
         have c22b1 : decide (16 < ((rd_T62 l0 a1).f3).length) = false := decide_eq_false (by omega)
         clear c22
         have H' := xm H
         clear H; have hcz24_0 := blkc4 BK125.out
         go_wp2
         go_loopg [50] kj14 (fun kq vs50 w' => ∃ (x50_3 : Int), vs50 = .int .i64 x50_3 ∧ Aside0 (gamehallref1_pieceError.l1 kq ((rd_T62 l0 a1).f3) (((rd_T62 l0 a1).f3).length : Int) x50_3 = some r) ∧ Aside0 (kq ≤ kj14) ∧ Aside0 (w'.heap[gb125]? = some (.cells #[.int .u8 ((rd_T62 l0 a1).f0), .int .i64 ((rd_T62 l0 a1).f1), .int .i64 ((rd_T62 l0 a1).f2), (.slice A124_3 ((rd_T62 l0 a1).f3).length c124_3)] 62 (0, 0))) ∧ Aside0 (Below w.heap.size w w'))
         case atStart => exact ⟨(0), (xrf), H', ⟨Nat.le_refl _⟩, ⟨xK BK125⟩, ⟨xW HB⟩⟩
         case round =>
          clear H'; (try clear p1); (try clear q1); (try clear hx1); (try clear p2); (try clear p6); (try clear p12); (try clear q12); (try clear hx12); (try clear hx124_0); (try clear hx124_1); (try clear hx124_2); (try clear hx124_3); (try clear hx127_0); (try clear hx127_1); (try clear hx127_2); (try clear hx127_3); (try clear p124); (try clear p127); (try clear q124); (try clear q127)
          obtain ⟨x50_3, rfl, HA, HK3, BK125, HB⟩ := hrel
          cases gk with
          | zero => exact absurd HA.out (by simp [gamehallref1_pieceError.l1])
          | succ k3 =>
           have H := HA.out; clear HA
           simp only [gamehallref1_pieceError.l1] at H
           by_cases c25 : x50_3 < (((rd_T62 l0 a1).f3).length : Int)
           ·rw [if_pos c25] at H
            have c25b0 := decide_eq_true c25
            clear c25
            obtain ⟨c26b0, H⟩ := xJ H
            obtain ⟨c27b0, H⟩ := xJ H
            obtain ⟨t132, A28, H⟩ := xH H
            (try dsimp only at H)
            by_cases c29 : t132 = true
            ·subst c29
             rw [if_pos rfl] at H
             obtain ⟨t133, A30, H⟩ := xH H
             (try dsimp only at H)
             by_cases c31 : t133 = true
             ·subst c31
              rw [if_pos rfl] at H
              by_cases c32 : ((rd_T74 ((rd_T62 l0 a1).f3) x50_3).f0) = 0
              ·rw [if_pos c32] at H
               have c32b0 := beq_iff_eq.mpr c32
               have c32b1 := bne_eq_false_iff_eq.mpr c32
               clear c32
               by_cases c33 : ((rd_T74 ((rd_T62 l0 a1).f3) x50_3).f1) = 0
               ·rw [if_pos c33] at H
                have c33b0 := beq_iff_eq.mpr c33
                have c33b1 := bne_eq_false_iff_eq.mpr c33
                clear c33
                obtain rfl := Option.some.inj H
                have p130 : 0 ≤ (x50_3 : Int) := xO
                have q130 : x50_3 < (((rd_T62 l0 a1).f3).length : Int) := xO
                obtain ⟨ad130, e130, hx130_0, hx130_1, hx130_2, hx130_3⟩ := at_T74 HR124_3.out x50_3 p130 q130
                cases e130
                replace hx130_0 := xR HB hx130_0; replace hx130_1 := xR HB hx130_1; replace hx130_2 := xR HB hx130_2; replace hx130_3 := xR HB hx130_3; replace p130 := eq_true p130; replace q130 := eq_true q130
                go_wp2_with (first | ((with_reducible refine gate_dst (N := 8) rfl ?_); (try (refine gate_guard (by rfl) ?_; dsimp only)); refine xG (cs := #[.int .i64 0, .int .i64 0, .int .i64 0, .int .i64 0]) (t := 74) ?_; intro gb131 hg w34 hbox hb; have BK131 := xm (hbox); have GW131 := xm (xZ HB hg); have GE131 := xm (xZ HB hg); have NB125_131 := xm (xN BK125 hg); have NB131_125 := xm (xM BK125 hg); replace BK125 := xm (xB BK125 hb); replace HB := xm (xS HB hb); clear hb hbox hg; have hnb35 := NB131_125.out; have hnc35 := NB125_131.out; have hcz36_0 := blkc4 BK131.out) | (go_at_call 29; (with_reducible refine (gamehallref1_In.calls ((rd_T74 ((rd_T62 l0 a1).f3) x50_3).f0) (-7) 7 true _ A28.out).mono ?_); rintro e w' ⟨rfl, ⟨nd, rfl⟩⟩; (try exact xE)) | (go_at_call 29; (with_reducible refine (gamehallref1_In.calls ((rd_T74 ((rd_T62 l0 a1).f3) x50_3).f1) (-7) 7 true _ A30.out).mono ?_); rintro e w' ⟨rfl, ⟨nd, rfl⟩⟩; (try exact xE)))
                go_ret
                exact ⟨xer, xW HB⟩
               ·rw [if_neg c33] at H
                have c33b0 := beq_eq_false_iff_ne.mpr c33
                have c33b1 := bne_iff_ne.mpr c33
                obtain ⟨t134, A37, H⟩ := xH H
                (try dsimp only at H)
                by_cases c38 : t134 = true
                ·subst c38
                 rw [if_pos rfl] at H
                 obtain ⟨t135, A39, H⟩ := xH H
                 (try dsimp only at H)
                 by_cases c40 : t135 = true
                 ·subst c40
                  rw [if_pos rfl] at H
                  have H' := xm H
                  clear H
                  have p130 : 0 ≤ (x50_3 : Int) := xO
                  have q130 : x50_3 < (((rd_T62 l0 a1).f3).length : Int) := xO
                  obtain ⟨ad130, e130, hx130_0, hx130_1, hx130_2, hx130_3⟩ := at_T74 HR124_3.out x50_3 p130 q130
                  cases e130
                  replace hx130_0 := xR HB hx130_0; replace hx130_1 := xR HB hx130_1; replace hx130_2 := xR HB hx130_2; replace hx130_3 := xR HB hx130_3; replace p130 := eq_true p130; replace q130 := eq_true q130
                  go_wp2_with (first | ((with_reducible refine gate_dst (N := 8) rfl ?_); (try (refine gate_guard (by rfl) ?_; dsimp only)); refine xG (cs := #[.int .i64 0, .int .i64 0, .int .i64 0, .int .i64 0]) (t := 74) ?_; intro gb131 hg w41 hbox hb; have BK131 := xm (hbox); have GW131 := xm (xZ HB hg); have GE131 := xm (xZ HB hg); have NB125_131 := xm (xN BK125 hg); have NB131_125 := xm (xM BK125 hg); replace BK125 := xm (xB BK125 hb); replace HB := xm (xS HB hb); clear hb hbox hg; have hnb42 := NB131_125.out; have hnc42 := NB125_131.out; have hcz43_0 := blkc4 BK131.out) | (go_at_call 29; (with_reducible refine (gamehallref1_In.calls ((rd_T74 ((rd_T62 l0 a1).f3) x50_3).f0) (-7) 7 true _ A28.out).mono ?_); rintro e w' ⟨rfl, ⟨nd, rfl⟩⟩; (try exact xE)) | (go_at_call 29; (with_reducible refine (gamehallref1_In.calls ((rd_T74 ((rd_T62 l0 a1).f3) x50_3).f1) (-7) 7 true _ A30.out).mono ?_); rintro e w' ⟨rfl, ⟨nd, rfl⟩⟩; (try exact xE)) | (go_at_call 29; (with_reducible refine (gamehallref1_In.calls ((rd_T74 ((rd_T62 l0 a1).f3) x50_3).f2) 1 7 true _ A37.out).mono ?_); rintro e w' ⟨rfl, ⟨nd, rfl⟩⟩; (try exact xE)) | (go_at_call 29; (with_reducible refine (gamehallref1_In.calls ((rd_T74 ((rd_T62 l0 a1).f3) x50_3).f3) 0 2 true _ A39.out).mono ?_); rintro e w' ⟨rfl, ⟨nd, rfl⟩⟩; (try exact xE)))
                  go_roundg k3
                  case measure => have := HK1.out; have := HJ14.out; have := HK3.out; omega
                  case rel => exact ⟨(wrap64 (x50_3 + 1)), (xrf), H', ⟨by have := HK1.out; have := HJ14.out; have := HK3.out; omega⟩, ⟨xK BK125⟩, ⟨xW HB⟩⟩
                 ·obtain rfl := Bool.eq_false_iff.mpr c40
                  rw [if_neg xF] at H
                  obtain rfl := Option.some.inj H
                  have p130 : 0 ≤ (x50_3 : Int) := xO
                  have q130 : x50_3 < (((rd_T62 l0 a1).f3).length : Int) := xO
                  obtain ⟨ad130, e130, hx130_0, hx130_1, hx130_2, hx130_3⟩ := at_T74 HR124_3.out x50_3 p130 q130
                  cases e130
                  replace hx130_0 := xR HB hx130_0; replace hx130_1 := xR HB hx130_1; replace hx130_2 := xR HB hx130_2; replace hx130_3 := xR HB hx130_3; replace p130 := eq_true p130; replace q130 := eq_true q130
                  go_wp2_with (first | ((with_reducible refine gate_dst (N := 8) rfl ?_); (try (refine gate_guard (by rfl) ?_; dsimp only)); refine xG (cs := #[.int .i64 0, .int .i64 0, .int .i64 0, .int .i64 0]) (t := 74) ?_; intro gb131 hg w44 hbox hb; have BK131 := xm (hbox); have GW131 := xm (xZ HB hg); have GE131 := xm (xZ HB hg); have NB125_131 := xm (xN BK125 hg); have NB131_125 := xm (xM BK125 hg); replace BK125 := xm (xB BK125 hb); replace HB := xm (xS HB hb); clear hb hbox hg; have hnb45 := NB131_125.out; have hnc45 := NB125_131.out; have hcz46_0 := blkc4 BK131.out) | (go_at_call 29; (with_reducible refine (gamehallref1_In.calls ((rd_T74 ((rd_T62 l0 a1).f3) x50_3).f0) (-7) 7 true _ A28.out).mono ?_); rintro e w' ⟨rfl, ⟨nd, rfl⟩⟩; (try exact xE)) | (go_at_call 29; (with_reducible refine (gamehallref1_In.calls ((rd_T74 ((rd_T62 l0 a1).f3) x50_3).f1) (-7) 7 true _ A30.out).mono ?_); rintro e w' ⟨rfl, ⟨nd, rfl⟩⟩; (try exact xE)) | (go_at_call 29; (with_reducible refine (gamehallref1_In.calls ((rd_T74 ((rd_T62 l0 a1).f3) x50_3).f2) 1 7 true _ A37.out).mono ?_); rintro e w' ⟨rfl, ⟨nd, rfl⟩⟩; (try exact xE)) | (go_at_call 29; (with_reducible refine (gamehallref1_In.calls ((rd_T74 ((rd_T62 l0 a1).f3) x50_3).f3) 0 2 false _ A39.out).mono ?_); rintro e w' ⟨rfl, ⟨nd, rfl⟩⟩; (try exact xE)))
                  go_ret
                  exact ⟨xer, xW HB⟩
                ·obtain rfl := Bool.eq_false_iff.mpr c38
                 rw [if_neg xF] at H
                 obtain rfl := Option.some.inj H
                 have p130 : 0 ≤ (x50_3 : Int) := xO
                 have q130 : x50_3 < (((rd_T62 l0 a1).f3).length : Int) := xO
                 obtain ⟨ad130, e130, hx130_0, hx130_1, hx130_2, hx130_3⟩ := at_T74 HR124_3.out x50_3 p130 q130
                 cases e130
                 replace hx130_0 := xR HB hx130_0; replace hx130_1 := xR HB hx130_1; replace hx130_2 := xR HB hx130_2; replace hx130_3 := xR HB hx130_3; replace p130 := eq_true p130; replace q130 := eq_true q130
                 go_wp2_with (first | ((with_reducible refine gate_dst (N := 8) rfl ?_); (try (refine gate_guard (by rfl) ?_; dsimp only)); refine xG (cs := #[.int .i64 0, .int .i64 0, .int .i64 0, .int .i64 0]) (t := 74) ?_; intro gb131 hg w47 hbox hb; have BK131 := xm (hbox); have GW131 := xm (xZ HB hg); have GE131 := xm (xZ HB hg); have NB125_131 := xm (xN BK125 hg); have NB131_125 := xm (xM BK125 hg); replace BK125 := xm (xB BK125 hb); replace HB := xm (xS HB hb); clear hb hbox hg; have hnb48 := NB131_125.out; have hnc48 := NB125_131.out; have hcz49_0 := blkc4 BK131.out) | (go_at_call 29; (with_reducible refine (gamehallref1_In.calls ((rd_T74 ((rd_T62 l0 a1).f3) x50_3).f0) (-7) 7 true _ A28.out).mono ?_); rintro e w' ⟨rfl, ⟨nd, rfl⟩⟩; (try exact xE)) | (go_at_call 29; (with_reducible refine (gamehallref1_In.calls ((rd_T74 ((rd_T62 l0 a1).f3) x50_3).f1) (-7) 7 true _ A30.out).mono ?_); rintro e w' ⟨rfl, ⟨nd, rfl⟩⟩; (try exact xE)) | (go_at_call 29; (with_reducible refine (gamehallref1_In.calls ((rd_T74 ((rd_T62 l0 a1).f3) x50_3).f2) 1 7 false _ A37.out).mono ?_); rintro e w' ⟨rfl, ⟨nd, rfl⟩⟩; (try exact xE)))
                 go_ret
                 exact ⟨xer, xW HB⟩
              ·rw [if_neg c32] at H
               have c32b0 := beq_eq_false_iff_ne.mpr c32
               have c32b1 := bne_iff_ne.mpr c32
               obtain ⟨t136, A50, H⟩ := xH H
               (try dsimp only at H)
               by_cases c51 : t136 = true
               ·subst c51
                rw [if_pos rfl] at H
                obtain ⟨t137, A52, H⟩ := xH H
                (try dsimp only at H)
                by_cases c53 : t137 = true
                ·subst c53
                 rw [if_pos rfl] at H
                 have H' := xm H
                 clear H
                 have p130 : 0 ≤ (x50_3 : Int) := xO
                 have q130 : x50_3 < (((rd_T62 l0 a1).f3).length : Int) := xO
                 obtain ⟨ad130, e130, hx130_0, hx130_1, hx130_2, hx130_3⟩ := at_T74 HR124_3.out x50_3 p130 q130
                 cases e130
                 replace hx130_0 := xR HB hx130_0; replace hx130_1 := xR HB hx130_1; replace hx130_2 := xR HB hx130_2; replace hx130_3 := xR HB hx130_3; replace p130 := eq_true p130; replace q130 := eq_true q130
                 go_wp2_with (first | ((with_reducible refine gate_dst (N := 8) rfl ?_); (try (refine gate_guard (by rfl) ?_; dsimp only)); refine xG (cs := #[.int .i64 0, .int .i64 0, .int .i64 0, .int .i64 0]) (t := 74) ?_; intro gb131 hg w54 hbox hb; have BK131 := xm (hbox); have GW131 := xm (xZ HB hg); have GE131 := xm (xZ HB hg); have NB125_131 := xm (xN BK125 hg); have NB131_125 := xm (xM BK125 hg); replace BK125 := xm (xB BK125 hb); replace HB := xm (xS HB hb); clear hb hbox hg; have hnb55 := NB131_125.out; have hnc55 := NB125_131.out; have hcz56_0 := blkc4 BK131.out) | (go_at_call 29; (with_reducible refine (gamehallref1_In.calls ((rd_T74 ((rd_T62 l0 a1).f3) x50_3).f0) (-7) 7 true _ A28.out).mono ?_); rintro e w' ⟨rfl, ⟨nd, rfl⟩⟩; (try exact xE)) | (go_at_call 29; (with_reducible refine (gamehallref1_In.calls ((rd_T74 ((rd_T62 l0 a1).f3) x50_3).f1) (-7) 7 true _ A30.out).mono ?_); rintro e w' ⟨rfl, ⟨nd, rfl⟩⟩; (try exact xE)) | (go_at_call 29; (with_reducible refine (gamehallref1_In.calls ((rd_T74 ((rd_T62 l0 a1).f3) x50_3).f2) 1 7 true _ A50.out).mono ?_); rintro e w' ⟨rfl, ⟨nd, rfl⟩⟩; (try exact xE)) | (go_at_call 29; (with_reducible refine (gamehallref1_In.calls ((rd_T74 ((rd_T62 l0 a1).f3) x50_3).f3) 0 2 true _ A52.out).mono ?_); rintro e w' ⟨rfl, ⟨nd, rfl⟩⟩; (try exact xE)))
                 go_roundg k3
                 case measure => have := HK1.out; have := HJ14.out; have := HK3.out; omega
                 case rel => exact ⟨(wrap64 (x50_3 + 1)), (xrf), H', ⟨by have := HK1.out; have := HJ14.out; have := HK3.out; omega⟩, ⟨xK BK125⟩, ⟨xW HB⟩⟩
                ·obtain rfl := Bool.eq_false_iff.mpr c53
                 rw [if_neg xF] at H
                 obtain rfl := Option.some.inj H
                 have p130 : 0 ≤ (x50_3 : Int) := xO
                 have q130 : x50_3 < (((rd_T62 l0 a1).f3).length : Int) := xO
                 obtain ⟨ad130, e130, hx130_0, hx130_1, hx130_2, hx130_3⟩ := at_T74 HR124_3.out x50_3 p130 q130
                 cases e130
                 replace hx130_0 := xR HB hx130_0; replace hx130_1 := xR HB hx130_1; replace hx130_2 := xR HB hx130_2; replace hx130_3 := xR HB hx130_3; replace p130 := eq_true p130; replace q130 := eq_true q130
                 go_wp2_with (first | ((with_reducible refine gate_dst (N := 8) rfl ?_); (try (refine gate_guard (by rfl) ?_; dsimp only)); refine xG (cs := #[.int .i64 0, .int .i64 0, .int .i64 0, .int .i64 0]) (t := 74) ?_; intro gb131 hg w57 hbox hb; have BK131 := xm (hbox); have GW131 := xm (xZ HB hg); have GE131 := xm (xZ HB hg); have NB125_131 := xm (xN BK125 hg); have NB131_125 := xm (xM BK125 hg); replace BK125 := xm (xB BK125 hb); replace HB := xm (xS HB hb); clear hb hbox hg; have hnb58 := NB131_125.out; have hnc58 := NB125_131.out; have hcz59_0 := blkc4 BK131.out) | (go_at_call 29; (with_reducible refine (gamehallref1_In.calls ((rd_T74 ((rd_T62 l0 a1).f3) x50_3).f0) (-7) 7 true _ A28.out).mono ?_); rintro e w' ⟨rfl, ⟨nd, rfl⟩⟩; (try exact xE)) | (go_at_call 29; (with_reducible refine (gamehallref1_In.calls ((rd_T74 ((rd_T62 l0 a1).f3) x50_3).f1) (-7) 7 true _ A30.out).mono ?_); rintro e w' ⟨rfl, ⟨nd, rfl⟩⟩; (try exact xE)) | (go_at_call 29; (with_reducible refine (gamehallref1_In.calls ((rd_T74 ((rd_T62 l0 a1).f3) x50_3).f2) 1 7 true _ A50.out).mono ?_); rintro e w' ⟨rfl, ⟨nd, rfl⟩⟩; (try exact xE)) | (go_at_call 29; (with_reducible refine (gamehallref1_In.calls ((rd_T74 ((rd_T62 l0 a1).f3) x50_3).f3) 0 2 false _ A52.out).mono ?_); rintro e w' ⟨rfl, ⟨nd, rfl⟩⟩; (try exact xE)))
                 go_ret
                 exact ⟨xer, xW HB⟩
               ·obtain rfl := Bool.eq_false_iff.mpr c51
                rw [if_neg xF] at H
                obtain rfl := Option.some.inj H
                have p130 : 0 ≤ (x50_3 : Int) := xO
                have q130 : x50_3 < (((rd_T62 l0 a1).f3).length : Int) := xO
                obtain ⟨ad130, e130, hx130_0, hx130_1, hx130_2, hx130_3⟩ := at_T74 HR124_3.out x50_3 p130 q130
                cases e130
                replace hx130_0 := xR HB hx130_0; replace hx130_1 := xR HB hx130_1; replace hx130_2 := xR HB hx130_2; replace hx130_3 := xR HB hx130_3; replace p130 := eq_true p130; replace q130 := eq_true q130
                go_wp2_with (first | ((with_reducible refine gate_dst (N := 8) rfl ?_); (try (refine gate_guard (by rfl) ?_; dsimp only)); refine xG (cs := #[.int .i64 0, .int .i64 0, .int .i64 0, .int .i64 0]) (t := 74) ?_; intro gb131 hg w60 hbox hb; have BK131 := xm (hbox); have GW131 := xm (xZ HB hg); have GE131 := xm (xZ HB hg); have NB125_131 := xm (xN BK125 hg); have NB131_125 := xm (xM BK125 hg); replace BK125 := xm (xB BK125 hb); replace HB := xm (xS HB hb); clear hb hbox hg; have hnb61 := NB131_125.out; have hnc61 := NB125_131.out; have hcz62_0 := blkc4 BK131.out) | (go_at_call 29; (with_reducible refine (gamehallref1_In.calls ((rd_T74 ((rd_T62 l0 a1).f3) x50_3).f0) (-7) 7 true _ A28.out).mono ?_); rintro e w' ⟨rfl, ⟨nd, rfl⟩⟩; (try exact xE)) | (go_at_call 29; (with_reducible refine (gamehallref1_In.calls ((rd_T74 ((rd_T62 l0 a1).f3) x50_3).f1) (-7) 7 true _ A30.out).mono ?_); rintro e w' ⟨rfl, ⟨nd, rfl⟩⟩; (try exact xE)) | (go_at_call 29; (with_reducible refine (gamehallref1_In.calls ((rd_T74 ((rd_T62 l0 a1).f3) x50_3).f2) 1 7 false _ A50.out).mono ?_); rintro e w' ⟨rfl, ⟨nd, rfl⟩⟩; (try exact xE)))
                go_ret
                exact ⟨xer, xW HB⟩
             ·obtain rfl := Bool.eq_false_iff.mpr c31
              rw [if_neg xF] at H
              obtain rfl := Option.some.inj H
              have p130 : 0 ≤ (x50_3 : Int) := xO
              have q130 : x50_3 < (((rd_T62 l0 a1).f3).length : Int) := xO
              obtain ⟨ad130, e130, hx130_0, hx130_1, hx130_2, hx130_3⟩ := at_T74 HR124_3.out x50_3 p130 q130
              cases e130
              replace hx130_0 := xR HB hx130_0; replace hx130_1 := xR HB hx130_1; replace hx130_2 := xR HB hx130_2; replace hx130_3 := xR HB hx130_3; replace p130 := eq_true p130; replace q130 := eq_true q130
              go_wp2_with (first | ((with_reducible refine gate_dst (N := 8) rfl ?_); (try (refine gate_guard (by rfl) ?_; dsimp only)); refine xG (cs := #[.int .i64 0, .int .i64 0, .int .i64 0, .int .i64 0]) (t := 74) ?_; intro gb131 hg w63 hbox hb; have BK131 := xm (hbox); have GW131 := xm (xZ HB hg); have GE131 := xm (xZ HB hg); have NB125_131 := xm (xN BK125 hg); have NB131_125 := xm (xM BK125 hg); replace BK125 := xm (xB BK125 hb); replace HB := xm (xS HB hb); clear hb hbox hg; have hnb64 := NB131_125.out; have hnc64 := NB125_131.out; have hcz65_0 := blkc4 BK131.out) | (go_at_call 29; (with_reducible refine (gamehallref1_In.calls ((rd_T74 ((rd_T62 l0 a1).f3) x50_3).f0) (-7) 7 true _ A28.out).mono ?_); rintro e w' ⟨rfl, ⟨nd, rfl⟩⟩; (try exact xE)) | (go_at_call 29; (with_reducible refine (gamehallref1_In.calls ((rd_T74 ((rd_T62 l0 a1).f3) x50_3).f1) (-7) 7 false _ A30.out).mono ?_); rintro e w' ⟨rfl, ⟨nd, rfl⟩⟩; (try exact xE)))
              go_ret
              exact ⟨xer, xW HB⟩
            ·obtain rfl := Bool.eq_false_iff.mpr c29
             rw [if_neg xF] at H
             obtain rfl := Option.some.inj H
             have p130 : 0 ≤ (x50_3 : Int) := xO
             have q130 : x50_3 < (((rd_T62 l0 a1).f3).length : Int) := xO
             obtain ⟨ad130, e130, hx130_0, hx130_1, hx130_2, hx130_3⟩ := at_T74 HR124_3.out x50_3 p130 q130
             cases e130
             replace hx130_0 := xR HB hx130_0; replace hx130_1 := xR HB hx130_1; replace hx130_2 := xR HB hx130_2; replace hx130_3 := xR HB hx130_3; replace p130 := eq_true p130; replace q130 := eq_true q130
             go_wp2_with (first | ((with_reducible refine gate_dst (N := 8) rfl ?_); (try (refine gate_guard (by rfl) ?_; dsimp only)); refine xG (cs := #[.int .i64 0, .int .i64 0, .int .i64 0, .int .i64 0]) (t := 74) ?_; intro gb131 hg w66 hbox hb; have BK131 := xm (hbox); have GW131 := xm (xZ HB hg); have GE131 := xm (xZ HB hg); have NB125_131 := xm (xN BK125 hg); have NB131_125 := xm (xM BK125 hg); replace BK125 := xm (xB BK125 hb); replace HB := xm (xS HB hb); clear hb hbox hg; have hnb67 := NB131_125.out; have hnc67 := NB125_131.out; have hcz68_0 := blkc4 BK131.out) | (go_at_call 29; (with_reducible refine (gamehallref1_In.calls ((rd_T74 ((rd_T62 l0 a1).f3) x50_3).f0) (-7) 7 false _ A28.out).mono ?_); rintro e w' ⟨rfl, ⟨nd, rfl⟩⟩; (try exact xE)))
             go_ret
             exact ⟨xer, xW HB⟩
           ·rw [if_neg c25] at H
            have c25b0 := decide_eq_false c25
            clear c25
            obtain rfl := Option.some.inj H
            go_wp2
            go_ret
            exact ⟨xer, xW HB⟩
 ·obtain rfl := Bool.eq_false_iff.mpr c6
  rw [if_neg xF] at H
  obtain rfl := Option.some.inj H
  have p124 : 0 ≤ (a1 : Int) := xO
  have q124 : a1 < (l0.length : Int) := xO
  obtain ⟨ad124, A124_3, c124_3, e124, hx124_0, hx124_1, hx124_2, hx124_3, hl124_3, hi124_3⟩ := at_T62 HR0.out a1 p124 q124
  cases e124
  have HR124_3 := xm hi124_3; have HC124_3 := xm hl124_3; clear hi124_3 hl124_3; replace p124 := eq_true p124; replace q124 := eq_true q124
  go_enter Try.func46, Try.ntmps46
  go_wp2_with (first | ((with_reducible refine gate_dst (N := 5) rfl ?_); (try (refine gate_guard (by rfl) ?_; dsimp only)); refine xG (cs := #[.int .u8 0, .int .i64 0, .int .i64 0, .slice none 0 0]) (t := 62) ?_; intro gb125 hg w69 hbox hb; have BK125 := xm (hbox); have GW125 := xm (xZ HB hg); have GE125 := xm (xZ HB hg); replace HB := xm (xS HB hb); clear hb hbox hg; have hcz70_0 := blkc4 BK125.out) | (go_at_call 29; (with_reducible refine (gamehallref1_In.calls (wrap64 ((rd_T62 l0 a1).f0)) 65 90 false _ A5.out).mono ?_); rintro e w' ⟨rfl, ⟨nd, rfl⟩⟩; (try exact xE)))
  go_ret
  exact ⟨xer, xW HB⟩

end Go.Proofs.Ytloadbbndnmdlaa.PZobKeys
