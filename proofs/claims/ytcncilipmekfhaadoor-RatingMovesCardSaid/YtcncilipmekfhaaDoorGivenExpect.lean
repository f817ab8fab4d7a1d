/- rating.Expect, walked by hand: it reads a package-level table. -/
import Derived.Test.YtcncilipmekfhaaDoorProg
import Derived.Test.YtcncilipmekfhaaDoorXTells
import Derived.Test.YtcncilipmekfhaaDoorXWords
import Derived.Test.YtcncilipmekfhaaDoorWLast
namespace Go.Proofs.YtcncilipmekfhaaDoorW.PrintWords
open Go.RowKit Go.Proofs.YtcncilipmekfhaaDoorW.PrintLast Go.Proofs.YtcncilipmekfhaaDoorW.PrintMore
attribute [local go_sem] max2_int min2_int max_two min_two max_three min_three max_four min_four
set_option linter.unusedVariables false
set_option linter.unusedSimpArgs false
/-- the table -/
def stepsL : List Int := [4, 11, 18, 26, 33, 40, 47, 54, 62, 69, 77, 84, 92, 99, 107, 114, 122, 130, 138, 146, 154, 163, 171, 180, 189, 198, 207, 216, 226, 236, 246, 257, 268, 279, 291, 303, 316, 329, 345, 358, 375, 392]
def stepsA : Array Value := (stepsL.map (Value.int .i64)).toArray
/-- the table lies in memory -/
def LaidS (w : World) : Prop := ∀ i v, stepsA[i]? = some v → w.cell? ⟨0, i, none⟩ = some v
theorem LaidS.cells {w : World} (h : LaidS w) : w.cell? ⟨0, 0, none⟩ = some (.int .i64 4) ∧ w.cell? ⟨0, 1, none⟩ = some (.int .i64 11) ∧ w.cell? ⟨0, 2, none⟩ = some (.int .i64 18) ∧ w.cell? ⟨0, 3, none⟩ = some (.int .i64 26) ∧ w.cell? ⟨0, 4, none⟩ = some (.int .i64 33) ∧ w.cell? ⟨0, 5, none⟩ = some (.int .i64 40) ∧ w.cell? ⟨0, 6, none⟩ = some (.int .i64 47) ∧ w.cell? ⟨0, 7, none⟩ = some (.int .i64 54) ∧ w.cell? ⟨0, 8, none⟩ = some (.int .i64 62) ∧ w.cell? ⟨0, 9, none⟩ = some (.int .i64 69) ∧ w.cell? ⟨0, 10, none⟩ = some (.int .i64 77) ∧ w.cell? ⟨0, 11, none⟩ = some (.int .i64 84) ∧ w.cell? ⟨0, 12, none⟩ = some (.int .i64 92) ∧ w.cell? ⟨0, 13, none⟩ = some (.int .i64 99) ∧ w.cell? ⟨0, 14, none⟩ = some (.int .i64 107) ∧ w.cell? ⟨0, 15, none⟩ = some (.int .i64 114) ∧ w.cell? ⟨0, 16, none⟩ = some (.int .i64 122) ∧ w.cell? ⟨0, 17, none⟩ = some (.int .i64 130) ∧ w.cell? ⟨0, 18, none⟩ = some (.int .i64 138) ∧ w.cell? ⟨0, 19, none⟩ = some (.int .i64 146) ∧ w.cell? ⟨0, 20, none⟩ = some (.int .i64 154) ∧ w.cell? ⟨0, 21, none⟩ = some (.int .i64 163) ∧ w.cell? ⟨0, 22, none⟩ = some (.int .i64 171) ∧ w.cell? ⟨0, 23, none⟩ = some (.int .i64 180) ∧ w.cell? ⟨0, 24, none⟩ = some (.int .i64 189) ∧ w.cell? ⟨0, 25, none⟩ = some (.int .i64 198) ∧ w.cell? ⟨0, 26, none⟩ = some (.int .i64 207) ∧ w.cell? ⟨0, 27, none⟩ = some (.int .i64 216) ∧ w.cell? ⟨0, 28, none⟩ = some (.int .i64 226) ∧ w.cell? ⟨0, 29, none⟩ = some (.int .i64 236) ∧ w.cell? ⟨0, 30, none⟩ = some (.int .i64 246) ∧ w.cell? ⟨0, 31, none⟩ = some (.int .i64 257) ∧ w.cell? ⟨0, 32, none⟩ = some (.int .i64 268) ∧ w.cell? ⟨0, 33, none⟩ = some (.int .i64 279) ∧ w.cell? ⟨0, 34, none⟩ = some (.int .i64 291) ∧ w.cell? ⟨0, 35, none⟩ = some (.int .i64 303) ∧ w.cell? ⟨0, 36, none⟩ = some (.int .i64 316) ∧ w.cell? ⟨0, 37, none⟩ = some (.int .i64 329) ∧ w.cell? ⟨0, 38, none⟩ = some (.int .i64 345) ∧ w.cell? ⟨0, 39, none⟩ = some (.int .i64 358) ∧ w.cell? ⟨0, 40, none⟩ = some (.int .i64 375) ∧ w.cell? ⟨0, 41, none⟩ = some (.int .i64 392) := ⟨h 0 _ rfl, h 1 _ rfl, h 2 _ rfl, h 3 _ rfl, h 4 _ rfl, h 5 _ rfl, h 6 _ rfl, h 7 _ rfl, h 8 _ rfl, h 9 _ rfl, h 10 _ rfl, h 11 _ rfl, h 12 _ rfl, h 13 _ rfl, h 14 _ rfl, h 15 _ rfl, h 16 _ rfl, h 17 _ rfl, h 18 _ rfl, h 19 _ rfl, h 20 _ rfl, h 21 _ rfl, h 22 _ rfl, h 23 _ rfl, h 24 _ rfl, h 25 _ rfl, h 26 _ rfl, h 27 _ rfl, h 28 _ rfl, h 29 _ rfl, h 30 _ rfl, h 31 _ rfl, h 32 _ rfl, h 33 _ rfl, h 34 _ rfl, h 35 _ rfl, h 36 _ rfl, h 37 _ rfl, h 38 _ rfl, h 39 _ rfl, h 40 _ rfl, h 41 _ rfl⟩
theorem LaidS.below {w W : World} (h : LaidS w) (hb : Below w.heap.size w W) : LaidS W := fun i v e => (hb.cell (World.block_lt_of_cell? w _ (h i v e))).trans (h i v e)
theorem LaidS.drewN {w : World} (h : LaidS w) (n : Nat) : LaidS (w.drewN n) := h
theorem LaidS.drew {w : World} (h : LaidS w) : LaidS w.drew := h
theorem xL {w W : World} (hl : LaidS w) (k : LaidS w → LaidS W := by intro h_; repeat (first | (with_reducible exact h_) | (with_reducible refine LaidS.drewN ?_ _) | (with_reducible refine LaidS.drew ?_) | exact LaidS.below h_ (xW HB))) : LaidS W := k hl
theorem lcf_run {P : Program} {w : World} {a : Addr} : ∀ (vs : List Value) (i : Nat) (acc : Array Value), (∀ j v, vs[j]? = some v → w.cell? (a.add (i + j)) = some v) → (loadCellsFrom a i vs.length acc).run P w = .ok (acc ++ vs.toArray) w
  | [], i, acc, _ => by simp [loadCellsFrom]
  | v :: vs, i, acc, h => by
    have h0 := h 0 v rfl
    rw [Nat.add_zero] at h0
    have ih := lcf_run (P := P) vs (i + 1) (acc.push v) (fun j u e => by have := h (j + 1) u e; rwa [show i + (j + 1) = i + 1 + j by omega] at this)
    have hl : (load (a.add i)).run P w = .ok v w := by rw [show load (a.add i) = Sem.load .plain (a.add i) .pure from rfl]; simp [Sem.run, h0]
    simp only [List.length_cons, loadCellsFrom, Sem.run_bind, hl, Result.andThen_ok, ih]
    congr 1
    simp
theorem steps_load {w : World} (h : LaidS w) {P : Program} : (loadCells ⟨0, 0, none⟩ 42).run P w = .ok stepsA w := by
  have e := lcf_run (P := P) (w := w) (a := ⟨0, 0, none⟩) (stepsL.map (Value.int .i64)) 0 #[] (fun j v e => by
    have := h j v (by simpa [stepsA] using e)
    have e2 : (⟨0, 0, none⟩ : Addr).add (0 + j) = ⟨0, j, none⟩ := by cases j <;> simp [Addr.add]
    rw [e2]; exact this)
  have hlen : (stepsL.map (Value.int .i64)).length = 42 := rfl
  rw [hlen] at e
  unfold loadCells
  rw [e]
  congr 1
theorem steps_run {w : World} (h : LaidS w) (ev : Operand → Value) (hev : ev (.global 0) = .pointer (some ⟨0, 0, none⟩)) : (execOp ev { dst := some 13, op := Op.load 50 (Operand.global 0), type := 50, pos := "rating.go:36", after := #[], guard := none }).run Tryd.prog w = .ok (.value (.agg stepsA)) w := by
  have hl := steps_load h (P := Tryd.prog)
  have hu := Tryd.underlying50
  simp [execOp, Instr.loadAt, Instr.sureAddr, loadVar, isAgg, sizeOf, hl, hev, hu, show Tryd.t50.size = 42 from rfl]
theorem index_run {w : World} (ev : Operand → Value) (x : Int) (h0 : 0 ≤ x) (h1 : x < 42) (ha : ev (.tmp 13) = .agg stepsA) (hx : ev (.tmp 14) = .int .i64 x) : (execOp ev { dst := some 16, op := Op.index 50 (Operand.tmp 13) (Operand.tmp 14), type := 3, pos := "rating.go:36", after := #[], guard := none }).run Tryd.prog w = .ok (.value (.int .i64 (rd stepsL x))) w := by
  have hu := Tryd.underlying50
  obtain ⟨n, rfl⟩ : ∃ n : Nat, x = (n : Int) := ⟨x.toNat, by omega⟩
  have hn : n < 42 := by omega
  have hsz : stepsA[n]? = some (.int .i64 (rd stepsL (n : Int))) := by
    have : n < stepsL.length := hn
    simp [stepsA, rd, List.getD_eq_getElem?_getD, this]
  have h42 : (n : Int) < 42 := h1
  simp [execOp, Instr.index, ha, hx, hu, asIntOf, part, isAgg, sizeOf, hsz, h42, Tryd.underlying3]
  rw [if_pos hn, show Tryd.t3.size = 1 from rfl, Nat.mul_one, hsz]
  rfl
mutual
def rating_Expect.l0 : Nat → Int → Int → Int → Option (Int)
  | 0, _, _, _ => none
  | k + 1, a0, x3, x14 => if x14 < 42 then (if 0 ≤ x14 then (if a0 ≥ (wrap64 (100 * (rd stepsL x14))) then (rating_Expect.l0 k a0 (wrap64 (x3 + 1)) (wrap64 (x14 + 1))) else (rating_Expect.l0 k a0 x3 (wrap64 (x14 + 1)))) else (none)) else (some x3)
def rating_Expect.f : Nat → Int → Option (Int)
  | 0, _ => none
  | k + 1, a0 => if a0 < 0 then ((rating_Expect.f k (wrap64 (-(mx a0 (-4000000))))).bind fun t102 => (some (wrap64 (100 - t102)))) else (rating_Expect.l0 k a0 50 0)
end
theorem rating_Expect.mono_l : ∀ k, (∀ y0, LeO (rating_Expect.f k y0) (rating_Expect.f (k + 1) y0)) ∧ (∀ y0 y1 y2, LeO (rating_Expect.l0 k y0 y1 y2) (rating_Expect.l0 (k + 1) y0 y1 y2))
  | 0 => ⟨fun _ r h => by simp [rating_Expect.f] at h, fun _ _ _ r h => by simp [rating_Expect.l0] at h⟩
  | k + 1 => by
    obtain ⟨ih0, ih1⟩ := rating_Expect.mono_l k
    refine ⟨?_, ?_⟩
    · intros
      unfold rating_Expect.f
      repeat' first
      | (with_reducible apply ih0)
      | (with_reducible apply ih1)
      | (with_reducible exact LeO.refl _)
      | (with_reducible exact LeO.none _)
      | (with_reducible refine LeO.ite ?_ ?_)
      | (with_reducible refine LeO.bind ?_ (fun _ => ?_))
    · intros
      unfold rating_Expect.l0
      repeat' first
      | (with_reducible apply ih1)
      | (with_reducible exact LeO.refl _)
      | (with_reducible exact LeO.none _)
      | (with_reducible refine LeO.ite ?_ ?_)
theorem rating_Expect.mono : ∀ a0 k, LeO (rating_Expect.f k a0) (rating_Expect.f (k + 1) a0) := fun a0 k => (rating_Expect.mono_l k).1 a0
set_option maxHeartbeats 8000000 in
set_option maxRecDepth 100000 in
theorem rating_Expect.calls (k : Nat) : ∀ (a0 : Int) (r : Int) (w : World) (h : rating_Expect.f k a0 = some r) (hlaid : LaidS w),
    Calls Tryd.prog 13 #[.int .i64 a0] w fun e w' => e = .returned (.int .i64 r) ∧ Drawn0 w w' := by
  induction k using Nat.strongRecOn with
  | _ k ih =>
  intro a0 r w h hlaid
  cases k with
  | zero => exact absurd h (by simp [rating_Expect.f])
  | succ k =>
  simp only [rating_Expect.f] at h
  by_cases c2 : a0 < 0
  · rw [if_pos c2] at h
    have c2b0 : decide (a0 < 0) = true := decide_eq_true c2
    clear c2
    replace h := Option.bind_eq_some_iff.mp h
    obtain ⟨t102, A30, H⟩ := h
    obtain ⟨j, hj⟩ : ∃ j_ : Int, mx a0 (-4000000) = j_ := ⟨_, rfl⟩
    rw [hj] at A30
    have hj_ : (if a0 < -4000000 then -4000000 else a0) = j := hj
    have A3 := Aside0.mk A30
    clear A30 hj
    obtain rfl := Option.some.inj H
    go_enter Tryd.func13, Tryd.ntmps13
    go_wp2_with (first | ((with_reducible refine gate_callee (f := 13) rfl ?_); refine goesL_ (some 11) rfl rfl Tryd.func13 (by kernel_rfl) rfl #[.int .i64 (wrap64 (-j))] rfl (by (try simp only [List.map_toArray, List.map_cons, List.map_nil]); first | done | rfl) ?_; (with_reducible refine (ih k (by omega) (wrap64 (-j)) t102 _ A3.out hlaid).mono ?_); rintro e w4 ⟨rfl, ⟨nd, rfl⟩⟩; refine ⟨_, rfl, ?_⟩))
    go_ret
    exact ⟨xrf, by repeat (first | exact Drawn0.refl _ | apply Drawn0.step)⟩
  · rw [if_neg c2] at h
    have c2b0 : decide (a0 < 0) = false := decide_eq_false c2
    clear c2
    have H' := Aside0.mk h
    clear h
    go_enter Tryd.func13, Tryd.ntmps13
    go_wp2_with ((with_reducible refine gate_dst (N := 13) rfl ?_); refine Kd.event_run rfl (steps_run hlaid _ rfl) ?_)
    go_loopg [3, 14] k (fun kq vs3 vs14 w' => ∃ (x3_1 : Int) (x14_1 : Int), vs3 = .int .i64 x3_1 ∧ vs14 = .int .i64 x14_1 ∧ Aside0 (rating_Expect.l0 kq a0 x3_1 x14_1 = some r) ∧ Aside0 (kq ≤ k) ∧ Drawn0 w w')
    case atStart => exact ⟨(50), (0), (xrf), (xrf), H', ⟨Nat.le_refl _⟩, by repeat (first | exact Drawn0.refl _ | apply Drawn0.step)⟩
    case round =>
      clear H'
      obtain ⟨x3_1, x14_1, rfl, rfl, HA, HK1, ⟨m1, rfl⟩⟩ := hrel
      cases gk with
      | zero => exact absurd HA.out (by simp [rating_Expect.l0])
      | succ k1 =>
        have H := HA.out
        clear HA
        simp only [rating_Expect.l0] at H
        by_cases c4 : x14_1 < 42
        · rw [if_pos c4] at H
          have c4b0 : decide (x14_1 < 42) = true := decide_eq_true c4
          by_cases c5 : 0 ≤ x14_1
          · rw [if_pos c5] at H
            have c5b0 : decide (0 ≤ x14_1) = true := decide_eq_true c5
            by_cases c6 : a0 ≥ (wrap64 (100 * (rd stepsL x14_1)))
            · rw [if_pos c6] at H
              have c6b0 : decide ((wrap64 (100 * (rd stepsL x14_1))) ≤ a0) = true := decide_eq_true c6
              clear c6
              have H' := Aside0.mk H
              clear H
              go_wp2_with ((with_reducible refine gate_dst (N := 16) rfl ?_); refine Kd.event_run rfl (index_run _ x14_1 c5 c4 rfl rfl) ?_)
              go_roundg k1
              case measure => have := HK1.out; omega
              case rel => exact ⟨(wrap64 (x3_1 + 1)), (wrap64 (x14_1 + 1)), (xrf), (by first | rfl | (simp; unfold wrap64; omega)), H', ⟨by have := HK1.out; omega⟩, by repeat (first | exact Drawn0.refl _ | apply Drawn0.step)⟩
            · rw [if_neg c6] at H
              have c6b0 : decide ((wrap64 (100 * (rd stepsL x14_1))) ≤ a0) = false := decide_eq_false c6
              clear c6
              have H' := Aside0.mk H
              clear H
              go_wp2_with ((with_reducible refine gate_dst (N := 16) rfl ?_); refine Kd.event_run rfl (index_run _ x14_1 c5 c4 rfl rfl) ?_)
              go_roundg k1
              case measure => have := HK1.out; omega
              case rel => exact ⟨(x3_1), (wrap64 (x14_1 + 1)), (xrf), (by first | rfl | (simp; unfold wrap64; omega)), H', ⟨by have := HK1.out; omega⟩, by repeat (first | exact Drawn0.refl _ | apply Drawn0.step)⟩
          · rw [if_neg c5] at H
            exact absurd H (by simp)
        · rw [if_neg c4] at H
          have c4b0 : decide (x14_1 < 42) = false := decide_eq_false c4
          clear c4
          obtain rfl := Option.some.inj H
          go_wp2
          go_ret
          exact ⟨xrf, by repeat (first | exact Drawn0.refl _ | apply Drawn0.step)⟩
end Go.Proofs.YtcncilipmekfhaaDoorW.PrintWords
