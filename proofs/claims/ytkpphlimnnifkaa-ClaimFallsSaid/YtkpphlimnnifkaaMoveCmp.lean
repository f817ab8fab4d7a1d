/- moves.compare in whatever world: what it returns, draws and lays; it is a strict weak order, and parts whatever two moves are not one. -/
import Derived.Test.YtkpphlimnnifkaaPClaimFallsx7
import Derived.Shelf.SlSortCmp.NoneTotal
namespace Go.Proofs.Ytkpphlimnnifkaa.PClaimFalls
open Go.RowKit Go.Sort Go.Proofs.YtkpphlimnnifkaaW.PrintWords Go.Proofs.YtkpphlimnnifkaaW.PrintLast Go.Proofs.YtkpphlimnnifkaaW.PrintMore
set_option linter.unusedVariables false
set_option linter.unusedSimpArgs false
/-- what cmp.Compare and cmp.Or answer -/
def cmpI (a b : Int) : Int := if a < b then -1 else if a > b then 1 else 0
def cmpM (x y : S38) : Int := if cmpI x.f0 y.f0 ≠ 0 then cmpI x.f0 y.f0 else if cmpI x.f1 y.f1 ≠ 0 then cmpI x.f1 y.f1 else cmpI x.f2 y.f2
def encM (x : S38) : List Value := [.int .i64 x.f0, .int .i64 x.f1, .int .i64 x.f2]
theorem cmp_f (a b : Int) : cmp_Compare_int.f a b = some (cmpI a b) := by
  unfold cmp_Compare_int.f cmp_isNaN_int.f cmpI
  by_cases h1 : a < b
  · simp [h1]
  · by_cases h2 : a > b <;> simp [h1, h2]
theorem or_f (a b c : Int) : cmp_Or_int.f 5 [a, b, c] = some (if a ≠ 0 then a else if b ≠ 0 then b else c) := by
  have e0 : wrap64 (0 + 1) = 1 := by decide +kernel
  have e1 : wrap64 (1 + 1) = 2 := by decide +kernel
  have e2 : wrap64 (2 + 1) = 3 := by decide +kernel
  unfold cmp_Or_int.f
  simp only [cmp_Or_int.l0, e0, e1, e2]
  by_cases h1 : a = 0
  · by_cases h2 : b = 0
    · by_cases h3 : c = 0 <;> simp [h1, h2, h3, Go.Proofs.YtkpphlimnnifkaaW.PrintWords.rd]
    · simp [h1, h2, Go.Proofs.YtkpphlimnnifkaaW.PrintWords.rd]
  · simp [h1, Go.Proofs.YtkpphlimnnifkaaW.PrintWords.rd]
theorem lit3 (W : World) (a b c : Int) : Kd.C (Kd.int .i64) (W.alloc (.cells #[.int .i64 a, .int .i64 b, .int .i64 c] 3)) (some ⟨W.heap.size, 0, none⟩) ([a, b, c] : List Int).length [a, b, c] := by
  refine ⟨rfl, by simp, fun _ => ⟨_, rfl, fun j p hj => ⟨[.int .i64 p], rfl, rfl, fun i u hu => ?_⟩⟩⟩
  have hi : i = 0 := by
    rcases i with _ | i
    · rfl
    · simp at hu
  subst hi
  have hu' : u = .int .i64 p := by simpa using hu.symm
  subst hu'
  have e : ∀ q v, (#[Value.int .i64 a, Value.int .i64 b, Value.int .i64 c] : Array Value)[q]? = some v → (W.alloc (.cells #[.int .i64 a, .int .i64 b, .int .i64 c] 3)).cell? ⟨W.heap.size, q, none⟩ = some v := fun q v h => by
    have h0 : (W.alloc (.cells #[.int .i64 a, .int .i64 b, .int .i64 c] 3)).heap[W.heap.size]? = some (.cells #[.int .i64 a, .int .i64 b, .int .i64 c] 3 (0, 0)) := Array.getElem?_push_size
    unfold World.cell?
    rw [h0]
    simpa using h
  rcases j with _ | _ | _ | j
  · simp at hj; subst hj; exact e 0 _ rfl
  · simp at hj; subst hj; exact e 1 _ rfl
  · simp at hj; subst hj; exact e 2 _ rfl
  · simp at hj
theorem g_refl {W : World} : ∃ q os', W = grow (W.drewN q) os' := ⟨0, #[], by rw [grow_empty]; rfl⟩
theorem g_drewN {W w : World} (h : ∃ q os', w = grow (W.drewN q) os') (n : Nat) : ∃ q os', w.drewN n = grow (W.drewN q) os' := by
  obtain ⟨q, os, rfl⟩ := h; exact ⟨q + n, os, by show grow ((W.drewN q).drewN n) os = _; rw [World.drewN_drewN]⟩
theorem g_alloc {W w : World} (h : ∃ q os', w = grow (W.drewN q) os') (o : Obj) : ∃ q os', w.alloc o = grow (W.drewN q) os' := by
  obtain ⟨q, os, rfl⟩ := h; exact ⟨q, os ++ #[o], by show ({ (W.drewN q) with heap := (W.heap ++ os).push o } : World) = { (W.drewN q) with heap := W.heap ++ (os ++ #[o]) }; congr 1; simp⟩
theorem cellM (W : World) (cs : Array Value) (t g : Nat) (o : Nat) (v : Value) (h : W.heap[g]? = some (.cells cs t (0, 0))) (hv : cs[o]? = some v) : W.cell? ⟨g, o, none⟩ = some v := by
  unfold World.cell?; rw [h]; simpa using hv
theorem blkA (W : World) (o : Obj) (g : Nat) (b : Obj) (h : W.heap[g]? = some b) : (W.alloc o).heap[g]? = some b := by
  have : g < W.heap.size := by
    rcases Nat.lt_or_ge g W.heap.size with h' | h'
    · exact h'
    · rw [Array.getElem?_eq_none h'] at h; cases h
  show (W.heap.push o)[g]? = some b
  rw [Array.getElem?_push, if_neg (by omega)]; exact h
set_option maxHeartbeats 8000000 in
set_option maxRecDepth 100000 in
theorem compare_grown (x y : S38) (W : World) : Calls Try.prog 83 #[.agg #[.int .i64 x.f0, .int .i64 x.f1, .int .i64 x.f2], .agg #[.int .i64 y.f0, .int .i64 y.f1, .int .i64 y.f2]] W fun e w' => e = .returned (.int .i64 (cmpM x y)) ∧ ∃ q os', w' = grow (W.drewN q) os' := by
 obtain ⟨a0_0, a0_1, a0_2⟩ := x; obtain ⟨a1_0, a1_1, a1_2⟩ := y
 have hA3 := xm (cmp_f a0_0 a1_0); have hA4 := xm (cmp_f a0_1 a1_1); have hA5 := xm (cmp_f a0_2 a1_2)
 obtain ⟨t150, e150⟩ : ∃ t, t = cmpI a0_0 a1_0 := ⟨_, rfl⟩
 obtain ⟨t151, e151⟩ : ∃ t, t = cmpI a0_1 a1_1 := ⟨_, rfl⟩
 obtain ⟨t152, e152⟩ : ∃ t, t = cmpI a0_2 a1_2 := ⟨_, rfl⟩
 rw [← e150] at hA3; rw [← e151] at hA4; rw [← e152] at hA5
 obtain ⟨r, er⟩ : ∃ r, r = cmpM ⟨a0_0, a0_1, a0_2⟩ ⟨a1_0, a1_1, a1_2⟩ := ⟨_, rfl⟩
 have hA6 : Aside0 (cmp_Or_int.f 5 [t150, t151, t152] = some r) := xm (by rw [or_f, er, e150, e151, e152]; rfl)
 rw [← er]
 clear er e150 e151 e152
 have hu39 := Try.underlying38; have hss_ := @isSome_setCell
 go_enter Try.func83, Try.ntmps83
 go_wp2_with (fail)
 obtain ⟨W0, eW0⟩ : ∃ W0, W0 = ((W.alloc (.cells #[.int .i64 a0_0, .int .i64 a0_1, .int .i64 a0_2] 38)).alloc (.cells #[.int .i64 a1_0, .int .i64 a1_1, .int .i64 a1_2] 38)).drew := ⟨_, rfl⟩
 have B0 : W0.heap[W.heap.size]? = some (.cells #[.int .i64 a0_0, .int .i64 a0_1, .int .i64 a0_2] 38 (0, 0)) := by rw [eW0]; exact blkA _ _ _ _ Array.getElem?_push_size
 have B1 : W0.heap[W.heap.size + 1]? = some (.cells #[.int .i64 a1_0, .int .i64 a1_1, .int .i64 a1_2] 38 (0, 0)) := by
   rw [eW0]
   have h := Array.getElem?_push_size (xs := (W.alloc (.cells #[.int .i64 a0_0, .int .i64 a0_1, .int .i64 a0_2] 38)).heap) (x := Obj.cells #[.int .i64 a1_0, .int .i64 a1_1, .int .i64 a1_2] 38 (0, 0))
   rw [show (W.alloc (.cells #[.int .i64 a0_0, .int .i64 a0_1, .int .i64 a0_2] 38)).heap.size = W.heap.size + 1 by simp [World.alloc_eq]] at h
   exact h
 obtain ⟨g1, eg1⟩ : ∃ g, g = W.heap.size + 1 := ⟨_, rfl⟩
 obtain ⟨g0, eg0⟩ : ∃ g, g = W.heap.size := ⟨_, rfl⟩
 rw [← eg1] at B1; rw [← eg0] at B0
 rw [← eg1, ← eg0]
 have hg := xm (And.intro eg0 eg1); clear eg0 eg1
 refine start_ (n := 18) (S := fun w' => ce w' g0 0 (.int .i64 a0_0) ∧ ce w' g0 1 (.int .i64 a0_1) ∧ ce w' g0 2 (.int .i64 a0_2) ∧ ce w' g1 0 (.int .i64 a1_0) ∧ ce w' g1 1 (.int .i64 a1_1) ∧ ce w' g1 2 (.int .i64 a1_2)) (ds := []) (mk 18 0) (by kernel_rfl) rfl rfl (by rw [← eW0]; exact ⟨cellM _ _ _ _ 0 _ B0 rfl, cellM _ _ _ _ 1 _ B0 rfl, cellM _ _ _ _ 2 _ B0 rfl, cellM _ _ _ _ 0 _ B1 rfl, cellM _ _ _ _ 1 _ B1 rfl, cellM _ _ _ _ 2 _ B1 rfl⟩) (fun hHeld => ?_); refine with_tabW moves_compare.tab1 moves_compare.bits1 (fun HT_ HW_ => ?_)
 rw [← eW0] at hHeld ⊢
 have hW0 := xm eW0; clear eW0
 refine pu_ 0 5 HT_ ?_; refine pu_ 2 7 HT_ ?_; refine pu_ 5 10 HT_ ?_; refine pu_ 7 12 HT_ ?_; refine pu_ 10 15 HT_ ?_; refine pu_ 12 17 HT_ ?_; refine tk_ 1 6 HT_ HW_ hHeld ?_; refine tk_ 3 8 HT_ HW_ hHeld ?_; refine tk_ 6 11 HT_ HW_ hHeld ?_; refine tk_ 8 13 HT_ HW_ hHeld ?_; refine tk_ 11 16 HT_ HW_ hHeld ?_; refine tk_ 13 18 HT_ HW_ hHeld ?_
 refine one_ (i := 4) (N := some 9) #[true, true, true, true, true, true, true, true, true, false, true, true, true, true, false, false, false, false] rfl rfl (one_of HT_.out (by kernel_rfl)) (by decide) (fun K hK => ?_)
 refine goes_ Try.func92 (by kernel_rfl) rfl #[.int .i64 a0_0, .int .i64 a1_0] (by rfl) rfl rfl (by (try simp only [List.map_toArray, List.map_cons, List.map_nil]); first | done | rfl) ?_
 with_reducible refine (cmp_Compare_int.calls a0_0 a1_0 t150 _ hA3.out).mono ?_
 rintro e w' ⟨rfl, ⟨nd1, rfl⟩⟩
 refine ⟨_, rfl, ?_⟩
 refine hK.out _ _ ⟨cellM _ _ _ _ 0 _ B0 rfl, cellM _ _ _ _ 1 _ B0 rfl, cellM _ _ _ _ 2 _ B0 rfl, cellM _ _ _ _ 0 _ B1 rfl, cellM _ _ _ _ 1 _ B1 rfl, cellM _ _ _ _ 2 _ B1 rfl⟩ (fun hHeld => ?_)
 clear hK K
 refine norm_ (a' := ?_) ?_ ?_
 rotate_left
 ·show Act.put _ (some 9) _ = _
  simp only [Act.put, List.setIfInBounds_toArray, List.set_cons_zero, List.set_cons_succ, i64_w, i32_w]
  rfl
 refine one_ (i := 9) (N := some 14) #[true, true, true, true, true, true, true, true, true, true, true, true, true, true, false, false, false, false] rfl rfl (one_of HT_.out (by kernel_rfl)) (by decide) (fun K hK => ?_)
 refine goes_ Try.func92 (by kernel_rfl) rfl #[.int .i64 a0_1, .int .i64 a1_1] (by rfl) rfl rfl (by (try simp only [List.map_toArray, List.map_cons, List.map_nil]); first | done | rfl) ?_
 with_reducible refine (cmp_Compare_int.calls a0_1 a1_1 t151 _ hA4.out).mono ?_
 rintro e w' ⟨rfl, ⟨nd2, rfl⟩⟩
 refine ⟨_, rfl, ?_⟩
 refine hK.out _ _ ⟨cellM _ _ _ _ 0 _ B0 rfl, cellM _ _ _ _ 1 _ B0 rfl, cellM _ _ _ _ 2 _ B0 rfl, cellM _ _ _ _ 0 _ B1 rfl, cellM _ _ _ _ 1 _ B1 rfl, cellM _ _ _ _ 2 _ B1 rfl⟩ (fun hHeld => ?_)
 clear hK K
 refine norm_ (a' := ?_) ?_ ?_
 rotate_left
 ·show Act.put _ (some 14) _ = _
  simp only [Act.put, List.setIfInBounds_toArray, List.set_cons_zero, List.set_cons_succ, i64_w, i32_w]
  rfl
 refine one_ (i := 14) (N := some 19) #[true, true, true, true, true, true, true, true, true, true, true, true, true, true, true, false, false, false] rfl rfl (one_of HT_.out (by kernel_rfl)) (by decide) (fun K hK => ?_)
 refine goes_ Try.func92 (by kernel_rfl) rfl #[.int .i64 a0_2, .int .i64 a1_2] (by rfl) rfl rfl (by (try simp only [List.map_toArray, List.map_cons, List.map_nil]); first | done | rfl) ?_
 with_reducible refine (cmp_Compare_int.calls a0_2 a1_2 t152 _ hA5.out).mono ?_
 rintro e w' ⟨rfl, ⟨nd3, rfl⟩⟩
 refine ⟨_, rfl, ?_⟩
 refine hK.out _ _ ⟨cellM _ _ _ _ 0 _ B0 rfl, cellM _ _ _ _ 1 _ B0 rfl, cellM _ _ _ _ 2 _ B0 rfl, cellM _ _ _ _ 0 _ B1 rfl, cellM _ _ _ _ 1 _ B1 rfl, cellM _ _ _ _ 2 _ B1 rfl⟩ (fun hHeld => ?_)
 clear hK K
 refine norm_ (a' := ?_) ?_ ?_
 rotate_left
 ·show Act.put _ (some 19) _ = _
  simp only [Act.put, List.setIfInBounds_toArray, List.set_cons_zero, List.set_cons_succ, i64_w, i32_w]
  rfl
 obtain ⟨W3, eW3⟩ : ∃ W3, W3 = ((W0.drewN nd1).drewN nd2).drewN nd3 := ⟨_, rfl⟩
 replace B0 : W3.heap[g0]? = _ := (congrArg (fun w : World => w.heap[g0]?) eW3).trans B0
 replace B1 : W3.heap[g1]? = _ := (congrArg (fun w : World => w.heap[g1]?) eW3).trans B1
 rw [← eW3] at hHeld ⊢
 have hW3 := xm eW3; clear eW3
 refine one_ (i := 15) (N := some 20) #[true, true, true, true, true, true, true, true, true, true, true, true, true, true, true, true, false, false] rfl rfl (one_of HT_.out (by kernel_rfl)) (by decide) (fun K hK => ?_)
 refine event_step (by rfl) (v := .slice (some ⟨W3.heap.size, 0, none⟩) 3 3) (w1 := W3.alloc (.cells #[.int .i64 t150, .int .i64 t151, .int .i64 t152] 3)) ?hr ?_
 case hr => first | (go_simp; done) | (go_simp; rfl)
 refine hK.out _ _ ⟨cellM _ _ _ _ 0 _ (blkA _ _ _ _ B0) rfl, cellM _ _ _ _ 1 _ (blkA _ _ _ _ B0) rfl, cellM _ _ _ _ 2 _ (blkA _ _ _ _ B0) rfl, cellM _ _ _ _ 0 _ (blkA _ _ _ _ B1) rfl, cellM _ _ _ _ 1 _ (blkA _ _ _ _ B1) rfl, cellM _ _ _ _ 2 _ (blkA _ _ _ _ B1) rfl⟩ (fun hHeld => ?_)
 clear hK K
 refine norm_ (a' := ?_) ?_ ?_
 rotate_left
 ·show Act.put _ (some 20) _ = _
  simp only [Act.put, List.setIfInBounds_toArray, List.set_cons_zero, List.set_cons_succ, i64_w, i32_w]
  rfl
 refine one_ (i := 16) (N := some 21) #[true, true, true, true, true, true, true, true, true, true, true, true, true, true, true, true, true, false] rfl rfl (one_of HT_.out (by kernel_rfl)) (by decide) (fun K hK => ?_)
 refine goes_ Try.func91 (by kernel_rfl) rfl #[.slice (some ⟨W3.heap.size, 0, none⟩) 3 3] (by rfl) rfl rfl (by (try simp only [List.map_toArray, List.map_cons, List.map_nil]); first | done | rfl) ?_
 refine (cmp_Or_int.calls 5 (some ⟨W3.heap.size, 0, none⟩) 3 [t150, t151, t152] r _ (lit3 W3 t150 t151 t152) (by simp) hA6.out).mono ?_
 rintro e w' ⟨rfl, ⟨nd4, rfl⟩⟩
 refine ⟨_, rfl, ?_⟩
 refine hK.out _ _ ⟨cellM _ _ _ _ 0 _ (blkA _ _ _ _ B0) rfl, cellM _ _ _ _ 1 _ (blkA _ _ _ _ B0) rfl, cellM _ _ _ _ 2 _ (blkA _ _ _ _ B0) rfl, cellM _ _ _ _ 0 _ (blkA _ _ _ _ B1) rfl, cellM _ _ _ _ 1 _ (blkA _ _ _ _ B1) rfl, cellM _ _ _ _ 2 _ (blkA _ _ _ _ B1) rfl⟩ (fun hHeld => ?_)
 clear hK K
 refine norm_ (a' := ?_) ?_ ?_
 rotate_left
 ·show Act.put _ (some 21) _ = _
  simp only [Act.put, List.setIfInBounds_toArray, List.set_cons_zero, List.set_cons_succ, i64_w, i32_w]
  rfl
 refine pu_ 17 4 HT_ ?_
 refine done_ (done_of HT_.out (by kernel_rfl)) ?_
 try go_wp2
 go_ret
 exact ⟨xer, by rw [hW3.out, hW0.out]; exact g_drewN (g_alloc (g_drewN (g_drewN (g_drewN (g_drewN (g_alloc (g_alloc g_refl _) _) 1) _) _) _) _) _⟩
end Go.Proofs.Ytkpphlimnnifkaa.PClaimFalls
