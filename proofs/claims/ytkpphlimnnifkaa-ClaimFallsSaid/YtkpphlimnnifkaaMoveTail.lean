/- slices.SortFunc and slices.Compact at a row of the call's own of moves: what they leave; and what it makes of a list: its members, each once, in their order. -/
import Derived.Test.YtkpphlimnnifkaaMoveCompact
import Derived.Test.YtkpphlimnnifkaaSortLay
import Derived.Lib.OwnBridge
import Derived.Lib.SlicesS
namespace Go.Proofs.Ytkpphlimnnifkaa.PClaimFalls
open Go.RowKit Go.Sort Go.Lib Go.Proofs.YtkpphlimnnifkaaW.PrintWords Go.Proofs.YtkpphlimnnifkaaW.PrintLast Go.Proofs.YtkpphlimnnifkaaW.PrintMore
set_option linter.unusedVariables false
set_option linter.unusedSimpArgs false
def ltM (x y : S38) : Prop := x.f0 < y.f0 ∨ x.f0 = y.f0 ∧ (x.f1 < y.f1 ∨ x.f1 = y.f1 ∧ x.f2 < y.f2)
theorem cmpM_lt (x y : S38) : cmpM x y < 0 ↔ ltM x y := by
  unfold cmpM cmpI ltM
  repeat' split
  all_goals omega
theorem ltOfM (x y : S38) : ltOf cmpM x y = true ↔ ltM x y := by
  unfold ltOf; rw [decide_eq_true_iff]; exact cmpM_lt x y
theorem ltOfM' (x y : S38) : ltOf cmpM x y = false ↔ ¬ ltM x y := by
  rw [← ltOfM]; simp
theorem swoM : SWO (ltOf cmpM) where
  irrefl x := by rw [ltOfM']; unfold ltM; omega
  trans x y z h1 h2 := by rw [ltOfM] at *; unfold ltM at *; omega
  ntrans x y z h1 h2 := by rw [ltOfM'] at *; unfold ltM at *; omega
theorem eqOfM (x y : S38) (h1 : ltOf cmpM x y = false) (h2 : ltOf cmpM y x = false) : x = y := by
  rw [ltOfM'] at *
  unfold ltM at *
  cases x; cases y
  simp only [S38.mk.injEq]
  simp only at h1 h2
  omega
def sortM (xs : List S38) : List S38 := xs.mergeSort fun x y => !(ltOf cmpM) y x
def onceM (xs : List S38) : List S38 := compact (sortM xs)
theorem sortM_len (xs : List S38) : (sortM xs).length = xs.length := List.length_mergeSort xs
/-! rows -/
theorem R_openM {W : World} {base : Nat} {ok : Nat → Prop} {v : Value} {xs : List S38} (h : Kd.R k38 38 W base ok v xs) (h0 : 0 < xs.length) :
    ∃ g cap cur, v = .slice (some ⟨g, 0, none⟩) xs.length cap ∧ base ≤ g ∧ g < W.heap.size ∧ xs.length ≤ cap ∧ cap ≤ maxLen ∧ W.heap[g]? = some (.cells cur 38 (0, 0)) ∧ cur.size = cap * 3 ∧ ok g ∧ HoldsK encM 3 W g 0 xs.toArray := by
  obtain ⟨hok, inner, ho, hr⟩ := h
  rcases ho.2 with ⟨_, e⟩ | ⟨g, cap, cur, rfl, hb, hg, hn, hm, hs, ht⟩
  · omega
  have hlt : g < W.heap.size := by
    rcases Nat.lt_or_ge g W.heap.size with h' | h'
    · exact h'
    · rw [Array.getElem?_eq_none h'] at hg; cases hg
  have hs3 : cur.size = cap * 3 := hs
  refine ⟨g, cap, cur, rfl, hb, hlt, hn, hm, hg, hs3, hok g (by simp [Value.ownBlock]), fun t ht' => ?_⟩
  have hlen : t < xs.length * 3 := by simpa using ht'
  have hj : t / 3 < xs.length := by omega
  have hrep := hr.2 (t / 3) _ (List.getElem?_eq_getElem hj)
  have hop := k38_openM hrep
  have hcell : inner[t]? = (encM xs[t / 3])[t % 3]? := by
    have e1 : ((inner.drop (t / 3 * 3)).take 3)[t % 3]? = (encM xs[t / 3])[t % 3]? := by
      rw [show ((inner.drop (t / 3 * 3)).take 3) = encM xs[t / 3] from hop]
    rw [List.getElem?_take, if_pos (by omega), List.getElem?_drop, show t / 3 * 3 + t % 3 = t by omega] at e1
    exact e1
  have ht3 : cur.toList.take (xs.length * 3) = inner := ht
  have hc : cur[t]? = (encM xs[t / 3])[t % 3]? := by
    rw [← hcell, ← ht3, List.getElem?_take, if_pos hlen, Array.getElem?_toList]
  have hm3 : t % 3 < (encM xs[t / 3]).length := by rw [encM_len]; omega
  refine ⟨?_, by simp [World.frozen?, hg]⟩
  unfold World.cell?
  simp only [hg, Nat.zero_add, Option.isSome_none, Bool.false_eq_true, if_false]
  rw [hc, List.getElem?_eq_getElem hm3, get_flatK _ _ _ _ (by simpa using hlen)]
  have e2 : (xs.toArray)[t / 3]! = xs[t / 3] := by simp [getElem!_pos, hj]
  rw [e2, getElem!_pos (encM xs[t / 3]) (t % 3) hm3]
  rfl
theorem R_closeM {W : World} {base g cap : Nat} {ok : Nat → Prop} {cur : Array Value} {ys : List S38} (hg : W.heap[g]? = some (.cells cur 38 (0, 0))) (hs : cur.size = cap * 3) (hb : base ≤ g) (hm : cap ≤ maxLen) (hn : ys.length ≤ cap)
    (hc : ∀ j, j < ys.length * 3 → cur[j]! = (encM (ys[j / 3]!))[j % 3]!) (hok : ok g) : Kd.R k38 38 W base ok (.slice (some ⟨g, 0, none⟩) ys.length cap) ys := by
  refine ⟨fun k hk => ?_, cur.toList.take (ys.length * 3), ⟨?_, .inr ⟨g, cap, cur, rfl, hb, hg, hn, hm, hs, rfl⟩⟩, ⟨?_, fun j p hp => ?_⟩⟩
  · have : g = k := by simpa [Value.ownBlock] using hk
    subst this; exact hok
  · show (cur.toList.take (ys.length * 3)).length = ys.length * 3
    simp; omega
  · show (cur.toList.take (ys.length * 3)).length = ys.length * 3
    simp; omega
  · have hj : j < ys.length := by
      rcases Nat.lt_or_ge j ys.length with h' | h'
      · exact h'
      · rw [List.getElem?_eq_none h'] at hp; cases hp
    have hpj : ys[j]! = p := by
      rw [List.getElem?_eq_getElem hj] at hp
      rw [getElem!_pos ys j hj]; exact Option.some.inj hp
    have e : ((cur.toList.take (ys.length * 3)).drop (j * 3)).take 3 = encM p := by
      apply List.ext_getElem?
      intro i
      rw [List.getElem?_take]
      by_cases hi : i < 3
      · rw [if_pos hi, List.getElem?_drop, List.getElem?_take, if_pos (by omega), Array.getElem?_toList]
        have h := hc (j * 3 + i) (by omega)
        rw [show (j * 3 + i) / 3 = j by omega, show (j * 3 + i) % 3 = i by omega, hpj] at h
        have hi2 : i < (encM p).length := by rw [encM_len]; exact hi
        rw [getElem!_pos cur (j * 3 + i) (by omega), getElem!_pos (encM p) i hi2] at h
        rw [Array.getElem?_eq_getElem (by omega), List.getElem?_eq_getElem hi2, h]
      · rw [if_neg hi, List.getElem?_eq_none (by rw [encM_len]; omega)]
    show k38.M W base _ p (((cur.toList.take (ys.length * 3)).drop (j * 3)).take 3)
    rw [e]
    exact k38_mkM _ _ _ _
theorem heap_putRow {W : World} {g q : Nat} {F cur : Array Value} (hg : W.heap[g]? = some (.cells cur 38 (0, 0))) (hF : F.size ≤ cur.size) :
    ∃ cur', (putRow id (Sort.ahead W q) g 0 F).heap[g]? = some (.cells cur' 38 (0, 0)) ∧ cur'.size = cur.size ∧ ∀ j, j < F.size → cur'[j]! = F[j]! := by
  refine ⟨putCells id 0 F cur, by simp [putRow, mapBlock, Sort.ahead, Array.getElem?_modify, hg, onCells], by simp [putCells], fun j hj => ?_⟩
  have hjc : j < cur.size := by omega
  rw [getElem!_pos (putCells id 0 F cur) j (by simpa [putCells] using hjc)]
  simp [putCells, hj]
theorem below_grow {B : Nat} {w W : World} (h : Below B w W) (hB : B ≤ W.heap.size) (os : Array Obj) : Below B w (grow W os) :=
  ⟨h.os, h.tape, h.output, by have := h.size; simp [grow]; omega, fun k hk => by rw [← h.block k hk]; show (W.heap ++ os)[k]? = _; rw [Array.getElem?_append_left (by omega)]⟩
theorem sort_any {w W : World} {base : Nat} {ok : Nat → Prop} {v : Value} {xs : List S38} (hR : Kd.R k38 38 W base ok v xs) (hB : Below base w W) (hbs : base ≤ W.heap.size) (hsz : xs.length < 4611686018427387904) :
    Calls Try.prog 82 #[v, .func (.func 83) #[] #[]] W fun e w' => e = .returned (.tuple #[]) ∧ Kd.R k38 38 w' base ok v (sortM xs) ∧ Below base w w' ∧ base ≤ w'.heap.size := by
  rcases Nat.eq_zero_or_pos xs.length with h0 | h0
  · have e : xs = [] := List.length_eq_zero_iff.1 h0
    subst e
    obtain ⟨A, c, e⟩ := Kd.R_slice hR
    subst e
    have h := AnyF.slices_SortFunc_none (P := Try.prog) (ρ := Try.laysSlF06_f82_ren) Try.laysSlF06_f82 A c (.func (.func 83) #[] #[]) W
    refine Calls.mono (show Calls Try.prog 82 _ _ _ from h) ?_
    rintro e w' ⟨rfl, rfl⟩
    exact ⟨rfl, by rw [show sortM [] = [] by simp [sortM]]; exact hR, hB, hbs⟩
  · obtain ⟨g, cap, cur, rfl, hb, hlt, hn, hm, hg, hs, hok, hH⟩ := R_openM hR h0
    have eg : ∀ args w, (callFunc 83 args).run Try.prog w = .ok (.enter 83 args) w := enters_of Try.func83 (by kernel_rfl) rfl
    have h := AnyQ.slices_SortFunc_total (P := Try.prog) (ρ := Try.laysSlF06_f82_ren) Try.laysSlF06_f82 3 Try.isAgg38 Try.sizeOf38 encM encM_len encM_one cmpM swoM 83 #[] g 0 cap xs.toArray W eg (fun _ _ _ _ x y => compare_grown x y _) hH hlt (by simpa using hsz) eqOfM
    refine Calls.mono (show Calls Try.prog 82 _ _ _ from h) ?_
    rintro e w' ⟨rfl, n, os, rfl⟩
    have hl : (sortM xs).length = xs.length := sortM_len xs
    obtain ⟨cur', hg', hs', hc'⟩ := heap_putRow (q := n) (F := flatK encM 3 (sortM xs).toArray) hg (by simp; omega)
    have hg2 : (sortWorldK encM 3 W g 0 n (sortM xs).toArray os).heap[g]? = some (.cells cur' 38 (0, 0)) := by
      unfold sortWorldK putRowK
      show ((putRow id (Sort.ahead W n) g 0 (flatK encM 3 (sortM xs).toArray)).heap ++ os)[g]? = _
      rw [Array.getElem?_append_left (by simpa [putRow, mapBlock, Sort.ahead] using hlt)]
      exact hg'
    refine ⟨rfl, ?_, below_grow (Go.Lib.below_putRow hB hb) (by simpa [putRowK, putRow, mapBlock, Sort.ahead] using hbs) os, ?_⟩
    · have h3 := R_closeM (ys := sortM xs) (base := base) (ok := ok) hg2 (by omega) hb hm (by omega) (fun j hj => by rw [hc' j (by simpa using hj), get_flatK _ _ _ _ (by simpa using hj)]; simp [getElem!_pos, show j / 3 < (sortM xs).length by omega]) hok
      rw [hl] at h3
      exact h3
    · unfold sortWorldK grow
      simp [putRowK, putRow, mapBlock, Sort.ahead]; omega
set_option maxHeartbeats 1000000 in
set_option maxRecDepth 1000000 in
theorem compact_short (A : Option Addr) (n c : Nat) (w : World) (h : n < 2) : Calls Try.prog 84 #[.slice A n c] w fun e w' => e = .returned (.slice A n c) ∧ w' = w := by
  go_enter Try.func84, Try.ntmps84
  go_wp2
  go_ret
  exact ⟨rfl, rfl⟩
theorem compact_any {w W : World} {base : Nat} {ok : Nat → Prop} {v : Value} {xs : List S38} (hR : Kd.R k38 38 W base ok v xs) (hB : Below base w W) (hsz : xs.length < 4611686018427387904) :
    Calls Try.prog 84 #[v] W fun e w' => ∃ v', e = .returned v' ∧ Kd.R k38 38 w' base ok v' (compact xs) ∧ Below base w w' := by
  rcases Nat.eq_zero_or_pos xs.length with h0 | h0
  · have e : xs = [] := List.length_eq_zero_iff.1 h0
    subst e
    obtain ⟨A, c, e⟩ := Kd.R_slice hR
    subst e
    refine (compact_short A 0 c W (by omega)).mono ?_
    rintro e w' ⟨rfl, rfl⟩
    exact ⟨_, rfl, hR, hB⟩
  · obtain ⟨g, cap, cur, rfl, hb, hlt, hn, hm, hg, hs, hok, hH⟩ := R_openM hR h0
    have h := compact_walk g cap xs.toArray W hH (by simpa using hsz) (by simpa using hn) (by unfold maxLen at hm; omega)
    refine Calls.mono (show Calls Try.prog 84 #[.slice (some ⟨g, 0, none⟩) xs.length cap] W _ from h) ?_
    rintro e w' ⟨rfl, q, F, hF, hc, rfl⟩
    have hle : (compact xs).length ≤ xs.length := Go.Lib.compact_length_le xs
    obtain ⟨cur', hg', hs', hc'⟩ := heap_putRow (q := q) (F := F) hg (by rw [hF]; simp; omega)
    refine ⟨_, rfl, R_closeM (ys := compact xs) (base := base) (ok := ok) hg' (by omega) hb hm (by omega) (fun j hj => ?_) hok, Go.Lib.below_putRow hB hb⟩
    have hj2 : j < (compactUpTo xs.toArray xs.toArray.size).length * 3 := by simpa [compact] using hj
    rw [hc' j (by rw [hF]; simp; omega), hc j hj2]
    rfl
end Go.Proofs.Ytkpphlimnnifkaa.PClaimFalls
