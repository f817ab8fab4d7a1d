/- slices.Compact at []api.Move: its two loops, walked; elements of three cells. -/
import Derived.Test.YtkpphlimnnifkaaMoveCmp
import Derived.Shelf.SlSortCmp.NoneTotal
import Derived.Lib.SlicesCompact
import Derived.Lib.SliceRun
import Derived.Deep.LoopGhost
import Derived.Lib.Walk
import Derived.Sort.WalkB12
namespace Go.Proofs.Ytkpphlimnnifkaa.PClaimFalls
open Go.RowKit Go.Sort Go.Lib Go.Proofs.YtkpphlimnnifkaaW.PrintWords Go.Proofs.YtkpphlimnnifkaaW.PrintLast Go.Proofs.YtkpphlimnnifkaaW.PrintMore
set_option linter.unusedVariables false
set_option linter.unusedSimpArgs false
theorem eqM (d : Nat) (w : World) (x0 y0 : Int) (x1 y1 : Int) (x2 y2 : Int) :
    (Op.equalIn (d + 2) 38 (.agg #[.int .i64 x0, .int .i64 x1, .int .i64 x2]) (.agg #[.int .i64 y0, .int .i64 y1, .int .i64 y2])).run Try.prog w = .ok (x0 == y0 && (x1 == y1 && (x2 == y2))) w := by
  refine eqA_of Try.underlying38 (by kernel_rfl) ?_
  refine eqf_cons (by rfl) (by go_simp; rfl) (by go_simp; rfl) (by go_simp) ?_
  refine eqf_cons (by rfl) (by go_simp; rfl) (by go_simp; rfl) (by go_simp) ?_
  exact eqf_last (by rfl) (by go_simp; rfl) (by go_simp; rfl) (by go_simp)
attribute [local go_sem high] eqM
instance instDecM : DecidableEq S38 := fun a b => if h : a.f0 = b.f0 ∧ a.f1 = b.f1 ∧ a.f2 = b.f2 then isTrue (by cases a; cases b; simp at h; simp [h]) else isFalse (by rintro rfl; exact h ⟨rfl, rfl, rfl⟩)
instance instInhM : Inhabited S38 := ⟨z38⟩
theorem encM_len (x : S38) : (encM x).length = 3 := rfl
theorem encM_one (x : S38) : ∀ v ∈ encM x, v.oneCell' = true := by
  intro v hv; simp [encM] at hv; rcases hv with rfl | rfl | rfl <;> rfl
/-- one element laid -/
theorem setMany_set (d : Array S38) (i : Nat) (hi : i < d.size) (x : S38) : setMany (flatK encM 3 d) (i * 3) (encM x) = flatK encM 3 (d.setIfInBounds i x) := by
  refine ext_get! (by simp) fun t ht => ?_
  have ht' : t < d.size * 3 := by simpa using ht
  rw [get_setMany _ _ _ t (by simpa using ht'), get_flatK _ _ _ t ht', get_flatK _ _ _ t (by simpa using ht'), encM_len]
  by_cases a : t / 3 = i
  · rw [if_pos ⟨by omega, by omega⟩, show t - i * 3 = t % 3 by omega, a]
    simp [hi]
  · rw [if_neg (by omega)]
    have : (d.setIfInBounds i x)[t / 3]! = d[t / 3]! := getElem!_set_other d i (t / 3) x a
    rw [this]
theorem cells3 {w : World} {g : Nat} {d : Array S38} (h : HoldsK encM 3 w g 0 d) (i : Nat) (hi : i < d.size) :
    (w.cell? ⟨g, i * 3, none⟩ = some (.int .i64 d[i]!.f0) ∧ w.cell? ⟨g, i * 3 + 1, none⟩ = some (.int .i64 d[i]!.f1) ∧ w.cell? ⟨g, i * 3 + 2, none⟩ = some (.int .i64 d[i]!.f2)) ∧
    (w.frozen? ⟨g, i * 3, none⟩ = false ∧ w.frozen? ⟨g, i * 3 + 1, none⟩ = false ∧ w.frozen? ⟨g, i * 3 + 2, none⟩ = false) := by
  have h0 := h.cell hi (show 0 < 3 by omega)
  have h1 := h.cell hi (show 1 < 3 by omega)
  have h2 := h.cell hi (show 2 < 3 by omega)
  simp only [Nat.zero_add, Nat.add_zero] at h0 h1 h2
  exact ⟨⟨h0.1, h1.1, h2.1⟩, h0.2, h1.2, h2.2⟩
theorem run_clear3 (w : World) (t ty : TypeId) (ht : Try.prog.underlying t = some (.slice 38)) (b o n c : Nat) (hn : 0 < n)
    (hc : ∀ j, j < n * 3 → (w.cell? ⟨b, o + j, none⟩).isSome = true) (hf : ∀ j, j < n * 3 → w.frozen? ⟨b, o + j, none⟩ = false) :
    (Builtin.clear_ #[t] ty #[.slice (some ⟨b, o, none⟩) n c]).run Try.prog w = .ok (.tuple #[]) (w.setCells b o (List.replicate (n * 3) (.int .i64 0))) := by
  have hzc : (Builtin.zeroCells (Value.agg #[.int .i64 0, .int .i64 0, .int .i64 0]).cells n).toList = List.replicate (n * 3) (.int .i64 0) := by
    simp only [Value.cells]
    apply List.ext_getElem
    · simp [Builtin.zeroCells]
    · intro i h1 h2
      have : i % 3 = 0 ∨ i % 3 = 1 ∨ i % 3 = 2 := by omega
      rcases this with h | h | h <;> simp [Builtin.zeroCells, h]
  have hst := run_storeCells_cells (P := Try.prog) b o (List.replicate (n * 3) (.int .i64 0)) 0 w (by simpa using hc) (by simpa using hf) (by intro v hv'; rw [List.eq_of_mem_replicate hv']; rfl)
  simp only [Nat.add_zero] at hst
  obtain ⟨m, rfl⟩ : ∃ m, n = m + 1 := ⟨n - 1, by omega⟩
  simp [Builtin.clear_, run_underlying ht, Try.zeroValue38, hzc, hst]
def sameM (x y : S38) : Bool := x.f0 == y.f0 && (x.f1 == y.f1 && (x.f2 == y.f2))
theorem sameM_iff (x y : S38) : sameM x y = true ↔ x = y := by
  unfold sameM
  constructor
  · intro h; cases x; cases y; simp at h; simp [h]
  · rintro rfl; simp
set_option maxHeartbeats 4000000 in
set_option maxRecDepth 1000000 in
theorem compact_walk (g cap : Nat) (d : Array S38) (w : World) (hH : HoldsK encM 3 w g 0 d) (hsz : d.size < 4611686018427387904) (hcap : d.size ≤ cap) (hm : cap ≤ 9223372036854775807) :
    Calls Try.prog 84 #[.slice (some ⟨g, 0, none⟩) d.size cap] w fun e w' => e = .returned (.slice (some ⟨g, 0, none⟩) (compactUpTo d d.size).length cap) ∧ ∃ q F, F.size = d.size * 3 ∧ (∀ j, j < (compactUpTo d d.size).length * 3 → F[j]! = (encM ((compactUpTo d d.size)[j / 3]!))[j % 3]!) ∧ w' = putRow id (Sort.ahead w q) g 0 F := by
  have hu := Try.underlying38
  have hul := Try.underlying27
  have same : ∀ q, (∀ j, j < d.size → keeps d j = true) → (compactUpTo d d.size).length = d.size ∧ ∃ F : Array Value, F.size = d.size * 3 ∧ (∀ j, j < d.size * 3 → F[j]! = (encM ((compactUpTo d d.size)[j / 3]!))[j % 3]!) ∧ w.drewN q = putRow id (Sort.ahead w q) g 0 F := by
    intro q hall
    have e : compactUpTo d d.size = d.toList := by rw [compactUpTo_all d _ hall, range_map_get]
    rw [e]
    refine ⟨by simp, flatK encM 3 d, by simp, fun j hj => ?_, (putRowK_self encM 3 (Sort.ahead w q) g 0 d (holdsK_ahead encM 3 w q g 0 d hH)).symm⟩
    rw [get_flatK _ _ _ _ hj]
    have : j / 3 < d.size := by omega
    simp [getElem!_pos, this]
  have HS := xm same; clear same
  by_cases h2 : d.size < 2
  · have HH := xm hH; clear hH
    go_enter Try.func84, Try.ntmps84
    go_wp2
    go_ret
    obtain ⟨e1, F, e2, e3, e4⟩ := HS.out 0 (fun j hj => keeps_lt_one d j (by omega))
    exact ⟨by rw [e1]; rfl, 0, F, e2, by rw [e1]; exact e3, e4⟩
  · go_enter Try.func84, Try.ntmps84
    go_wp2
    go_loopg [3] d.size (fun gk s3 wr => ∃ k q : Nat, 1 ≤ k ∧ k ≤ d.size ∧ d.size - k ≤ gk ∧ s3 = .int .i64 k ∧ wr = w.drewN q ∧ ∀ j, j < k → keeps d j = true)
    case atStart => exact ⟨1, 0, Nat.le_refl _, by omega, by omega, rfl, rfl, keeps_lt_one d⟩
    case round =>
      obtain ⟨k, q, hk1, hk, hg, rfl, rfl, hall⟩ := hrel
      by_cases hlt : k < d.size
      · obtain ⟨⟨c10, c11, c12⟩, -⟩ := cells3 hH k hlt
        obtain ⟨⟨c00, c01, c02⟩, -⟩ := cells3 hH (k - 1) (by omega)
        have A := xm hall; have HH := xm hH; clear hall hH
        generalize hx : d[k]! = x at c10 c11 c12
        generalize hy : d[k - 1]! = y at c00 c01 c02
        have B := xm (And.intro hx hy); clear hx hy
        by_cases hdup : sameM x y = true
        · have hd0 := hdup; unfold sameM at hd0
          go_wp2
          repeat (go_quiet (fail); try go_wp2)
          clear c10 c11 c12 c00 c01 c02 hd0
          have hxy := (sameM_iff x y).1 hdup
          clear hdup
          go_loopg [3, 5] d.size (fun gk s3 s5 wr => ∃ (kk k2 q2 : Nat) (dk : Array S38), s3 = .int .i64 kk ∧ s5 = .int .i64 k2 ∧ 1 ≤ k2 ∧ k + k2 ≤ d.size ∧ d.size - (k + k2) ≤ gk ∧ Aside0 (wr = putRowK encM 3 (Sort.ahead w q2) g 0 dk) ∧ Aside0 (CompInv d (k + k2) kk dk))
          case atStart => exact ⟨k, 1, q + nq, d, rfl, rfl, Nat.le_refl _, by omega, by omega, xm (putRowK_self encM 3 (Sort.ahead w (q + nq)) g 0 d (holdsK_ahead encM 3 w (q + nq) g 0 d HH.out)).symm, xm (CompInv.start A.out (keeps_neg (by omega) (by rw [B.out.1, B.out.2, hxy])))⟩
          case round =>
            obtain ⟨kk, k2, q2, dk, rfl, rfl, h1, hle, hg2, hwr, hI⟩ := hrel
            have hkk := hI.out.lt
            have hds := hI.out.size
            have hHk : HoldsK encM 3 wr g 0 dk := by rw [hwr.out]; exact holdsK_putRowK encM 3 _ g 0 d dk (holdsK_ahead encM 3 w q2 g 0 d HH.out) hds
            by_cases hlt2 : k + k2 < d.size
            · obtain ⟨⟨cm0, cm1, cm2⟩, -⟩ := cells3 hHk (k + k2) (by omega)
              obtain ⟨⟨cp0, cp1, cp2⟩, -⟩ := cells3 hHk (k + k2 - 1) (by omega)
              obtain ⟨⟨ck0, ck1, ck2⟩, fk0, fk1, fk2⟩ := cells3 hHk kk (by omega)
              rw [hI.out.high (k + k2) (by omega), show (k + k2) * 3 = k * 3 + k2 * 3 by omega] at cm0 cm1 cm2
              rw [hI.out.high (k + k2 - 1) (by omega), show (k + k2 - 1) * 3 = k * 3 + (k2 - 1) * 3 by omega] at cp0 cp1 cp2
              clear hHk
              generalize hu : d[k + k2]! = u at cm0 cm1 cm2
              generalize hv : d[k + k2 - 1]! = v at cp0 cp1 cp2
              generalize dk[kk]! = old at ck0 ck1 ck2
              have C := xm (And.intro hu hv); clear hu hv
              by_cases huv : sameM u v = true
              · have hd0 := huv; unfold sameM at hd0
                have hn0 : (u.f0 != v.f0 || (u.f1 != v.f1 || (u.f2 != v.f2))) = false := by have := (sameM_iff u v).1 huv; subst this; simp
                go_wp2
                repeat (go_quiet (fail); try go_wp2)
                go_roundg (d.size - (k + (k2 + 1)))
                case measure => omega
                case rel => exact ⟨kk, k2 + 1, q2 + nq, dk, rfl, by go_num, by omega, by omega, Nat.le_refl _, xm (by rw [hwr.out]; exact putRowK_drewN encM 3 w q2 nq g 0 dk), xm (hI.out.skip (keeps_neg (by omega) (by rw [C.out.1, C.out.2]; exact (sameM_iff u v).1 huv)))⟩
              · have hd0 : sameM u v = false := by simpa using huv
                unfold sameM at hd0
                go_wp2
                repeat (go_quiet (fail); try go_wp2)
                go_roundg (d.size - (k + (k2 + 1)))
                case measure => omega
                case rel =>
                  refine ⟨kk + 1, k2 + 1, q2 + nq, dk.setIfInBounds kk u, by go_num, by go_num, by omega, by omega, Nat.le_refl _, xm ?_, xm (by have h := hI.out.keep hlt2 (keeps_pos (by rw [C.out.1, C.out.2]; exact fun h => huv ((sameM_iff u v).2 h))); rwa [C.out.1] at h)⟩
                  rw [hwr.out, putRowK_drewN]
                  have h := setCells_putRow (Sort.ahead w (q2 + nq)) g 0 (encM u) (kk * 3) (flatK encM 3 dk) (by rw [encM_len, size_flatK]; omega)
                  rw [setMany_set dk kk (by omega) u, Nat.zero_add] at h
                  exact h
            · have hend : k + k2 = d.size := by omega
              have hcl : ∀ ty, (Builtin.clear_ #[27] ty #[.slice (some ⟨g, kk * 3, none⟩) (d.size - kk) (cap - kk)]).run Try.prog wr = .ok (.tuple #[]) (wr.setCells g (kk * 3) (List.replicate ((d.size - kk) * 3) (.int .i64 0))) := by
                intro ty
                refine run_clear3 wr 27 ty hul g (kk * 3) (d.size - kk) (cap - kk) (by omega) (fun j hj => ?_) (fun j hj => ?_)
                · have h := (hHk (kk * 3 + j) (by rw [size_flatK]; omega)).1
                  rw [Nat.zero_add] at h; rw [h]; rfl
                · have h := (hHk (kk * 3 + j) (by rw [size_flatK]; omega)).2
                  rw [Nat.zero_add] at h; exact h
              clear hHk
              have hcl2 := hcl
              go_wp2
              go_ret
              have hJ := hI.out
              rw [hend] at hJ
              refine ⟨by rw [hJ.len]; rfl, q2, setMany (flatK encM 3 dk) (kk * 3) (List.replicate ((d.size - kk) * 3) (.int .i64 0)), by simp [hds], fun j hj => ?_, ?_⟩
              · rw [hJ.len] at hj
                rw [get_setMany _ _ _ j (by rw [size_flatK]; omega), if_neg (by omega), get_flatK _ _ _ _ (by omega)]
                have h := hJ.low (j / 3) (by omega)
                have hlt3 : j / 3 < (compactUpTo d d.size).length := by rw [hJ.len]; omega
                rw [List.getElem?_eq_getElem hlt3] at h
                rw [getElem!_pos (compactUpTo d d.size) (j / 3) hlt3, Option.some.inj h]
              · have h := setCells_putRow (Sort.ahead w q2) g 0 (List.replicate ((d.size - kk) * 3) (.int .i64 0)) (kk * 3) (flatK encM 3 dk) (by simp; omega)
                rw [Nat.zero_add] at h
                rw [hwr.out]
                exact h
        · have hd0 : sameM x y = false := by simpa using hdup
          unfold sameM at hd0
          go_wp2
          repeat (go_quiet (fail); try go_wp2)
          go_roundg (d.size - (k + 1))
          case measure => omega
          case rel =>
            refine ⟨k + 1, _, by omega, by omega, Nat.le_refl _, by go_num, rfl, fun j hj => ?_⟩
            by_cases e : j = k
            · subst e
              exact keeps_pos (by rw [B.out.1, B.out.2]; exact fun h => hdup ((sameM_iff x y).2 h))
            · exact A.out j (by omega)
      · have hkn : k = d.size := by omega
        subst hkn
        have HH := xm hH; clear hH
        go_wp2
        go_ret
        obtain ⟨e1, F, e2, e3, e4⟩ := HS.out q hall
        exact ⟨by rw [e1]; rfl, q, F, e2, by rw [e1]; exact e3, e4⟩
end Go.Proofs.Ytkpphlimnnifkaa.PClaimFalls
