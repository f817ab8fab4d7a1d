-- Printed by a program of this claim's writer (wip/ext): an extension of the kit's print.
import Derived.Test.YtloadbbndnmdlaaPZobKeysx0
import Derived.Test.YtloadbbndnmdlaaPZobKeysx8
namespace Go.Proofs.Ytloadbbndnmdlaa.PZobKeys
open Go.RowKit Go.Proofs.YtloadbbndnmdlaaW.PrintWords Go.Proofs.YtloadbbndnmdlaaW.PrintLast Go.Proofs.YtloadbbndnmdlaaW.PrintMore
set_option maxHeartbeats 8000000
set_option maxRecDepth 100000
attribute [local go_sem] max2_int min2_int max_two min_two max_three min_three max_four min_four   -- for this text's walks alone
set_option linter.unusedVariables false
set_option linter.unusedSimpArgs false

/-! ### moves_along: function 55 -/
mutual
def moves_along.j0 : Nat → List (S39) → Int → Int → Int → ByteArray → Int → Int → List (S62) → List Int → Bool → Bool → List (S64) → Int → Int → Int → List Int → List Int → List Int → Int → Int → Int → Int → Int → Int → Option ((List (S39)))
  | 0, _, _, _, _, _, _, _, _, _, _, _, _, _, _, _, _, _, _, _, _, _, _, _, _ => none
  | k + 1, x0, x3, x11, x12, z220a, z220b, z220c, z220d, z220e, z220f, z220g, z220h, z220i, z220j, z220k, z221a, z221b, z221c, z221d, z221e, z222a, z222b, z222c, z222d => if z220b = 0 then (none) else (moves_along.l0 k x0 x3 x11 x12 (Int.tmod x3 z220b) (wrap64 (Int.tdiv x3 z220b)) z222c 0 z220a z220b z220c z220d z220e z220f z220g z220h z220i z220j z220k z221a z221b z221c z221d z221e z222a z222b z222c z222d)
def moves_along.l0 : Nat → List (S39) → Int → Int → Int → Int → Int → Int → Int → ByteArray → Int → Int → List (S62) → List Int → Bool → Bool → List (S64) → Int → Int → Int → List Int → List Int → List Int → Int → Int → Int → Int → Int → Int → Option ((List (S39)))
  | 0, _, _, _, _, _, _, _, _, _, _, _, _, _, _, _, _, _, _, _, _, _, _, _, _, _, _, _, _ => none
  | k + 1, x0, x3, x11, x12, x13, x14, x39, x40, z220a, z220b, z220c, z220d, z220e, z220f, z220g, z220h, z220i, z220j, z220k, z221a, z221b, z221c, z221d, z221e, z222a, z222b, z222c, z222d => if x40 < x39 then (if (wrap64 (x13 + z222a)) < 0 then (moves_along.j2 k x0 x3 x11 x12 (wrap64 (x13 + z222a)) (wrap64 (x14 + x12)) x39 x40 true z220a z220b z220c z220d z220e z220f z220g z220h z220i z220j z220k z221a z221b z221c z221d z221e z222a z222b z222c z222d) else (if (wrap64 (x13 + z222a)) ≥ z220b then (moves_along.j2 k x0 x3 x11 x12 (wrap64 (x13 + z222a)) (wrap64 (x14 + x12)) x39 x40 true z220a z220b z220c z220d z220e z220f z220g z220h z220i z220j z220k z221a z221b z221c z221d z221e z222a z222b z222c z222d) else (if (wrap64 (x14 + x12)) < 0 then (moves_along.j2 k x0 x3 x11 x12 (wrap64 (x13 + z222a)) (wrap64 (x14 + x12)) x39 x40 true z220a z220b z220c z220d z220e z220f z220g z220h z220i z220j z220k z221a z221b z221c z221d z221e z222a z222b z222c z222d) else (moves_along.j2 k x0 x3 x11 x12 (wrap64 (x13 + z222a)) (wrap64 (x14 + x12)) x39 x40 (decide ((wrap64 (x14 + x12)) ≥ z220c)) z220a z220b z220c z220d z220e z220f z220g z220h z220i z220j z220k z221a z221b z221c z221d z221e z222a z222b z222c z222d)))) else (some x0)
def moves_along.j2 : Nat → List (S39) → Int → Int → Int → Int → Int → Int → Int → Bool → ByteArray → Int → Int → List (S62) → List Int → Bool → Bool → List (S64) → Int → Int → Int → List Int → List Int → List Int → Int → Int → Int → Int → Int → Int → Option ((List (S39)))
  | 0, _, _, _, _, _, _, _, _, _, _, _, _, _, _, _, _, _, _, _, _, _, _, _, _, _, _, _, _, _ => none
  | k + 1, x0, x3, x11, x12, x13, x14, x39, x40, x66, z220a, z220b, z220c, z220d, z220e, z220f, z220g, z220h, z220i, z220j, z220k, z221a, z221b, z221c, z221d, z221e, z222a, z222b, z222c, z222d => if x66 = true then (some x0) else (if 0 ≤ (wrap64 ((wrap64 (x14 * z220b)) + x13)) then (if (wrap64 ((wrap64 (x14 * z220b)) + x13)) < (z221a.length : Int) then ((moves_Owner.f (rd z221a (wrap64 ((wrap64 (x14 * z220b)) + x13)))).bind fun t225 => (if t225 < 0 then (if z222d = 2 then (if t225 = (wrap64 (1 - z221d)) then (moves_along.j3 k x0 x3 x11 x12 x13 x14 (wrap64 ((wrap64 (x14 * z220b)) + x13)) t225 x39 x40 (z222d != 0) z220a z220b z220c z220d z220e z220f z220g z220h z220i z220j z220k z221a z221b z221c z221d z221e z222a z222b z222c z222d) else (moves_along.j3 k x0 x3 x11 x12 x13 x14 (wrap64 ((wrap64 (x14 * z220b)) + x13)) t225 x39 x40 false z220a z220b z220c z220d z220e z220f z220g z220h z220i z220j z220k z221a z221b z221c z221d z221e z222a z222b z222c z222d)) else (moves_along.j3 k x0 x3 x11 x12 x13 x14 (wrap64 ((wrap64 (x14 * z220b)) + x13)) t225 x39 x40 true z220a z220b z220c z220d z220e z220f z220g z220h z220i z220j z220k z221a z221b z221c z221d z221e z222a z222b z222c z222d)) else (if t225 = (wrap64 (1 - z221d)) then (moves_along.j3 k x0 x3 x11 x12 x13 x14 (wrap64 ((wrap64 (x14 * z220b)) + x13)) t225 x39 x40 (z222d != 0) z220a z220b z220c z220d z220e z220f z220g z220h z220i z220j z220k z221a z221b z221c z221d z221e z222a z222b z222c z222d) else (moves_along.j3 k x0 x3 x11 x12 x13 x14 (wrap64 ((wrap64 (x14 * z220b)) + x13)) t225 x39 x40 false z220a z220b z220c z220d z220e z220f z220g z220h z220i z220j z220k z221a z221b z221c z221d z221e z222a z222b z222c z222d)))) else (none)) else (none))
def moves_along.j3 : Nat → List (S39) → Int → Int → Int → Int → Int → Int → Int → Int → Int → Bool → ByteArray → Int → Int → List (S62) → List Int → Bool → Bool → List (S64) → Int → Int → Int → List Int → List Int → List Int → Int → Int → Int → Int → Int → Int → Option ((List (S39)))
  | 0, _, _, _, _, _, _, _, _, _, _, _, _, _, _, _, _, _, _, _, _, _, _, _, _, _, _, _, _, _, _, _ => none
  | k + 1, x0, x3, x11, x12, x13, x14, x15, x16, x39, x40, x98, z220a, z220b, z220c, z220d, z220e, z220f, z220g, z220h, z220i, z220j, z220k, z221a, z221b, z221c, z221d, z221e, z222a, z222b, z222c, z222d => if x98 = true then ((moves_arrives.f z220a z220b z220c z220d z220e z220f z220g z220h z220i z220j z220k z221d x11 x15).bind fun t226 => (if x0.length < 5864062014805 then ((some (x0 ++ [(⟨x3, x15, t226⟩ : S39)] : List (S39))).bind fun y227 => (if x16 ≥ 0 then (some y227) else (moves_along.l0 k y227 x3 x11 x12 x13 x14 x39 (wrap64 (x40 + 1)) z220a z220b z220c z220d z220e z220f z220g z220h z220i z220j z220k z221a z221b z221c z221d z221e z222a z222b z222c z222d))) else (none))) else (if x16 ≥ 0 then (some x0) else (moves_along.l0 k x0 x3 x11 x12 x13 x14 x39 (wrap64 (x40 + 1)) z220a z220b z220c z220d z220e z220f z220g z220h z220i z220j z220k z221a z221b z221c z221d z221e z222a z222b z222c z222d))
end
def moves_along.f (k : Nat) (l0 : List (S39)) (a1_0 : ByteArray) (a1_1 : Int) (a1_2 : Int) (l1_3 : List (S62)) (l1_4 : List Int) (a1_5 : Bool) (a1_6 : Bool) (l1_7 : List (S64)) (a1_8 : Int) (a1_9 : Int) (a1_10 : Int) (l2_0 : List Int) (l2_1 : List Int) (l2_2 : List Int) (a2_3 : Int) (a2_4 : Int) (a3 : Int) (a4_0 : Int) (a4_1 : Int) (a4_2 : Int) (a4_3 : Int) : Option ((List (S39))) := if 0 ≤ a3 then (if a3 < (l2_0.length : Int) then ((moves_Kind.f (rd l2_0 a3)).bind fun t223 => (if a2_3 = 1 then (moves_along.j0 k l0 a3 t223 (wrap64 (-a4_1)) a1_0 a1_1 a1_2 l1_3 l1_4 a1_5 a1_6 l1_7 a1_8 a1_9 a1_10 l2_0 l2_1 l2_2 a2_3 a2_4 a4_0 a4_1 a4_2 a4_3) else (moves_along.j0 k l0 a3 t223 a4_1 a1_0 a1_1 a1_2 l1_3 l1_4 a1_5 a1_6 l1_7 a1_8 a1_9 a1_10 l2_0 l2_1 l2_2 a2_3 a2_4 a4_0 a4_1 a4_2 a4_3))) else (none)) else (none)
theorem moves_along.mono_l : ∀ k, L10 (L10 (LM (LM (LM (LM (LeO)))))) (moves_along.j0 k) (moves_along.j0 (k + 1)) ∧ L10 (L10 (L5 (LM (LM (LM (LeO)))))) (moves_along.l0 k) (moves_along.l0 (k + 1)) ∧ L10 (L10 (L5 (LM (LM (LM (LM (LeO))))))) (moves_along.j2 k) (moves_along.j2 (k + 1)) ∧ L10 (L10 (L10 (LM (LeO)))) (moves_along.j3 k) (moves_along.j3 (k + 1))
  | 0 => by refine ⟨?_, ?_, ?_, ?_⟩ <;> (repeat (first | exact LeO.none _ | intro _))
  | k + 1 => by
    obtain ⟨ih0, ih1, ih2, ih3⟩ := moves_along.mono_l k
    refine ⟨?_, ?_, ?_, ?_⟩ <;> ((repeat (first | (with_reducible refine LeO.st ?_) | intro _)); constructor; (first | unfold moves_along.j0 | unfold moves_along.l0 | unfold moves_along.j2 | unfold moves_along.j3); repeat' first | (with_reducible first | apply ih0 | apply ih1 | apply ih2 | apply ih3 | exact LeO.refl _ | exact LeO.none _ | refine LeO.ite ?_ ?_ | refine LeO.bind ?_ (fun _ => ?_)) | apply ih0 | apply ih1 | apply ih2 | apply ih3 | exact LeO.none _ | refine LeO.ite ?_ ?_ | refine LeO.bind ?_ (fun _ => ?_))
theorem moves_along.mono : ∀ a0 a1 a2 a3 a4 a5 a6 a7 a8 a9 a10 a11 a12 a13 a14 a15 a16 a17 a18 a19 a20 a21 k, LeO (moves_along.f k a0 a1 a2 a3 a4 a5 a6 a7 a8 a9 a10 a11 a12 a13 a14 a15 a16 a17 a18 a19 a20 a21) (moves_along.f (k + 1) a0 a1 a2 a3 a4 a5 a6 a7 a8 a9 a10 a11 a12 a13 a14 a15 a16 a17 a18 a19 a20 a21) := by
  intros; rename_i k
  obtain ⟨ih0, ih1, ih2, ih3⟩ := moves_along.mono_l k
  unfold moves_along.f
  repeat' first | (with_reducible first | apply ih0 | apply ih1 | apply ih2 | apply ih3 | exact LeO.refl _ | exact LeO.none _ | refine LeO.ite ?_ ?_ | refine LeO.bind ?_ (fun _ => ?_)) | apply ih0 | apply ih1 | apply ih2 | apply ih3 | exact LeO.none _ | refine LeO.ite ?_ ?_ | refine LeO.bind ?_ (fun _ => ?_)
theorem moves_along.calls (k : Nat) (P0_ : Nat → Prop) (u9000_ : Value) (l0 : List (S39)) (a1_0 : ByteArray) (a1_1 : Int) (a1_2 : Int) (A1_3 : Option Addr) (c1_3 : Nat) (l1_3 : List (S62)) (A1_4 : Option Addr) (c1_4 : Nat) (l1_4 : List Int) (a1_5 : Bool) (a1_6 : Bool) (A1_7 : Option Addr) (c1_7 : Nat) (l1_7 : List (S64)) (a1_8 : Int) (a1_9 : Int) (a1_10 : Int) (A2_0 : Option Addr) (c2_0 : Nat) (l2_0 : List Int) (A2_1 : Option Addr) (c2_1 : Nat) (l2_1 : List Int) (A2_2 : Option Addr) (c2_2 : Nat) (l2_2 : List Int) (a2_3 : Int) (a2_4 : Int) (a3 : Int) (a4_0 : Int) (a4_1 : Int) (a4_2 : Int) (a4_3 : Int) (r : List (S39)) (w0 w : World) (hB : Below w0.heap.size w0 w) (ho0 : Kd.R k39 39 w w0.heap.size P0_ u9000_ l0) (hr1_3 : ∀ W_, Kept w W_ (fun k_ => P0_ k_) → Kd.C k62 W_ A1_3 l1_3.length l1_3) (hc1_3 : l1_3.length ≤ c1_3) (hr1_4 : ∀ W_, Kept w W_ (fun k_ => P0_ k_) → Kd.C (Kd.int .i64) W_ A1_4 l1_4.length l1_4) (hc1_4 : l1_4.length ≤ c1_4) (hr1_7 : ∀ W_, Kept w W_ (fun k_ => P0_ k_) → Kd.C k64 W_ A1_7 l1_7.length l1_7) (hc1_7 : l1_7.length ≤ c1_7) (hr2_0 : ∀ W_, Kept w W_ (fun k_ => P0_ k_) → Kd.C (Kd.int .i64) W_ A2_0 l2_0.length l2_0) (hc2_0 : l2_0.length ≤ c2_0) (hr2_1 : ∀ W_, Kept w W_ (fun k_ => P0_ k_) → Kd.C (Kd.int .i64) W_ A2_1 l2_1.length l2_1) (hc2_1 : l2_1.length ≤ c2_1) (hr2_2 : ∀ W_, Kept w W_ (fun k_ => P0_ k_) → Kd.C (Kd.int .i64) W_ A2_2 l2_2.length l2_2) (hc2_2 : l2_2.length ≤ c2_2) (h : moves_along.f k l0 a1_0 a1_1 a1_2 l1_3 l1_4 a1_5 a1_6 l1_7 a1_8 a1_9 a1_10 l2_0 l2_1 l2_2 a2_3 a2_4 a3 a4_0 a4_1 a4_2 a4_3 = some r) :
    Calls Try.prog 55 #[u9000_, .agg #[.string a1_0, .int .i64 a1_1, .int .i64 a1_2, .slice A1_3 l1_3.length c1_3, .slice A1_4 l1_4.length c1_4, .bool a1_5, .bool a1_6, .slice A1_7 l1_7.length c1_7, .int .i64 a1_8, .int .i64 a1_9, .int .i64 a1_10], .agg #[.slice A2_0 l2_0.length c2_0, .slice A2_1 l2_1.length c2_1, .slice A2_2 l2_2.length c2_2, .int .i64 a2_3, .int .i64 a2_4], .int .i64 a3, .agg #[.int .i64 a4_0, .int .i64 a4_1, .int .i64 a4_2, .int .i64 a4_3]] w fun e w' => ∃ v0_ : Value, e = .returned (v0_) ∧ Kd.R k39 39 w' w0.heap.size (fun k_ => (P0_ k_ ∨ w.heap.size ≤ k_)) v0_ r ∧ Below w0.heap.size w0 w' ∧ Kept w w' (fun k_ => P0_ k_) := by
 have hu26 := Try.underlying26; have hu29 := Try.underlying29; have hu74 := Try.underlying74; have hu39 := Try.underlying39
 have HO0 := xm (show Kd.R k39 39 w w0.heap.size (fun k_ => (P0_ k_ ∨ w.heap.size ≤ k_)) u9000_ l0 from Kd.R_mono ho0 (fun k_ hk => (.inl hk)))
 have HR1_3 := xm hr1_3; have HC1_3 := xm hc1_3; clear hr1_3 hc1_3; have HR1_4 := xm hr1_4; have HC1_4 := xm hc1_4; clear hr1_4 hc1_4; have HR1_7 := xm hr1_7; have HC1_7 := xm hc1_7; clear hr1_7 hc1_7; have HR2_0 := xm hr2_0; have HC2_0 := xm hc2_0; clear hr2_0 hc2_0; have HR2_1 := xm hr2_1; have HC2_1 := xm hc2_1; clear hr2_1 hc2_1; have HR2_2 := xm hr2_2; have HC2_2 := xm hc2_2; clear hr2_2 hc2_2
 have HK := xm (Kept.refl w (fun k_ => P0_ k_))
 have HW0 := xm hB.size; have HB := xm hB; clear hB
 have H : (if 0 ≤ a3 then (if a3 < (l2_0.length : Int) then ((moves_Kind.f (rd l2_0 a3)).bind fun t223 => (if a2_3 = 1 then (moves_along.j0 k l0 a3 t223 (wrap64 (-a4_1)) a1_0 a1_1 a1_2 l1_3 l1_4 a1_5 a1_6 l1_7 a1_8 a1_9 a1_10 l2_0 l2_1 l2_2 a2_3 a2_4 a4_0 a4_1 a4_2 a4_3) else (moves_along.j0 k l0 a3 t223 a4_1 a1_0 a1_1 a1_2 l1_3 l1_4 a1_5 a1_6 l1_7 a1_8 a1_9 a1_10 l2_0 l2_1 l2_2 a2_3 a2_4 a4_0 a4_1 a4_2 a4_3))) else (none)) else (none)) = some r := h
 clear h
 obtain ⟨c6b0, H⟩ := xJ H
 obtain ⟨c7b0, H⟩ := xJ H
 obtain ⟨t223, A8, H⟩ := xH H
 (try dsimp only at H); have HC9 := xm H; clear H
 go_enter Try.func55, Try.ntmps55
 go_upto_if 27 with (first | ((with_reducible refine gate_dst (N := 6) rfl ?_); refine xG (cs := #[.string a1_0, .int .i64 a1_1, .int .i64 a1_2, .slice A1_3 l1_3.length c1_3, .slice A1_4 l1_4.length c1_4, .bool a1_5, .bool a1_6, .slice A1_7 l1_7.length c1_7, .int .i64 a1_8, .int .i64 a1_9, .int .i64 a1_10]) (t := 26) ?_; intro gb219 hg w10 hbox hb; have BK219 := xm (hbox); have GW219 := xm ((by rw [hg]; exact (by first | exact HK.out.1 | exact (show Kept w _ (fun k_ => P0_ k_) from by repeat (first | (with_reducible first | exact HK.out | apply Kept.alloc | apply Kept.drewN | apply Kept.drew) | exact HK.out)).1) : w.heap.size ≤ gb219)); have GE219 := xm ((by rw [hg]; exact (below_size (xW HB)) : w0.heap.size ≤ gb219)); replace HO0 := xm (Kd.R_below (yR HO0) hb); replace HK := xm (Kept.below (S := (fun k_ => P0_ k_)) (by repeat (first | (with_reducible first | exact HK.out | apply Kept.alloc | apply Kept.drewN | apply Kept.drew) | exact HK.out)) hb); replace HB := xm (xS HB hb); clear hb hbox hg) | ((with_reducible refine gate_dst (N := 7) rfl ?_); refine xG (cs := #[.slice A2_0 l2_0.length c2_0, .slice A2_1 l2_1.length c2_1, .slice A2_2 l2_2.length c2_2, .int .i64 a2_3, .int .i64 a2_4]) (t := 29) ?_; intro gb220 hg w11 hbox hb; have BK220 := xm (hbox); have GW220 := xm ((by rw [hg]; exact (by first | exact HK.out.1 | exact (show Kept w _ (fun k_ => P0_ k_) from by repeat (first | (with_reducible first | exact HK.out | apply Kept.alloc | apply Kept.drewN | apply Kept.drew | refine Kept.setCell ?_ (.inr GW219.out) _) | exact HK.out)).1) : w.heap.size ≤ gb220)); have GE220 := xm ((by rw [hg]; exact (below_size (xW HB)) : w0.heap.size ≤ gb220)); have NB219_220 := xm (xN BK219 hg); have NB220_219 := xm (xM BK219 hg); replace HO0 := xm (Kd.R_below (yR HO0) hb); replace BK219 := xm (xB BK219 hb); replace HK := xm (Kept.below (S := (fun k_ => P0_ k_)) (by repeat (first | (with_reducible first | exact HK.out | apply Kept.alloc | apply Kept.drewN | apply Kept.drew | refine Kept.setCell ?_ (.inr GW219.out) _) | exact HK.out)) hb); replace HB := xm (xS HB hb); clear hb hbox hg) | ((with_reducible refine gate_dst (N := 9) rfl ?_); refine xG (cs := #[.int .i64 a4_0, .int .i64 a4_1, .int .i64 a4_2, .int .i64 a4_3]) (t := 74) ?_; intro gb221 hg w12 hbox hb; have BK221 := xm (hbox); have GW221 := xm ((by rw [hg]; exact (by first | exact HK.out.1 | exact (show Kept w _ (fun k_ => P0_ k_) from by repeat (first | (with_reducible first | exact HK.out | apply Kept.alloc | apply Kept.drewN | apply Kept.drew | refine Kept.setCell ?_ (.inr GW219.out) _ | refine Kept.setCell ?_ (.inr GW220.out) _) | exact HK.out)).1) : w.heap.size ≤ gb221)); have GE221 := xm ((by rw [hg]; exact (below_size (xW HB)) : w0.heap.size ≤ gb221)); have NB219_221 := xm (xN BK219 hg); have NB221_219 := xm (xM BK219 hg); have NB220_221 := xm (xN BK220 hg); have NB221_220 := xm (xM BK220 hg); replace HO0 := xm (Kd.R_below (yR HO0) hb); replace BK219 := xm (xB BK219 hb); replace BK220 := xm (xB BK220 hb); replace HK := xm (Kept.below (S := (fun k_ => P0_ k_)) (by repeat (first | (with_reducible first | exact HK.out | apply Kept.alloc | apply Kept.drewN | apply Kept.drew | refine Kept.setCell ?_ (.inr GW219.out) _ | refine Kept.setCell ?_ (.inr GW220.out) _) | exact HK.out)) hb); replace HB := xm (xS HB hb); clear hb hbox hg; have hnb13 := NB220_219.out; have hnc13 := NB219_220.out; have hnb14 := NB220_221.out; have hnc14 := NB221_220.out; have hcz15_0 := blkc5 BK220.out; have p222 : 0 ≤ (a3 : Int) := xO; have q222 : a3 < (l2_0.length : Int) := xO; obtain ⟨ad222, e222, hx222_0⟩ := Kd.at_int (Kd.C_kept_now HR2_0.out HK.out) a3 p222 q222; cases e222; replace p222 := eq_true p222; replace q222 := eq_true q222) | (go_at_call 54; (with_reducible refine (moves_Kind.calls (rd l2_0 a3) t223 _ A8.out).mono ?_); rintro e w' ⟨rfl, ⟨nd, rfl⟩⟩; (try exact xE); have hnb16 := NB221_219.out; have hnc16 := NB219_221.out; have hcz17_0 := blkc4 BK221.out))
 (try have hq219_220 := NB219_220.out); (try have hq220_219 := NB220_219.out); (try have hq219_221 := NB219_221.out); (try have hq221_219 := NB221_219.out); (try have hq221_220 := NB221_220.out); (try have hq220_221 := NB220_221.out)
 (try simp only [Act.put, List.setIfInBounds_toArray, List.set_cons_zero, List.set_cons_succ])
 go_cut [12] (fun vs12 wc => ∃ (kq : Nat) (x12_8 : Int), vs12 = .int .i64 x12_8 ∧ Aside0 (moves_along.j0 kq l0 a3 t223 x12_8 a1_0 a1_1 a1_2 l1_3 l1_4 a1_5 a1_6 l1_7 a1_8 a1_9 a1_10 l2_0 l2_1 l2_2 a2_3 a2_4 a4_0 a4_1 a4_2 a4_3 = some r) ∧ Aside0 (kq ≤ k) ∧ Aside0 (Kd.R k39 39 wc w0.heap.size (fun k_ => (P0_ k_ ∨ w.heap.size ≤ k_)) u9000_ l0) ∧ Aside0 (wc.heap[gb219]? = some (.cells #[.string a1_0, .int .i64 a1_1, .int .i64 a1_2, (.slice A1_3 l1_3.length c1_3), (.slice A1_4 l1_4.length c1_4), .bool a1_5, .bool a1_6, (.slice A1_7 l1_7.length c1_7), .int .i64 a1_8, .int .i64 a1_9, .int .i64 a1_10] 26 (0, 0))) ∧ Aside0 (wc.heap[gb220]? = some (.cells #[(.slice (some ad222) l2_0.length c2_0), (.slice A2_1 l2_1.length c2_1), (.slice A2_2 l2_2.length c2_2), .int .i64 a2_3, .int .i64 a2_4] 29 (0, 0))) ∧ Aside0 (wc.heap[gb221]? = some (.cells #[.int .i64 a4_0, .int .i64 a4_1, .int .i64 a4_2, .int .i64 a4_3] 74 (0, 0))) ∧ Aside0 (Kept w wc (fun k_ => P0_ k_)) ∧ Aside0 (Below w0.heap.size w0 wc))
 case first =>
  have H := HC9.out; clear HC9
  by_cases c18 : a2_3 = 1
  ·rw [if_pos c18] at H
   have c18b0 := beq_iff_eq.mpr c18
   have c18b1 := bne_eq_false_iff_eq.mpr c18
   clear c18
   (first | rw [c18b0] | (simp only [i64_w, i32_w]; rw [c18b0]) | skip)
   have H' := xm H
   clear H
   go_wp2
   go_meet
   case rel => exact ⟨_, (wrap64 (-a4_1)), (xrf), H', ⟨by first | omega | exact Nat.le_refl _⟩, ⟨by (with_reducible repeat (first | apply Kd.R_alloc | apply Kd.R_drewN | apply Kd.R_drew)); exact HO0.out⟩, ⟨xK BK219⟩, ⟨xK BK220⟩, ⟨xK BK221⟩, ⟨by repeat (first | (with_reducible first | exact HK.out | apply Kept.alloc | apply Kept.drewN | apply Kept.drew | refine Kept.setCell ?_ (.inr GW219.out) _ | refine Kept.setCell ?_ (.inr GW220.out) _ | refine Kept.setCell ?_ (.inr GW221.out) _) | exact HK.out)⟩, ⟨xW HB⟩⟩
  ·rw [if_neg c18] at H
   have c18b0 := beq_eq_false_iff_ne.mpr c18
   have c18b1 := bne_iff_ne.mpr c18
   (first | rw [c18b0] | (simp only [i64_w, i32_w]; rw [c18b0]) | skip)
   have H' := xm H
   clear H
   go_wp2
   go_meet
   case rel => exact ⟨_, (a4_1), (xrf), H', ⟨by first | omega | exact Nat.le_refl _⟩, ⟨by (with_reducible repeat (first | apply Kd.R_alloc | apply Kd.R_drewN | apply Kd.R_drew)); exact HO0.out⟩, ⟨xK BK219⟩, ⟨xK BK220⟩, ⟨xK BK221⟩, ⟨by repeat (first | (with_reducible first | exact HK.out | apply Kept.alloc | apply Kept.drewN | apply Kept.drew | refine Kept.setCell ?_ (.inr GW219.out) _ | refine Kept.setCell ?_ (.inr GW220.out) _ | refine Kept.setCell ?_ (.inr GW221.out) _) | exact HK.out)⟩, ⟨xW HB⟩⟩
 case rest =>
  clear HC9; (try clear p2); (try clear q2); (try clear hx2); (try clear p6); (try clear hx222_0); (try clear p222); (try clear q222)
  obtain ⟨kq, x12_8, rfl, HA, HJ8, HO_0, BK219, BK220, BK221, HK, HB⟩ := hcut
  cases kq with
  | zero => exact absurd HA.out (by simp [moves_along.j0])
  | succ kj8 =>
   have H := HA.out; clear HA
   simp only [moves_along.j0] at H
   by_cases c19 : a1_1 = 0
   ·rw [if_pos c19] at H
    exact absurd H (by simp)
   ·rw [if_neg c19] at H
    have c19b0 := beq_eq_false_iff_ne.mpr c19
    have c19b1 := bne_iff_ne.mpr c19
    have H' := xm H
    clear H; have hcz22_0 := blkc11 BK219.out; have hcz24_0 := blkc4 BK221.out
    go_wp2
    repeat (go_quiet (fail); try go_wp2)
    go_loopg [0, 13, 14, 40] kj8 (fun kq vs0 vs13 vs14 vs40 w' => ∃ (x0_2 : List (S39)) (x13_2 : Int) (x14_2 : Int) (x40_2 : Int), vs13 = .int .i64 x13_2 ∧ vs14 = .int .i64 x14_2 ∧ vs40 = .int .i64 x40_2 ∧ Aside0 (moves_along.l0 kq x0_2 a3 t223 x12_8 x13_2 x14_2 a4_2 x40_2 a1_0 a1_1 a1_2 l1_3 l1_4 a1_5 a1_6 l1_7 a1_8 a1_9 a1_10 l2_0 l2_1 l2_2 a2_3 a2_4 a4_0 a4_1 a4_2 a4_3 = some r) ∧ Aside0 (kq ≤ kj8) ∧ Aside0 (Kd.R k39 39 w' w0.heap.size (fun k_ => (P0_ k_ ∨ w.heap.size ≤ k_)) vs0 x0_2) ∧ Aside0 (w'.heap[gb219]? = some (.cells #[.string a1_0, .int .i64 a1_1, .int .i64 a1_2, (.slice A1_3 l1_3.length c1_3), (.slice A1_4 l1_4.length c1_4), .bool a1_5, .bool a1_6, (.slice A1_7 l1_7.length c1_7), .int .i64 a1_8, .int .i64 a1_9, .int .i64 a1_10] 26 (0, 0))) ∧ Aside0 (w'.heap[gb220]? = some (.cells #[(.slice (some ad222) l2_0.length c2_0), (.slice A2_1 l2_1.length c2_1), (.slice A2_2 l2_2.length c2_2), .int .i64 a2_3, .int .i64 a2_4] 29 (0, 0))) ∧ Aside0 (w'.heap[gb221]? = some (.cells #[.int .i64 a4_0, .int .i64 a4_1, .int .i64 a4_2, .int .i64 a4_3] 74 (0, 0))) ∧ Aside0 (Kept w w' (fun k_ => P0_ k_)) ∧ Aside0 (Below w0.heap.size w0 w'))
    case atStart => exact ⟨(l0), (Int.tmod a3 a1_1), (wrap64 (Int.tdiv a3 a1_1)), (0), (xrf), (xrf), (xrf), H', ⟨Nat.le_refl _⟩, ⟨by (with_reducible repeat (first | apply Kd.R_alloc | apply Kd.R_drewN | apply Kd.R_drew)); exact HO_0.out⟩, ⟨xK BK219⟩, ⟨xK BK220⟩, ⟨xK BK221⟩, ⟨by repeat (first | (with_reducible first | exact HK.out | apply Kept.alloc | apply Kept.drewN | apply Kept.drew | refine Kept.setCell ?_ (.inr GW219.out) _ | refine Kept.setCell ?_ (.inr GW220.out) _ | refine Kept.setCell ?_ (.inr GW221.out) _) | exact HK.out)⟩, ⟨xW HB⟩⟩
    case round =>
     clear H'; (try clear p2); (try clear q2); (try clear hx2); (try clear p6); (try clear p22); (try clear q22); (try clear hx22); (try clear hx222_0); (try clear p222); (try clear q222)
     obtain ⟨x0_2, x13_2, x14_2, x40_2, rfl, rfl, rfl, HA, HK2, HO_0, BK219, BK220, BK221, HK, HB⟩ := hrel
     cases gk with
     | zero => exact absurd HA.out (by simp [moves_along.l0])
     | succ k2 =>
      have H := HA.out; clear HA
      simp only [moves_along.l0] at H
      by_cases c25 : x40_2 < a4_2
      ·rw [if_pos c25] at H
       have c25b0 := decide_eq_true c25
       clear c25; have HC26 := xm H; clear H; have hcz29_0 := blkc4 BK221.out
       go_upto_region 9 with (fail)
       go_cut [66] (fun vs66 wc => ∃ (kq : Nat) (x66_25 : Bool), vs66 = .bool x66_25 ∧ Aside0 (moves_along.j2 kq x0_2 a3 t223 x12_8 (wrap64 (x13_2 + a4_0)) (wrap64 (x14_2 + x12_8)) a4_2 x40_2 x66_25 a1_0 a1_1 a1_2 l1_3 l1_4 a1_5 a1_6 l1_7 a1_8 a1_9 a1_10 l2_0 l2_1 l2_2 a2_3 a2_4 a4_0 a4_1 a4_2 a4_3 = some r) ∧ Aside0 (kq ≤ k2) ∧ Aside0 (Kd.R k39 39 wc w0.heap.size (fun k_ => (P0_ k_ ∨ w.heap.size ≤ k_)) u0 x0_2) ∧ Aside0 (wc.heap[gb219]? = some (.cells #[.string a1_0, .int .i64 a1_1, .int .i64 a1_2, (.slice A1_3 l1_3.length c1_3), (.slice A1_4 l1_4.length c1_4), .bool a1_5, .bool a1_6, (.slice A1_7 l1_7.length c1_7), .int .i64 a1_8, .int .i64 a1_9, .int .i64 a1_10] 26 (0, 0))) ∧ Aside0 (wc.heap[gb220]? = some (.cells #[(.slice (some ad222) l2_0.length c2_0), (.slice A2_1 l2_1.length c2_1), (.slice A2_2 l2_2.length c2_2), .int .i64 a2_3, .int .i64 a2_4] 29 (0, 0))) ∧ Aside0 (wc.heap[gb221]? = some (.cells #[.int .i64 a4_0, .int .i64 a4_1, .int .i64 a4_2, .int .i64 a4_3] 74 (0, 0))) ∧ Aside0 (Kept w wc (fun k_ => P0_ k_)) ∧ Aside0 (Below w0.heap.size w0 wc))
       case first =>
        have H := HC26.out; clear HC26
        by_cases c30 : (wrap64 (x13_2 + a4_0)) < 0
        ·rw [if_pos c30] at H
         have c30b0 := decide_eq_true c30
         clear c30
         (first | rw [c30b0] | (simp only [i64_w, i32_w]; rw [c30b0]) | skip)
         have H' := xm H
         clear H
         go_wp2
         go_meet
         case rel => exact ⟨_, (true), (xrf), H', ⟨by have := HJ8.out; have := HK2.out; first | omega | exact Nat.le_refl _⟩, ⟨by (with_reducible repeat (first | apply Kd.R_alloc | apply Kd.R_drewN | apply Kd.R_drew)); exact HO_0.out⟩, ⟨xK BK219⟩, ⟨xK BK220⟩, ⟨xK BK221⟩, ⟨by repeat (first | (with_reducible first | exact HK.out | apply Kept.alloc | apply Kept.drewN | apply Kept.drew | refine Kept.setCell ?_ (.inr GW219.out) _ | refine Kept.setCell ?_ (.inr GW220.out) _ | refine Kept.setCell ?_ (.inr GW221.out) _) | exact HK.out)⟩, ⟨xW HB⟩⟩
        ·rw [if_neg c30] at H
         have c30b0 := decide_eq_false c30
         clear c30
         (first | rw [c30b0] | (simp only [i64_w, i32_w]; rw [c30b0]) | skip)
         by_cases c31 : (wrap64 (x13_2 + a4_0)) ≥ a1_1
         ·rw [if_pos c31] at H
          have c31b0 := decide_eq_true c31
          clear c31
          have H' := xm H
          clear H; have hcz34_0 := blkc11 BK219.out
          go_wp2
          go_meet
          case rel => exact ⟨_, (true), (xrf), H', ⟨by have := HJ8.out; have := HK2.out; first | omega | exact Nat.le_refl _⟩, ⟨by (with_reducible repeat (first | apply Kd.R_alloc | apply Kd.R_drewN | apply Kd.R_drew)); exact HO_0.out⟩, ⟨xK BK219⟩, ⟨xK BK220⟩, ⟨xK BK221⟩, ⟨by repeat (first | (with_reducible first | exact HK.out | apply Kept.alloc | apply Kept.drewN | apply Kept.drew | refine Kept.setCell ?_ (.inr GW219.out) _ | refine Kept.setCell ?_ (.inr GW220.out) _ | refine Kept.setCell ?_ (.inr GW221.out) _) | exact HK.out)⟩, ⟨xW HB⟩⟩
         ·rw [if_neg c31] at H
          have c31b0 := decide_eq_false c31
          clear c31
          by_cases c35 : (wrap64 (x14_2 + x12_8)) < 0
          ·rw [if_pos c35] at H
           have c35b0 := decide_eq_true c35
           clear c35
           have H' := xm H
           clear H; have hcz38_0 := blkc11 BK219.out
           go_wp2
           go_meet
           case rel => exact ⟨_, (true), (xrf), H', ⟨by have := HJ8.out; have := HK2.out; first | omega | exact Nat.le_refl _⟩, ⟨by (with_reducible repeat (first | apply Kd.R_alloc | apply Kd.R_drewN | apply Kd.R_drew)); exact HO_0.out⟩, ⟨xK BK219⟩, ⟨xK BK220⟩, ⟨xK BK221⟩, ⟨by repeat (first | (with_reducible first | exact HK.out | apply Kept.alloc | apply Kept.drewN | apply Kept.drew | refine Kept.setCell ?_ (.inr GW219.out) _ | refine Kept.setCell ?_ (.inr GW220.out) _ | refine Kept.setCell ?_ (.inr GW221.out) _) | exact HK.out)⟩, ⟨xW HB⟩⟩
          ·rw [if_neg c35] at H
           have c35b0 := decide_eq_false c35
           clear c35
           have H' := xm H
           clear H; have hcz41_0 := blkc11 BK219.out
           go_wp2
           go_meet
           case rel => exact ⟨_, (decide ((wrap64 (x14_2 + x12_8)) ≥ a1_2)), (xrf), H', ⟨by have := HJ8.out; have := HK2.out; first | omega | exact Nat.le_refl _⟩, ⟨by (with_reducible repeat (first | apply Kd.R_alloc | apply Kd.R_drewN | apply Kd.R_drew)); exact HO_0.out⟩, ⟨xK BK219⟩, ⟨xK BK220⟩, ⟨xK BK221⟩, ⟨by repeat (first | (with_reducible first | exact HK.out | apply Kept.alloc | apply Kept.drewN | apply Kept.drew | refine Kept.setCell ?_ (.inr GW219.out) _ | refine Kept.setCell ?_ (.inr GW220.out) _ | refine Kept.setCell ?_ (.inr GW221.out) _) | exact HK.out)⟩, ⟨xW HB⟩⟩
       case rest =>
        clear HC26; (try clear p2); (try clear q2); (try clear hx2); (try clear p6); (try clear p22); (try clear q22); (try clear hx22); (try clear hx222_0); (try clear p222); (try clear q222)
        obtain ⟨kq, x66_25, rfl, HA, HJ25, HO_0, BK219, BK220, BK221, HK, HB⟩ := hcut
        cases kq with
        | zero => exact absurd HA.out (by simp [moves_along.j2])
        | succ kj25 =>
         have H := HA.out; clear HA
         simp only [moves_along.j2] at H
         by_cases c42 : x66_25 = true
         ·subst c42
          rw [if_pos rfl] at H
          obtain rfl := Option.some.inj H
          go_wp2
          go_ret
          exact ⟨_, xer, by (with_reducible repeat (first | apply Kd.R_alloc | apply Kd.R_drewN | apply Kd.R_drew)); exact HO_0.out, xW HB, by repeat (first | (with_reducible first | exact HK.out | apply Kept.alloc | apply Kept.drewN | apply Kept.drew | refine Kept.setCell ?_ (.inr GW219.out) _ | refine Kept.setCell ?_ (.inr GW220.out) _ | refine Kept.setCell ?_ (.inr GW221.out) _) | exact HK.out)⟩
         ·obtain rfl := Bool.eq_false_iff.mpr c42
          rw [if_neg xF] at H
          obtain ⟨ji43, hji43⟩ : ∃ j_ : Int, (wrap64 ((wrap64 ((wrap64 (x14_2 + x12_8)) * a1_1)) + (wrap64 (x13_2 + a4_0)))) = j_ := ⟨_, rfl⟩
          (first | rw [hji43] at H | simp only [hji43] at H)
          have hji43w : (IntKind.i64.wrap ((wrap64 ((wrap64 (x14_2 + x12_8)) * a1_1)) + (wrap64 (x13_2 + a4_0)))) = ji43 := (i64_w _).trans hji43
          obtain ⟨c44b0, H⟩ := xJ H
          obtain ⟨c45b0, H⟩ := xJ H
          obtain ⟨t225, A46, H⟩ := xH H
          (try dsimp only at H); have HC47 := xm H; clear H; have hcz50_0 := blkc11 BK219.out; have hcz52_0 := blkc5 BK220.out
          have p224 : 0 ≤ ((ji43) : Int) := xO
          have q224 : (ji43) < (l2_0.length : Int) := xO
          obtain ⟨ad224, e224, hx224_0⟩ := Kd.at_int (Kd.C_kept_now HR2_0.out HK.out) (ji43) p224 q224
          obtain rfl : ad222 = ad224 := (by injection e224)
          replace p224 := eq_true p224; replace q224 := eq_true q224
          go_upto_region 13 with (first | (go_at_call 53; (with_reducible refine (moves_Owner.calls (rd l2_0 (ji43)) t225 _ A46.out).mono ?_); rintro e w' ⟨rfl, ⟨nd, rfl⟩⟩; (try exact xE)))
          (try simp only [Act.put, List.setIfInBounds_toArray, List.set_cons_zero, List.set_cons_succ])
          go_cut [98] (fun vs98 wc => ∃ (kq : Nat) (x98_46 : Bool), vs98 = .bool x98_46 ∧ Aside0 (moves_along.j3 kq x0_2 a3 t223 x12_8 (wrap64 (x13_2 + a4_0)) (wrap64 (x14_2 + x12_8)) ji43 t225 a4_2 x40_2 x98_46 a1_0 a1_1 a1_2 l1_3 l1_4 a1_5 a1_6 l1_7 a1_8 a1_9 a1_10 l2_0 l2_1 l2_2 a2_3 a2_4 a4_0 a4_1 a4_2 a4_3 = some r) ∧ Aside0 (kq ≤ kj25) ∧ Aside0 (Kd.R k39 39 wc w0.heap.size (fun k_ => (P0_ k_ ∨ w.heap.size ≤ k_)) u0 x0_2) ∧ Aside0 (wc.heap[gb219]? = some (.cells #[.string a1_0, .int .i64 a1_1, .int .i64 a1_2, (.slice A1_3 l1_3.length c1_3), (.slice A1_4 l1_4.length c1_4), .bool a1_5, .bool a1_6, (.slice A1_7 l1_7.length c1_7), .int .i64 a1_8, .int .i64 a1_9, .int .i64 a1_10] 26 (0, 0))) ∧ Aside0 (wc.heap[gb220]? = some (.cells #[(.slice (some ad222) l2_0.length c2_0), (.slice A2_1 l2_1.length c2_1), (.slice A2_2 l2_2.length c2_2), .int .i64 a2_3, .int .i64 a2_4] 29 (0, 0))) ∧ Aside0 (wc.heap[gb221]? = some (.cells #[.int .i64 a4_0, .int .i64 a4_1, .int .i64 a4_2, .int .i64 a4_3] 74 (0, 0))) ∧ Aside0 (Kept w wc (fun k_ => P0_ k_)) ∧ Aside0 (Below w0.heap.size w0 wc))
          case first =>
           have H := HC47.out; clear HC47
           by_cases c53 : t225 < 0
           ·rw [if_pos c53] at H
            have c53b0 := decide_eq_true c53
            clear c53
            (first | rw [c53b0] | (simp only [i64_w, i32_w]; rw [c53b0]) | skip)
            by_cases c54 : a4_3 = 2
            ·rw [if_pos c54] at H
             have c54b0 := beq_iff_eq.mpr c54
             have c54b1 := bne_eq_false_iff_eq.mpr c54
             clear c54
             by_cases c55 : t225 = (wrap64 (1 - a2_3))
             ·rw [if_pos c55] at H
              have c55b0 := beq_iff_eq.mpr c55
              have c55b1 := bne_eq_false_iff_eq.mpr c55
              clear c55
              have H' := xm H
              clear H; have hcz58_0 := blkc4 BK221.out; have hcz60_0 := blkc5 BK220.out
              go_wp2
              go_meet
              case rel => exact ⟨_, ((a4_3 != 0)), (xrf), H', ⟨by have := HJ8.out; have := HK2.out; have := HJ25.out; first | omega | exact Nat.le_refl _⟩, ⟨by (with_reducible repeat (first | apply Kd.R_alloc | apply Kd.R_drewN | apply Kd.R_drew)); exact HO_0.out⟩, ⟨xK BK219⟩, ⟨xK BK220⟩, ⟨xK BK221⟩, ⟨by repeat (first | (with_reducible first | exact HK.out | apply Kept.alloc | apply Kept.drewN | apply Kept.drew | refine Kept.setCell ?_ (.inr GW219.out) _ | refine Kept.setCell ?_ (.inr GW220.out) _ | refine Kept.setCell ?_ (.inr GW221.out) _) | exact HK.out)⟩, ⟨xW HB⟩⟩
             ·rw [if_neg c55] at H
              have c55b0 := beq_eq_false_iff_ne.mpr c55
              have c55b1 := bne_iff_ne.mpr c55
              have H' := xm H
              clear H; have hcz63_0 := blkc4 BK221.out; have hcz65_0 := blkc5 BK220.out
              go_wp2
              go_meet
              case rel => exact ⟨_, (false), (xrf), H', ⟨by have := HJ8.out; have := HK2.out; have := HJ25.out; first | omega | exact Nat.le_refl _⟩, ⟨by (with_reducible repeat (first | apply Kd.R_alloc | apply Kd.R_drewN | apply Kd.R_drew)); exact HO_0.out⟩, ⟨xK BK219⟩, ⟨xK BK220⟩, ⟨xK BK221⟩, ⟨by repeat (first | (with_reducible first | exact HK.out | apply Kept.alloc | apply Kept.drewN | apply Kept.drew | refine Kept.setCell ?_ (.inr GW219.out) _ | refine Kept.setCell ?_ (.inr GW220.out) _ | refine Kept.setCell ?_ (.inr GW221.out) _) | exact HK.out)⟩, ⟨xW HB⟩⟩
            ·rw [if_neg c54] at H
             have c54b0 := beq_eq_false_iff_ne.mpr c54
             have c54b1 := bne_iff_ne.mpr c54
             have H' := xm H
             clear H; have hcz68_0 := blkc4 BK221.out
             go_wp2
             go_meet
             case rel => exact ⟨_, (true), (xrf), H', ⟨by have := HJ8.out; have := HK2.out; have := HJ25.out; first | omega | exact Nat.le_refl _⟩, ⟨by (with_reducible repeat (first | apply Kd.R_alloc | apply Kd.R_drewN | apply Kd.R_drew)); exact HO_0.out⟩, ⟨xK BK219⟩, ⟨xK BK220⟩, ⟨xK BK221⟩, ⟨by repeat (first | (with_reducible first | exact HK.out | apply Kept.alloc | apply Kept.drewN | apply Kept.drew | refine Kept.setCell ?_ (.inr GW219.out) _ | refine Kept.setCell ?_ (.inr GW220.out) _ | refine Kept.setCell ?_ (.inr GW221.out) _) | exact HK.out)⟩, ⟨xW HB⟩⟩
           ·rw [if_neg c53] at H
            have c53b0 := decide_eq_false c53
            clear c53
            (first | rw [c53b0] | (simp only [i64_w, i32_w]; rw [c53b0]) | skip)
            by_cases c69 : t225 = (wrap64 (1 - a2_3))
            ·rw [if_pos c69] at H
             have c69b0 := beq_iff_eq.mpr c69
             have c69b1 := bne_eq_false_iff_eq.mpr c69
             clear c69
             have H' := xm H
             clear H; have hcz72_0 := blkc5 BK220.out; have hcz74_0 := blkc4 BK221.out
             go_wp2
             go_meet
             case rel => exact ⟨_, ((a4_3 != 0)), (xrf), H', ⟨by have := HJ8.out; have := HK2.out; have := HJ25.out; first | omega | exact Nat.le_refl _⟩, ⟨by (with_reducible repeat (first | apply Kd.R_alloc | apply Kd.R_drewN | apply Kd.R_drew)); exact HO_0.out⟩, ⟨xK BK219⟩, ⟨xK BK220⟩, ⟨xK BK221⟩, ⟨by repeat (first | (with_reducible first | exact HK.out | apply Kept.alloc | apply Kept.drewN | apply Kept.drew | refine Kept.setCell ?_ (.inr GW219.out) _ | refine Kept.setCell ?_ (.inr GW220.out) _ | refine Kept.setCell ?_ (.inr GW221.out) _) | exact HK.out)⟩, ⟨xW HB⟩⟩
            ·rw [if_neg c69] at H
             have c69b0 := beq_eq_false_iff_ne.mpr c69
             have c69b1 := bne_iff_ne.mpr c69
             have H' := xm H
             clear H; have hcz77_0 := blkc5 BK220.out
             go_wp2
             go_meet
             case rel => exact ⟨_, (false), (xrf), H', ⟨by have := HJ8.out; have := HK2.out; have := HJ25.out; first | omega | exact Nat.le_refl _⟩, ⟨by (with_reducible repeat (first | apply Kd.R_alloc | apply Kd.R_drewN | apply Kd.R_drew)); exact HO_0.out⟩, ⟨xK BK219⟩, ⟨xK BK220⟩, ⟨xK BK221⟩, ⟨by repeat (first | (with_reducible first | exact HK.out | apply Kept.alloc | apply Kept.drewN | apply Kept.drew | refine Kept.setCell ?_ (.inr GW219.out) _ | refine Kept.setCell ?_ (.inr GW220.out) _ | refine Kept.setCell ?_ (.inr GW221.out) _) | exact HK.out)⟩, ⟨xW HB⟩⟩
          case rest =>
           clear HC47; (try clear p2); (try clear q2); (try clear hx2); (try clear p6); (try clear p22); (try clear q22); (try clear hx22); (try clear p64); (try clear hx222_0); (try clear hx224_0); (try clear p222); (try clear p224); (try clear q222); (try clear q224)
           obtain ⟨kq, x98_46, rfl, HA, HJ46, HO_0, BK219, BK220, BK221, HK, HB⟩ := hcut
           cases kq with
           | zero => exact absurd HA.out (by simp [moves_along.j3])
           | succ kj46 =>
            have H := HA.out; clear HA
            simp only [moves_along.j3] at H
            by_cases c78 : x98_46 = true
            ·subst c78
             rw [if_pos rfl] at H
             obtain ⟨t226, A79, H⟩ := xH H
             (try dsimp only at H)
             obtain ⟨c80, H⟩ := xI H
             have LMc80 := xm c80; clear c80
             obtain ⟨y227, hy227⟩ : ∃ y_ : List (S39), y_ = (x0_2 ++ [(⟨a3, ji43, t226⟩ : S39)]) := ⟨_, rfl⟩
             replace H : (if t225 ≥ 0 then (some y227) else (moves_along.l0 kj46 y227 a3 t223 x12_8 (wrap64 (x13_2 + a4_0)) (wrap64 (x14_2 + x12_8)) a4_2 (wrap64 (x40_2 + 1)) a1_0 a1_1 a1_2 l1_3 l1_4 a1_5 a1_6 l1_7 a1_8 a1_9 a1_10 l2_0 l2_1 l2_2 a2_3 a2_4 a4_0 a4_1 a4_2 a4_3)) = some r := by first | (rw [hy227]; with_reducible exact H) | (have H2_ := (Option.bind_some _ _).symm.trans H; rw [hy227]; with_reducible exact H2_) | (have H2_ := (Option.bind_some _ _).symm.trans H; with_reducible exact H2_) | with_reducible exact H | (rw [hy227]; exact H) | exact H
             have Ny227 := xm hy227; clear hy227
             by_cases c81 : t225 ≥ 0
             ·rw [if_pos c81] at H
              have c81b0 := decide_eq_true c81
              clear c81
              obtain rfl := Option.some.inj H
              have hcz84_0 := blkc11 BK219.out; have hcz86_0 := blkc5 BK220.out
              go_wp2_with (first | (go_at_call 67; (with_reducible refine (moves_arrives.calls a1_0 a1_1 a1_2 _ _ l1_3 _ _ l1_4 a1_5 a1_6 _ _ l1_7 a1_8 a1_9 a1_10 a2_3 t223 ji43 t226 _ ?side1 ?side2 ?side3 ?side4 ?side5 ?side6 A79.out).mono ?_); (case side1 => exact Kd.C_kept_now HR1_3.out (by repeat (first | (with_reducible first | exact HK.out | apply Kept.alloc | apply Kept.drewN | apply Kept.drew | refine Kept.setCell ?_ (.inr GW219.out) _ | refine Kept.setCell ?_ (.inr GW220.out) _ | refine Kept.setCell ?_ (.inr GW221.out) _) | exact HK.out))); (case side2 => exact HC1_3.out); (case side3 => exact Kd.C_kept_now HR1_4.out (by repeat (first | (with_reducible first | exact HK.out | apply Kept.alloc | apply Kept.drewN | apply Kept.drew | refine Kept.setCell ?_ (.inr GW219.out) _ | refine Kept.setCell ?_ (.inr GW220.out) _ | refine Kept.setCell ?_ (.inr GW221.out) _) | exact HK.out))); (case side4 => exact HC1_4.out); (case side5 => exact Kd.C_kept_now HR1_7.out (by repeat (first | (with_reducible first | exact HK.out | apply Kept.alloc | apply Kept.drewN | apply Kept.drew | refine Kept.setCell ?_ (.inr GW219.out) _ | refine Kept.setCell ?_ (.inr GW220.out) _ | refine Kept.setCell ?_ (.inr GW221.out) _) | exact HK.out))); (case side6 => exact HC1_7.out); rintro e w87 ⟨rfl, hb⟩; replace HO_0 := xm (Kd.R_below (yR HO_0) hb); replace BK219 := xm (xB BK219 hb); replace BK220 := xm (xB BK220 hb); replace BK221 := xm (xB BK221 hb); replace HK := xm (Kept.below (S := (fun k_ => P0_ k_)) (by repeat (first | (with_reducible first | exact HK.out | apply Kept.alloc | apply Kept.drewN | apply Kept.drew | refine Kept.setCell ?_ (.inr GW219.out) _ | refine Kept.setCell ?_ (.inr GW220.out) _ | refine Kept.setCell ?_ (.inr GW221.out) _) | exact HK.out)) hb); replace HB := xm (xS HB hb); (try clear hb); (try clear hb2); (try clear hk); (try clear hi)) | ((with_reducible refine gate_builtin (b := .append) (xs := #[.tmp 99, .tmp 109]) rfl ?_); at_builtin; refine Kd.R_append k39 (w0 := w0) w0.heap.size rfl (.tmp 99) (.tmp 109) 50 39 (.agg #[(.int .i64 0), (.int .i64 0), (.int .i64 0)]) 24 rfl Try.underlying50 info39 rfl (by decide) (by omega) u0 x0_2 (⟨a3, ji43, t226⟩ : S39) [.int .i64 a3, .int .i64 ji43, .int .i64 t226] (fun k_ => (P0_ k_ ∨ w.heap.size ≤ k_)) (fun _ => False) rfl rfl ?aP (fun _ hk => hk.elim) ?aF ?aO ?aB ?aS ?aL ?_; (case aP => exact k39_mkM _ _ _ (⟨a3, ji43, t226⟩ : S39)); (case aB => exact (xW HB)); (case aF => exact (fun k_ hk => (.inr (Nat.le_trans (by first | exact HK.out.1 | exact (show Kept w _ (fun k_ => P0_ k_) from by repeat (first | (with_reducible first | exact HK.out | apply Kept.alloc | apply Kept.drewN | apply Kept.drew | refine Kept.setCell ?_ (.inr GW219.out) _ | refine Kept.setCell ?_ (.inr GW220.out) _ | refine Kept.setCell ?_ (.inr GW221.out) _) | exact HK.out)).1) hk)))); (case aO => exact (yR HO_0)); (case aS => exact (below_size (xW HB))); (case aL => have := LMc80.out; omega); intro v228 w88 ho hb hg hat; rw [← Ny227.out] at ho; have HO229 := xm (ho); replace BK219 := xm (blk_grown (g := gb219) (o := .cells #[.string a1_0, .int .i64 a1_1, .int .i64 a1_2, .slice A1_3 l1_3.length c1_3, .slice A1_4 l1_4.length c1_4, .bool a1_5, .bool a1_6, .slice A1_7 l1_7.length c1_7, .int .i64 a1_8, .int .i64 a1_9, .int .i64 a1_10] 26 (0, 0)) (xK BK219) hg (Kd.R_ne HO_0.out BK219.out (by decide))); replace BK220 := xm (blk_grown (g := gb220) (o := .cells #[.slice (some ad222) l2_0.length c2_0, .slice A2_1 l2_1.length c2_1, .slice A2_2 l2_2.length c2_2, .int .i64 a2_3, .int .i64 a2_4] 29 (0, 0)) (xK BK220) hg (Kd.R_ne HO_0.out BK220.out (by decide))); replace BK221 := xm (blk_grown (g := gb221) (o := .cells #[.int .i64 a4_0, .int .i64 a4_1, .int .i64 a4_2, .int .i64 a4_3] 74 (0, 0)) (xK BK221) hg (Kd.R_ne HO_0.out BK221.out (by decide))); replace HK := xm (Kept.of_grown (S := (fun k_ => P0_ k_)) hg (by repeat (first | (with_reducible first | exact HK.out | apply Kept.alloc | apply Kept.drewN | apply Kept.drew | refine Kept.setCell ?_ (.inr GW219.out) _ | refine Kept.setCell ?_ (.inr GW220.out) _ | refine Kept.setCell ?_ (.inr GW221.out) _) | exact HK.out)) (fun k_ e_ => (HO_0.out.1 k_ e_))); replace HB := xm (hb); clear HO_0; clear ho hb hg hat))
              go_ret
              exact ⟨_, by first | rfl | (simp [errW_none, errW_some] <;> rfl) | (simp only [← hji43]; first | rfl | (simp [errW_none, errW_some] <;> rfl)) | (simp [*, errW_none, errW_some] <;> rfl), by (with_reducible repeat (first | apply Kd.R_alloc | apply Kd.R_drewN | apply Kd.R_drew)); exact HO229.out, xW HB, by repeat (first | (with_reducible first | exact HK.out | apply Kept.alloc | apply Kept.drewN | apply Kept.drew | refine Kept.setCell ?_ (.inr GW219.out) _ | refine Kept.setCell ?_ (.inr GW220.out) _ | refine Kept.setCell ?_ (.inr GW221.out) _) | exact HK.out)⟩
             ·rw [if_neg c81] at H
              have c81b0 := decide_eq_false c81
              clear c81
              have H' := xm H
              clear H; have hcz91_0 := blkc11 BK219.out; have hcz93_0 := blkc5 BK220.out
              go_wp2_with (first | (go_at_call 67; (with_reducible refine (moves_arrives.calls a1_0 a1_1 a1_2 _ _ l1_3 _ _ l1_4 a1_5 a1_6 _ _ l1_7 a1_8 a1_9 a1_10 a2_3 t223 ji43 t226 _ ?side1 ?side2 ?side3 ?side4 ?side5 ?side6 A79.out).mono ?_); (case side1 => exact Kd.C_kept_now HR1_3.out (by repeat (first | (with_reducible first | exact HK.out | apply Kept.alloc | apply Kept.drewN | apply Kept.drew | refine Kept.setCell ?_ (.inr GW219.out) _ | refine Kept.setCell ?_ (.inr GW220.out) _ | refine Kept.setCell ?_ (.inr GW221.out) _) | exact HK.out))); (case side2 => exact HC1_3.out); (case side3 => exact Kd.C_kept_now HR1_4.out (by repeat (first | (with_reducible first | exact HK.out | apply Kept.alloc | apply Kept.drewN | apply Kept.drew | refine Kept.setCell ?_ (.inr GW219.out) _ | refine Kept.setCell ?_ (.inr GW220.out) _ | refine Kept.setCell ?_ (.inr GW221.out) _) | exact HK.out))); (case side4 => exact HC1_4.out); (case side5 => exact Kd.C_kept_now HR1_7.out (by repeat (first | (with_reducible first | exact HK.out | apply Kept.alloc | apply Kept.drewN | apply Kept.drew | refine Kept.setCell ?_ (.inr GW219.out) _ | refine Kept.setCell ?_ (.inr GW220.out) _ | refine Kept.setCell ?_ (.inr GW221.out) _) | exact HK.out))); (case side6 => exact HC1_7.out); rintro e w94 ⟨rfl, hb⟩; replace HO_0 := xm (Kd.R_below (yR HO_0) hb); replace BK219 := xm (xB BK219 hb); replace BK220 := xm (xB BK220 hb); replace BK221 := xm (xB BK221 hb); replace HK := xm (Kept.below (S := (fun k_ => P0_ k_)) (by repeat (first | (with_reducible first | exact HK.out | apply Kept.alloc | apply Kept.drewN | apply Kept.drew | refine Kept.setCell ?_ (.inr GW219.out) _ | refine Kept.setCell ?_ (.inr GW220.out) _ | refine Kept.setCell ?_ (.inr GW221.out) _) | exact HK.out)) hb); replace HB := xm (xS HB hb); (try clear hb); (try clear hb2); (try clear hk); (try clear hi)) | ((with_reducible refine gate_builtin (b := .append) (xs := #[.tmp 99, .tmp 109]) rfl ?_); at_builtin; refine Kd.R_append k39 (w0 := w0) w0.heap.size rfl (.tmp 99) (.tmp 109) 50 39 (.agg #[(.int .i64 0), (.int .i64 0), (.int .i64 0)]) 24 rfl Try.underlying50 info39 rfl (by decide) (by omega) u0 x0_2 (⟨a3, ji43, t226⟩ : S39) [.int .i64 a3, .int .i64 ji43, .int .i64 t226] (fun k_ => (P0_ k_ ∨ w.heap.size ≤ k_)) (fun _ => False) rfl rfl ?aP (fun _ hk => hk.elim) ?aF ?aO ?aB ?aS ?aL ?_; (case aP => exact k39_mkM _ _ _ (⟨a3, ji43, t226⟩ : S39)); (case aB => exact (xW HB)); (case aF => exact (fun k_ hk => (.inr (Nat.le_trans (by first | exact HK.out.1 | exact (show Kept w _ (fun k_ => P0_ k_) from by repeat (first | (with_reducible first | exact HK.out | apply Kept.alloc | apply Kept.drewN | apply Kept.drew | refine Kept.setCell ?_ (.inr GW219.out) _ | refine Kept.setCell ?_ (.inr GW220.out) _ | refine Kept.setCell ?_ (.inr GW221.out) _) | exact HK.out)).1) hk)))); (case aO => exact (yR HO_0)); (case aS => exact (below_size (xW HB))); (case aL => have := LMc80.out; omega); intro v228 w95 ho hb hg hat; rw [← Ny227.out] at ho; have HO229 := xm (ho); replace BK219 := xm (blk_grown (g := gb219) (o := .cells #[.string a1_0, .int .i64 a1_1, .int .i64 a1_2, .slice A1_3 l1_3.length c1_3, .slice A1_4 l1_4.length c1_4, .bool a1_5, .bool a1_6, .slice A1_7 l1_7.length c1_7, .int .i64 a1_8, .int .i64 a1_9, .int .i64 a1_10] 26 (0, 0)) (xK BK219) hg (Kd.R_ne HO_0.out BK219.out (by decide))); replace BK220 := xm (blk_grown (g := gb220) (o := .cells #[.slice (some ad222) l2_0.length c2_0, .slice A2_1 l2_1.length c2_1, .slice A2_2 l2_2.length c2_2, .int .i64 a2_3, .int .i64 a2_4] 29 (0, 0)) (xK BK220) hg (Kd.R_ne HO_0.out BK220.out (by decide))); replace BK221 := xm (blk_grown (g := gb221) (o := .cells #[.int .i64 a4_0, .int .i64 a4_1, .int .i64 a4_2, .int .i64 a4_3] 74 (0, 0)) (xK BK221) hg (Kd.R_ne HO_0.out BK221.out (by decide))); replace HK := xm (Kept.of_grown (S := (fun k_ => P0_ k_)) hg (by repeat (first | (with_reducible first | exact HK.out | apply Kept.alloc | apply Kept.drewN | apply Kept.drew | refine Kept.setCell ?_ (.inr GW219.out) _ | refine Kept.setCell ?_ (.inr GW220.out) _ | refine Kept.setCell ?_ (.inr GW221.out) _) | exact HK.out)) (fun k_ e_ => (HO_0.out.1 k_ e_))); replace HB := xm (hb); clear HO_0; clear ho hb hg hat))
              go_roundg kj46
              case measure => have := HJ8.out; have := HK2.out; have := HJ25.out; have := HJ46.out; omega
              case rel => exact ⟨(y227), ((wrap64 (x13_2 + a4_0))), ((wrap64 (x14_2 + x12_8))), (wrap64 (x40_2 + 1)), (xrf), (xrf), (xrf), H', ⟨by have := HJ8.out; have := HK2.out; have := HJ25.out; have := HJ46.out; omega⟩, ⟨by (with_reducible repeat (first | apply Kd.R_alloc | apply Kd.R_drewN | apply Kd.R_drew)); exact HO229.out⟩, ⟨xK BK219⟩, ⟨xK BK220⟩, ⟨xK BK221⟩, ⟨by repeat (first | (with_reducible first | exact HK.out | apply Kept.alloc | apply Kept.drewN | apply Kept.drew | refine Kept.setCell ?_ (.inr GW219.out) _ | refine Kept.setCell ?_ (.inr GW220.out) _ | refine Kept.setCell ?_ (.inr GW221.out) _) | exact HK.out)⟩, ⟨xW HB⟩⟩
            ·obtain rfl := Bool.eq_false_iff.mpr c78
             rw [if_neg xF] at H
             by_cases c96 : t225 ≥ 0
             ·rw [if_pos c96] at H
              have c96b0 := decide_eq_true c96
              clear c96
              obtain rfl := Option.some.inj H
              go_wp2
              go_ret
              exact ⟨_, by first | rfl | (simp [errW_none, errW_some] <;> rfl) | (simp only [← hji43]; first | rfl | (simp [errW_none, errW_some] <;> rfl)) | (simp [*, errW_none, errW_some] <;> rfl), by (with_reducible repeat (first | apply Kd.R_alloc | apply Kd.R_drewN | apply Kd.R_drew)); exact HO_0.out, xW HB, by repeat (first | (with_reducible first | exact HK.out | apply Kept.alloc | apply Kept.drewN | apply Kept.drew | refine Kept.setCell ?_ (.inr GW219.out) _ | refine Kept.setCell ?_ (.inr GW220.out) _ | refine Kept.setCell ?_ (.inr GW221.out) _) | exact HK.out)⟩
             ·rw [if_neg c96] at H
              have c96b0 := decide_eq_false c96
              clear c96
              have H' := xm H
              clear H
              go_wp2
              go_roundg kj46
              case measure => have := HJ8.out; have := HK2.out; have := HJ25.out; have := HJ46.out; omega
              case rel => exact ⟨(x0_2), ((wrap64 (x13_2 + a4_0))), ((wrap64 (x14_2 + x12_8))), (wrap64 (x40_2 + 1)), (xrf), (xrf), (xrf), H', ⟨by have := HJ8.out; have := HK2.out; have := HJ25.out; have := HJ46.out; omega⟩, ⟨by (with_reducible repeat (first | apply Kd.R_alloc | apply Kd.R_drewN | apply Kd.R_drew)); exact HO_0.out⟩, ⟨xK BK219⟩, ⟨xK BK220⟩, ⟨xK BK221⟩, ⟨by repeat (first | (with_reducible first | exact HK.out | apply Kept.alloc | apply Kept.drewN | apply Kept.drew | refine Kept.setCell ?_ (.inr GW219.out) _ | refine Kept.setCell ?_ (.inr GW220.out) _ | refine Kept.setCell ?_ (.inr GW221.out) _) | exact HK.out)⟩, ⟨xW HB⟩⟩
      ·rw [if_neg c25] at H
       have c25b0 := decide_eq_false c25
       clear c25
       obtain rfl := Option.some.inj H
       go_wp2
       go_ret
       exact ⟨_, xer, by (with_reducible repeat (first | apply Kd.R_alloc | apply Kd.R_drewN | apply Kd.R_drew)); exact HO_0.out, xW HB, by repeat (first | (with_reducible first | exact HK.out | apply Kept.alloc | apply Kept.drewN | apply Kept.drew | refine Kept.setCell ?_ (.inr GW219.out) _ | refine Kept.setCell ?_ (.inr GW220.out) _ | refine Kept.setCell ?_ (.inr GW221.out) _) | exact HK.out)⟩

/-! ### cmp_Or_int: function 70 -/
def cmp_Or_int.l0 : Nat → Int → List Int → Int → Int → Option (Int)
  | 0, _, _, _, _ => none
  | k + 1, x3, x6, x7, x8 => if x8 < x7 then (if 0 ≤ x8 then (if x8 < (x6.length : Int) then (if (rd x6 x8) = x3 then (cmp_Or_int.l0 k x3 x6 x7 (wrap64 (x8 + 1))) else (some (rd x6 x8))) else (none)) else (none)) else (some x3)
def cmp_Or_int.f (k : Nat) (l0 : List Int) : Option (Int) := cmp_Or_int.l0 k 0 l0 (l0.length : Int) 0
theorem cmp_Or_int.mono_l : ∀ k, LM (LM (LM (LM (LeO)))) (cmp_Or_int.l0 k) (cmp_Or_int.l0 (k + 1))
  | 0 => by (repeat (first | exact LeO.none _ | intro _))
  | k + 1 => by
    have ih0 := cmp_Or_int.mono_l k
    ((repeat (first | (with_reducible refine LeO.st ?_) | intro _)); constructor; (first | unfold cmp_Or_int.l0); repeat' first | (with_reducible first | apply ih0 | exact LeO.refl _ | exact LeO.none _ | refine LeO.ite ?_ ?_ | refine LeO.bind ?_ (fun _ => ?_)) | apply ih0 | exact LeO.none _ | refine LeO.ite ?_ ?_ | refine LeO.bind ?_ (fun _ => ?_))
theorem cmp_Or_int.mono : ∀ a0 k, LeO (cmp_Or_int.f k a0) (cmp_Or_int.f (k + 1) a0) := by
  intros; rename_i k
  have ih0 := cmp_Or_int.mono_l k
  unfold cmp_Or_int.f
  repeat' first | (with_reducible first | apply ih0 | exact LeO.refl _ | exact LeO.none _ | refine LeO.ite ?_ ?_ | refine LeO.bind ?_ (fun _ => ?_)) | apply ih0 | exact LeO.none _ | refine LeO.ite ?_ ?_ | refine LeO.bind ?_ (fun _ => ?_)
theorem cmp_Or_int.calls (k : Nat) (A0 : Option Addr) (c0 : Nat) (l0 : List Int) (r : Int) (w : World) (hr0 : Kd.C (Kd.int .i64) w A0 l0.length l0) (hc0 : l0.length ≤ c0) (h : cmp_Or_int.f k l0 = some r) :
    Calls Try.prog 70 #[.slice A0 l0.length c0] w fun e w' => e = .returned (.int .i64 r) ∧ Drawn0 w w' := by
 have HR0 := xm hr0; have HC0 := xm hc0; clear hr0 hc0
 have H : (cmp_Or_int.l0 k 0 l0 (l0.length : Int) 0) = some r := h
 clear h
 have H' := xm H
 clear H
 go_enter Try.func70, Try.ntmps70
 go_wp2
 go_loopg [8] k (fun kq vs8 w' => ∃ (x8_1 : Int), vs8 = .int .i64 x8_1 ∧ Aside0 (cmp_Or_int.l0 kq 0 l0 (l0.length : Int) x8_1 = some r) ∧ Aside0 (kq ≤ k) ∧ Drawn0 w w')
 case atStart => exact ⟨(0), (xrf), H', ⟨Nat.le_refl _⟩, by repeat (first | exact Drawn0.refl _ | apply Drawn0.step)⟩
 case round =>
  clear H'
  obtain ⟨x8_1, rfl, HA, HK1, ⟨m1, rfl⟩⟩ := hrel
  cases gk with
  | zero => exact absurd HA.out (by simp [cmp_Or_int.l0])
  | succ k1 =>
   have H := HA.out; clear HA
   simp only [cmp_Or_int.l0] at H
   by_cases c2 : x8_1 < (l0.length : Int)
   ·rw [if_pos c2] at H
    have c2b0 := decide_eq_true c2
    clear c2
    obtain ⟨c3b0, H⟩ := xJ H
    obtain ⟨c4b0, H⟩ := xJ H
    by_cases c5 : (rd l0 x8_1) = 0
    ·rw [if_pos c5] at H
     have c5b0 := beq_iff_eq.mpr c5
     have c5b1 := bne_eq_false_iff_eq.mpr c5
     clear c5
     have H' := xm H
     clear H
     have p230 : 0 ≤ (x8_1 : Int) := xO
     have q230 : x8_1 < (l0.length : Int) := xO
     obtain ⟨ad230, e230, hx230_0⟩ := Kd.at_int HR0.out x8_1 p230 q230
     cases e230
     replace p230 := eq_true p230; replace q230 := eq_true q230
     go_wp2
     go_roundg k1
     case measure => have := HK1.out; omega
     case rel => exact ⟨(wrap64 (x8_1 + 1)), (xrf), H', ⟨by have := HK1.out; omega⟩, by repeat (first | exact Drawn0.refl _ | apply Drawn0.step)⟩
    ·rw [if_neg c5] at H
     have c5b0 := beq_eq_false_iff_ne.mpr c5
     have c5b1 := bne_iff_ne.mpr c5
     obtain rfl := Option.some.inj H
     have p230 : 0 ≤ (x8_1 : Int) := xO
     have q230 : x8_1 < (l0.length : Int) := xO
     obtain ⟨ad230, e230, hx230_0⟩ := Kd.at_int HR0.out x8_1 p230 q230
     cases e230
     replace p230 := eq_true p230; replace q230 := eq_true q230
     go_wp2
     go_ret
     exact ⟨xrf, by repeat (first | exact Drawn0.refl _ | apply Drawn0.step)⟩
   ·rw [if_neg c2] at H
    have c2b0 := decide_eq_false c2
    clear c2
    obtain rfl := Option.some.inj H
    go_wp2
    go_ret
    exact ⟨xrf, by repeat (first | exact Drawn0.refl _ | apply Drawn0.step)⟩

/-! ### cmp_isNaN_int: function 84 -/
def cmp_isNaN_int.f (a0 : Int) : Option (Bool) := some (a0 != a0)
theorem cmp_isNaN_int.calls (a0 : Int) (r : Bool) (w : World) (h : cmp_isNaN_int.f a0 = some r) :
    Calls Try.prog 84 #[.int .i64 a0] w fun e w' => e = .returned (.bool r) ∧ Drawn0 w w' := by
 have H : (some (a0 != a0)) = some r := h
 clear h
 obtain rfl := Option.some.inj H
 go_enter Try.func84, Try.ntmps84
 go_wp2
 go_ret
 exact ⟨xrf, by repeat (first | exact Drawn0.refl _ | apply Drawn0.step)⟩

/-! ### cmp_Compare_int: function 71 -/
def cmp_Compare_int.f (a0 : Int) (a1 : Int) : Option (Int) := (cmp_isNaN_int.f a0).bind fun t231 => ((cmp_isNaN_int.f a1).bind fun t232 => (if t231 = true then (if t232 = true then (some 0) else (some (-1))) else (if t232 = true then (some 1) else (if a0 < a1 then (some (-1)) else (if a0 > a1 then (some 1) else (some 0))))))
theorem cmp_Compare_int.calls (a0 : Int) (a1 : Int) (r : Int) (w : World) (h : cmp_Compare_int.f a0 a1 = some r) :
    Calls Try.prog 71 #[.int .i64 a0, .int .i64 a1] w fun e w' => e = .returned (.int .i64 r) ∧ Drawn0 w w' := by
 have H : ((cmp_isNaN_int.f a0).bind fun t231 => ((cmp_isNaN_int.f a1).bind fun t232 => (if t231 = true then (if t232 = true then (some 0) else (some (-1))) else (if t232 = true then (some 1) else (if a0 < a1 then (some (-1)) else (if a0 > a1 then (some 1) else (some 0))))))) = some r := h
 clear h; obtain ⟨t231, A3, H⟩ := xH H
 (try dsimp only at H); obtain ⟨t232, A4, H⟩ := xH H
 (try dsimp only at H)
 by_cases c5 : t231 = true
 ·subst c5
  rw [if_pos rfl] at H
  by_cases c6 : t232 = true
  ·subst c6
   rw [if_pos rfl] at H
   obtain rfl := Option.some.inj H
   go_enter Try.func71, Try.ntmps71
   go_wp2_with (first | ((with_reducible refine gate_callee (f := 84) rfl ?_); refine xL (some 8) Try.func84 #[.int .i64 a0] rfl ?_; (with_reducible refine (cmp_isNaN_int.calls a0 true _ A3.out).mono ?_); rintro e w' ⟨rfl, ⟨nd, rfl⟩⟩; refine ⟨_, rfl, ?_⟩) | ((with_reducible refine gate_callee (f := 84) rfl ?_); refine xL (some 10) Try.func84 #[.int .i64 a1] rfl ?_; (with_reducible refine (cmp_isNaN_int.calls a1 true _ A4.out).mono ?_); rintro e w' ⟨rfl, ⟨nd, rfl⟩⟩; refine ⟨_, rfl, ?_⟩))
   go_ret
   exact ⟨xrf, by repeat (first | exact Drawn0.refl _ | apply Drawn0.step)⟩
  ·obtain rfl := Bool.eq_false_iff.mpr c6
   rw [if_neg xF] at H
   obtain rfl := Option.some.inj H
   go_enter Try.func71, Try.ntmps71
   go_wp2_with (first | ((with_reducible refine gate_callee (f := 84) rfl ?_); refine xL (some 8) Try.func84 #[.int .i64 a0] rfl ?_; (with_reducible refine (cmp_isNaN_int.calls a0 true _ A3.out).mono ?_); rintro e w' ⟨rfl, ⟨nd, rfl⟩⟩; refine ⟨_, rfl, ?_⟩) | ((with_reducible refine gate_callee (f := 84) rfl ?_); refine xL (some 10) Try.func84 #[.int .i64 a1] rfl ?_; (with_reducible refine (cmp_isNaN_int.calls a1 false _ A4.out).mono ?_); rintro e w' ⟨rfl, ⟨nd, rfl⟩⟩; refine ⟨_, rfl, ?_⟩))
   go_ret
   exact ⟨xrf, by repeat (first | exact Drawn0.refl _ | apply Drawn0.step)⟩
 ·obtain rfl := Bool.eq_false_iff.mpr c5
  rw [if_neg xF] at H
  by_cases c7 : t232 = true
  ·subst c7
   rw [if_pos rfl] at H
   obtain rfl := Option.some.inj H
   go_enter Try.func71, Try.ntmps71
   go_wp2_with (first | ((with_reducible refine gate_callee (f := 84) rfl ?_); refine xL (some 8) Try.func84 #[.int .i64 a0] rfl ?_; (with_reducible refine (cmp_isNaN_int.calls a0 false _ A3.out).mono ?_); rintro e w' ⟨rfl, ⟨nd, rfl⟩⟩; refine ⟨_, rfl, ?_⟩) | ((with_reducible refine gate_callee (f := 84) rfl ?_); refine xL (some 10) Try.func84 #[.int .i64 a1] rfl ?_; (with_reducible refine (cmp_isNaN_int.calls a1 true _ A4.out).mono ?_); rintro e w' ⟨rfl, ⟨nd, rfl⟩⟩; refine ⟨_, rfl, ?_⟩))
   go_ret
   exact ⟨xrf, by repeat (first | exact Drawn0.refl _ | apply Drawn0.step)⟩
  ·obtain rfl := Bool.eq_false_iff.mpr c7
   rw [if_neg xF] at H
   by_cases c8 : a0 < a1
   ·rw [if_pos c8] at H
    have c8b0 := decide_eq_true c8
    clear c8
    obtain rfl := Option.some.inj H
    go_enter Try.func71, Try.ntmps71
    go_wp2_with (first | ((with_reducible refine gate_callee (f := 84) rfl ?_); refine xL (some 8) Try.func84 #[.int .i64 a0] rfl ?_; (with_reducible refine (cmp_isNaN_int.calls a0 false _ A3.out).mono ?_); rintro e w' ⟨rfl, ⟨nd, rfl⟩⟩; refine ⟨_, rfl, ?_⟩) | ((with_reducible refine gate_callee (f := 84) rfl ?_); refine xL (some 10) Try.func84 #[.int .i64 a1] rfl ?_; (with_reducible refine (cmp_isNaN_int.calls a1 false _ A4.out).mono ?_); rintro e w' ⟨rfl, ⟨nd, rfl⟩⟩; refine ⟨_, rfl, ?_⟩))
    go_ret
    exact ⟨xrf, by repeat (first | exact Drawn0.refl _ | apply Drawn0.step)⟩
   ·rw [if_neg c8] at H
    have c8b0 := decide_eq_false c8
    clear c8
    by_cases c9 : a0 > a1
    ·rw [if_pos c9] at H
     have c9b0 := decide_eq_true c9
     clear c9
     obtain rfl := Option.some.inj H
     go_enter Try.func71, Try.ntmps71
     go_wp2_with (first | ((with_reducible refine gate_callee (f := 84) rfl ?_); refine xL (some 8) Try.func84 #[.int .i64 a0] rfl ?_; (with_reducible refine (cmp_isNaN_int.calls a0 false _ A3.out).mono ?_); rintro e w' ⟨rfl, ⟨nd, rfl⟩⟩; refine ⟨_, rfl, ?_⟩) | ((with_reducible refine gate_callee (f := 84) rfl ?_); refine xL (some 10) Try.func84 #[.int .i64 a1] rfl ?_; (with_reducible refine (cmp_isNaN_int.calls a1 false _ A4.out).mono ?_); rintro e w' ⟨rfl, ⟨nd, rfl⟩⟩; refine ⟨_, rfl, ?_⟩))
     go_ret
     exact ⟨xrf, by repeat (first | exact Drawn0.refl _ | apply Drawn0.step)⟩
    ·rw [if_neg c9] at H
     have c9b0 := decide_eq_false c9
     clear c9
     obtain rfl := Option.some.inj H
     go_enter Try.func71, Try.ntmps71
     go_wp2_with (first | ((with_reducible refine gate_callee (f := 84) rfl ?_); refine xL (some 8) Try.func84 #[.int .i64 a0] rfl ?_; (with_reducible refine (cmp_isNaN_int.calls a0 false _ A3.out).mono ?_); rintro e w' ⟨rfl, ⟨nd, rfl⟩⟩; refine ⟨_, rfl, ?_⟩) | ((with_reducible refine gate_callee (f := 84) rfl ?_); refine xL (some 10) Try.func84 #[.int .i64 a1] rfl ?_; (with_reducible refine (cmp_isNaN_int.calls a1 false _ A4.out).mono ?_); rintro e w' ⟨rfl, ⟨nd, rfl⟩⟩; refine ⟨_, rfl, ?_⟩))
     go_ret
     exact ⟨xrf, by repeat (first | exact Drawn0.refl _ | apply Drawn0.step)⟩

/-! ### moves_compare: function 57 -/
def moves_compare.f (k : Nat) (a0_0 : Int) (a0_1 : Int) (a0_2 : Int) (a1_0 : Int) (a1_1 : Int) (a1_2 : Int) : Option (Int) := (cmp_Compare_int.f a0_0 a1_0).bind fun t235 => ((cmp_Compare_int.f a0_1 a1_1).bind fun t236 => ((cmp_Compare_int.f a0_2 a1_2).bind fun t237 => ((cmp_Or_int.f k (([t235, t236, t237] : List Int))).bind fun t241 => (some t241))))
theorem moves_compare.mono : ∀ a0 a1 a2 a3 a4 a5 k, LeO (moves_compare.f k a0 a1 a2 a3 a4 a5) (moves_compare.f (k + 1) a0 a1 a2 a3 a4 a5) := by
  intros; rename_i k
  unfold moves_compare.f
  repeat' first | (with_reducible first | apply cmp_Or_int.mono | exact LeO.refl _ | exact LeO.none _ | refine LeO.ite ?_ ?_ | refine LeO.bind ?_ (fun _ => ?_)) | apply cmp_Or_int.mono | exact LeO.none _ | refine LeO.ite ?_ ?_ | refine LeO.bind ?_ (fun _ => ?_)
def moves_compare.T1 : Bool × List (List Nat × List Nat) := (true, [([], []), ([0], [0]), ([], []), ([2], [2]), ([1, 3], [1, 3]), ([], []), ([5], [5]), ([], []), ([7], [7]), ([6, 8, 4], [6, 8]), ([], []), ([10], [10]), ([], []), ([12], [12]), ([11, 13, 9], [11, 13]), ([4, 9, 14], [4, 9, 14]), ([15, 14], [15]), ([16, 16, 0, 1, 2, 3, 4, 5, 6, 7, 8, 9, 10, 11, 12, 13, 14, 15, 16], [16])])
def moves_compare.B1 : List Nat := [0, 1, 0, 4, 15, 0, 32, 0, 128, 511, 0, 1024, 0, 4096, 16383, 32767, 65535, 131071]
theorem moves_compare.tab1 : rtab .any (opsOf Try.f57 1) = moves_compare.T1 := by kernel_rfl
theorem moves_compare.bits1 : waitsOk moves_compare.T1.2 moves_compare.B1 = true := by kernel_rfl
theorem moves_compare.calls (k : Nat) (a0_0 : Int) (a0_1 : Int) (a0_2 : Int) (a1_0 : Int) (a1_1 : Int) (a1_2 : Int) (r : Int) (w : World) (h : moves_compare.f k a0_0 a0_1 a0_2 a1_0 a1_1 a1_2 = some r) :
    Calls Try.prog 57 #[.agg #[.int .i64 a0_0, .int .i64 a0_1, .int .i64 a0_2], .agg #[.int .i64 a1_0, .int .i64 a1_1, .int .i64 a1_2]] w fun e w' => e = .returned (.int .i64 r) ∧ Below w.heap.size w w' := by
 have hu39 := Try.underlying39; have HB := xm (Below.refl w.heap.size w); have hss_ := @isSome_setCell
 have H : ((cmp_Compare_int.f a0_0 a1_0).bind fun t235 => ((cmp_Compare_int.f a0_1 a1_1).bind fun t236 => ((cmp_Compare_int.f a0_2 a1_2).bind fun t237 => ((cmp_Or_int.f k (([t235, t236, t237] : List Int))).bind fun t241 => (some t241))))) = some r := h
 clear h; obtain ⟨t235, A3, H⟩ := xH H
 (try dsimp only at H); obtain ⟨t236, A4, H⟩ := xH H
 (try dsimp only at H); replace H := Option.bind_eq_some_iff.mp H
 obtain ⟨t237, A50, H⟩ := H
 replace H : ((cmp_Or_int.f k (([t235, t236, t237] : List Int))).bind fun t241 => (some t241)) = some r := H
 have A5 := xm A50; clear A50
 obtain ⟨y238, hy238⟩ : ∃ y_ : List Int, y_ = (([t235, t236, t237] : List Int)) := ⟨_, rfl⟩
 replace H : ((cmp_Or_int.f k y238).bind fun t241 => (some t241)) = some r := by first | (rw [hy238]; with_reducible exact H) | (have H2_ := (Option.bind_some _ _).symm.trans H; rw [hy238]; with_reducible exact H2_) | (have H2_ := (Option.bind_some _ _).symm.trans H; with_reducible exact H2_) | with_reducible exact H | (rw [hy238]; exact H) | exact H
 have Ny238 := xm hy238; clear hy238; replace H := Option.bind_eq_some_iff.mp H
 obtain ⟨t241, A60, H⟩ := H
 replace H : (some t241) = some r := H
 have A6 := xm A60; clear A60
 obtain rfl := Option.some.inj H
 go_enter Try.func57, Try.ntmps57
 try go_wp2_with (first | ((with_reducible refine gate_dst (N := 2) rfl ?_); refine xG (cs := #[.int .i64 a0_0, .int .i64 a0_1, .int .i64 a0_2]) (t := 39) ?_; intro gb233 hg w7 hbox hb; have BK233 := xm (hbox); have GW233 := xm (xZ HB hg); have GE233 := xm (xZ HB hg); replace HB := xm (xS HB hb); clear hb hbox hg) | ((with_reducible refine gate_dst (N := 3) rfl ?_); refine xG (cs := #[.int .i64 a1_0, .int .i64 a1_1, .int .i64 a1_2]) (t := 39) ?_; intro gb234 hg w8 hbox hb; have BK234 := xm (hbox); have GW234 := xm (xZ HB hg); have GE234 := xm (xZ HB hg); have NB233_234 := xm (xN BK233 hg); have NB234_233 := xm (xM BK233 hg); replace BK233 := xm (xB BK233 hb); replace HB := xm (xS HB hb); clear hb hbox hg))
 replace BK233 := xm (blk_drew BK233.out); replace BK234 := xm (blk_drew BK234.out); replace HB := xm (below_drew1 HB.out)
 refine start_ (n := 18) (S := fun w' => ce w' gb233 0 (.int .i64 a0_0) ∧ ce w' gb233 1 (.int .i64 a0_1) ∧ ce w' gb233 2 (.int .i64 a0_2) ∧ ce w' gb234 0 (.int .i64 a1_0) ∧ ce w' gb234 1 (.int .i64 a1_1) ∧ ce w' gb234 2 (.int .i64 a1_2)) (ds := []) (mk 18 0) (by kernel_rfl) rfl rfl ⟨xc BK233 0, xc BK233 1, xc BK233 2, xc BK234 0, xc BK234 1, xc BK234 2⟩ (fun hHeld => ?_); refine with_tabW moves_compare.tab1 moves_compare.bits1 (fun HT_ HW_ => ?_)
 generalize w8.drew = w9 at BK233 BK234 HB hHeld ⊢; refine pu_ 0 5 HT_ ?_; refine pu_ 2 7 HT_ ?_; refine pu_ 5 10 HT_ ?_; refine pu_ 7 12 HT_ ?_; refine pu_ 10 15 HT_ ?_; refine pu_ 12 17 HT_ ?_; refine tk_ 1 6 HT_ HW_ hHeld ?_; refine tk_ 3 8 HT_ HW_ hHeld ?_; refine tk_ 6 11 HT_ HW_ hHeld ?_; refine tk_ 8 13 HT_ HW_ hHeld ?_; refine tk_ 11 16 HT_ HW_ hHeld ?_; refine tk_ 13 18 HT_ HW_ hHeld ?_
 refine one_ (i := 4) (N := some 9) #[true, true, true, true, true, true, true, true, true, false, true, true, true, true, false, false, false, false] rfl rfl (one_of HT_.out (by kernel_rfl)) (by decide) (fun K hK => ?_)
 refine goes_ Try.func71 (by kernel_rfl) rfl #[.int .i64 a0_0, .int .i64 a1_0] (by rfl) rfl rfl (by (try simp only [List.map_toArray, List.map_cons, List.map_nil]); first | done | rfl | (simp only [List.length_drop, List.length_take]; rfl)) ?_
 with_reducible refine (cmp_Compare_int.calls a0_0 a1_0 t235 _ A3.out).mono ?_
 rintro e w' ⟨rfl, ⟨nd, rfl⟩⟩
 refine ⟨_, rfl, ?_⟩
 refine hK.out _ _ ⟨(blk_cell BK233.out 0).trans rfl, (blk_cell BK233.out 1).trans rfl, (blk_cell BK233.out 2).trans rfl, (blk_cell BK234.out 0).trans rfl, (blk_cell BK234.out 1).trans rfl, (blk_cell BK234.out 2).trans rfl⟩ (fun hHeld => ?_)
 clear hK K
 refine norm_ (a' := ?_) ?_ ?_
 rotate_left
 ·show Act.put _ (some 9) _ = _
  simp only [Act.put, List.setIfInBounds_toArray, List.set_cons_zero, List.set_cons_succ, i64_w, i32_w]
  rfl
 refine one_ (i := 9) (N := some 14) #[true, true, true, true, true, true, true, true, true, true, true, true, true, true, false, false, false, false] rfl rfl (one_of HT_.out (by kernel_rfl)) (by decide) (fun K hK => ?_)
 refine goes_ Try.func71 (by kernel_rfl) rfl #[.int .i64 a0_1, .int .i64 a1_1] (by rfl) rfl rfl (by (try simp only [List.map_toArray, List.map_cons, List.map_nil]); first | done | rfl | (simp only [List.length_drop, List.length_take]; rfl)) ?_
 with_reducible refine (cmp_Compare_int.calls a0_1 a1_1 t236 _ A4.out).mono ?_
 rintro e w' ⟨rfl, ⟨nd, rfl⟩⟩
 refine ⟨_, rfl, ?_⟩
 refine hK.out _ _ ⟨(blk_cell BK233.out 0).trans rfl, (blk_cell BK233.out 1).trans rfl, (blk_cell BK233.out 2).trans rfl, (blk_cell BK234.out 0).trans rfl, (blk_cell BK234.out 1).trans rfl, (blk_cell BK234.out 2).trans rfl⟩ (fun hHeld => ?_)
 clear hK K
 refine norm_ (a' := ?_) ?_ ?_
 rotate_left
 ·show Act.put _ (some 14) _ = _
  simp only [Act.put, List.setIfInBounds_toArray, List.set_cons_zero, List.set_cons_succ, i64_w, i32_w]
  rfl
 refine one_ (i := 14) (N := some 19) #[true, true, true, true, true, true, true, true, true, true, true, true, true, true, true, false, false, false] rfl rfl (one_of HT_.out (by kernel_rfl)) (by decide) (fun K hK => ?_)
 refine goes_ Try.func71 (by kernel_rfl) rfl #[.int .i64 a0_2, .int .i64 a1_2] (by rfl) rfl rfl (by (try simp only [List.map_toArray, List.map_cons, List.map_nil]); first | done | rfl | (simp only [List.length_drop, List.length_take]; rfl)) ?_
 with_reducible refine (cmp_Compare_int.calls a0_2 a1_2 t237 _ A5.out).mono ?_
 rintro e w' ⟨rfl, ⟨nd, rfl⟩⟩
 refine ⟨_, rfl, ?_⟩
 refine hK.out _ _ ⟨(blk_cell BK233.out 0).trans rfl, (blk_cell BK233.out 1).trans rfl, (blk_cell BK233.out 2).trans rfl, (blk_cell BK234.out 0).trans rfl, (blk_cell BK234.out 1).trans rfl, (blk_cell BK234.out 2).trans rfl⟩ (fun hHeld => ?_)
 clear hK K
 refine norm_ (a' := ?_) ?_ ?_
 rotate_left
 ·show Act.put _ (some 19) _ = _
  simp only [Act.put, List.setIfInBounds_toArray, List.set_cons_zero, List.set_cons_succ, i64_w, i32_w]
  rfl
 refine one_ (i := 15) (N := some 20) #[true, true, true, true, true, true, true, true, true, true, true, true, true, true, true, true, false, false] rfl rfl (one_of HT_.out (by kernel_rfl)) (by decide) (fun K hK => ?_)
 refine Kd.R_lit_step (Kd.int .i64) _ 3 ?hg (N := 20) ?hd (xs := ([t235, t236, t237] : List Int)) (inner := [.int .i64 t235, .int .i64 t236, .int .i64 t237]) (ok := fun _ => True) (okp := fun _ => True) ?hr ?hp (fun _ hk => hk) trivial (Below.refl _ _) (Nat.le_refl _) (by simp) ?_; (case hd => rfl); (case hg => rfl); (case hr => first | (go_simp; done) | (go_simp; rfl)); (case hp => exact (Reps.one (show Kd.M (Kd.int .i64) _ _ _ t235 [.int .i64 t235] from rfl) (Reps.one (show Kd.M (Kd.int .i64) _ _ _ t236 [.int .i64 t236] from rfl) (Reps.one (show Kd.M (Kd.int .i64) _ _ _ t237 [.int .i64 t237] from rfl) (Reps.none _ _)))))
 intro v239 w10 ho11 hb hg_ hnew_
 clear hg_ hnew_
 (first | rw [← Ny238.out] at ho11 | (simp only [Int.reduceToNat] at ho11; rw [← Ny238.out] at ho11))
 have HO240 := xm (Kd.R_lower ho11 (below_size (xW HB))); replace BK233 := xm (xB BK233 hb); replace BK234 := xm (xB BK234 hb); replace HB := xm (xS HB hb); clear hb ho11
 obtain ⟨Ao12, co12, eo12⟩ := Kd.R_slice HO240.out
 (first | subst eo12 | (injection eo12 with f1_ f2_ f3_; have f4_ := f1_.symm; have f5_ := f3_.symm; clear f1_ f2_ f3_; subst f4_; subst f5_))
 refine hK.out _ _ ⟨(blk_cell BK233.out 0).trans rfl, (blk_cell BK233.out 1).trans rfl, (blk_cell BK233.out 2).trans rfl, (blk_cell BK234.out 0).trans rfl, (blk_cell BK234.out 1).trans rfl, (blk_cell BK234.out 2).trans rfl⟩ (fun hHeld => ?_)
 clear hK K
 refine norm_ (a' := ?_) ?_ ?_
 rotate_left
 ·show Act.put _ (some 20) _ = _
  simp only [Act.put, List.setIfInBounds_toArray, List.set_cons_zero, List.set_cons_succ, i64_w, i32_w]
  rfl
 refine one_ (i := 16) (N := some 21) #[true, true, true, true, true, true, true, true, true, true, true, true, true, true, true, true, true, false] rfl rfl (one_of HT_.out (by kernel_rfl)) (by decide) (fun K hK => ?_)
 refine goes_ Try.func70 (by kernel_rfl) rfl #[.slice Ao12 y238.length co12] (by rfl) rfl rfl (by (try simp only [List.map_toArray, List.map_cons, List.map_nil]); first | done | rfl | (simp only [List.length_drop, List.length_take]; rfl)) ?_
 with_reducible refine (cmp_Or_int.calls k _ _ y238 t241 _ ?side1 ?side2 A6.out).mono ?_
 (case side1 => repeat (first | exact (Kd.R_reads' HO240.out).2.2 | (with_reducible refine Kd.C_alloc ?_ _) | (with_reducible refine Kd.C_drewN ?_ _) | (with_reducible refine Kd.C_drew ?_)))
 (case side2 => exact (Kd.R_reads' HO240.out).2.1)
 rintro e w' ⟨rfl, ⟨nd, rfl⟩⟩
 refine ⟨_, rfl, ?_⟩
 refine hK.out _ _ ⟨(blk_cell BK233.out 0).trans rfl, (blk_cell BK233.out 1).trans rfl, (blk_cell BK233.out 2).trans rfl, (blk_cell BK234.out 0).trans rfl, (blk_cell BK234.out 1).trans rfl, (blk_cell BK234.out 2).trans rfl⟩ (fun hHeld => ?_)
 clear hK K
 refine norm_ (a' := ?_) ?_ ?_
 rotate_left
 ·show Act.put _ (some 21) _ = _
  simp only [Act.put, List.setIfInBounds_toArray, List.set_cons_zero, List.set_cons_succ, i64_w, i32_w]
  rfl
 refine pu_ 17 4 HT_ ?_
 refine done_ (done_of HT_.out (by kernel_rfl)) ?_
 try go_wp2
 go_ret
 exact ⟨xer, xW HB⟩

end Go.Proofs.Ytloadbbndnmdlaa.PZobKeys
