-- Printed by a program of this claim's writer (wip/ext): an extension of the kit's print.
import Derived.Test.YtloadbbndnmdlaaPEndsOfx0
import Derived.Test.YtloadbbndnmdlaaPEndsOfx4
namespace Go.Proofs.Ytloadbbndnmdlaa.PEndsOf
open Go.RowKit Go.Proofs.YtloadbbndnmdlaaW.PrintWords Go.Proofs.YtloadbbndnmdlaaW.PrintLast Go.Proofs.YtloadbbndnmdlaaW.PrintMore
set_option maxHeartbeats 8000000
set_option maxRecDepth 100000
attribute [local go_sem] max2_int min2_int max_two min_two max_three min_three max_four min_four   -- for this text's walks alone
set_option linter.unusedVariables false
set_option linter.unusedSimpArgs false

/-! ### moves_along: function 55 -/
mutual
def moves_along.j0 : Nat → List (S39) → Int → Int → Int → ByteArray → Int → Int → List (S62) → List Int → Bool → Bool → List (S64) → Int → Int → Int → List Int → List Int → List Int → Int → Int → Int → Int → Int → Int → Option ((List (S39)))
  | 0, _, _, _, _, _, _, _, _, _, _, _, _, _, _, _, _, _, _, _, _, _, _, _, _ => none
  | k + 1, x0, x3, x11, x12, z135a, z135b, z135c, z135d, z135e, z135f, z135g, z135h, z135i, z135j, z135k, z136a, z136b, z136c, z136d, z136e, z137a, z137b, z137c, z137d => if z135b = 0 then (none) else (moves_along.l0 k x0 x3 x11 x12 (Int.tmod x3 z135b) (wrap64 (Int.tdiv x3 z135b)) z137c 0 z135a z135b z135c z135d z135e z135f z135g z135h z135i z135j z135k z136a z136b z136c z136d z136e z137a z137b z137c z137d)
def moves_along.l0 : Nat → List (S39) → Int → Int → Int → Int → Int → Int → Int → ByteArray → Int → Int → List (S62) → List Int → Bool → Bool → List (S64) → Int → Int → Int → List Int → List Int → List Int → Int → Int → Int → Int → Int → Int → Option ((List (S39)))
  | 0, _, _, _, _, _, _, _, _, _, _, _, _, _, _, _, _, _, _, _, _, _, _, _, _, _, _, _, _ => none
  | k + 1, x0, x3, x11, x12, x13, x14, x39, x40, z135a, z135b, z135c, z135d, z135e, z135f, z135g, z135h, z135i, z135j, z135k, z136a, z136b, z136c, z136d, z136e, z137a, z137b, z137c, z137d => if x40 < x39 then (if (wrap64 (x13 + z137a)) < 0 then (moves_along.j2 k x0 x3 x11 x12 (wrap64 (x13 + z137a)) (wrap64 (x14 + x12)) x39 x40 true z135a z135b z135c z135d z135e z135f z135g z135h z135i z135j z135k z136a z136b z136c z136d z136e z137a z137b z137c z137d) else (if (wrap64 (x13 + z137a)) ≥ z135b then (moves_along.j2 k x0 x3 x11 x12 (wrap64 (x13 + z137a)) (wrap64 (x14 + x12)) x39 x40 true z135a z135b z135c z135d z135e z135f z135g z135h z135i z135j z135k z136a z136b z136c z136d z136e z137a z137b z137c z137d) else (if (wrap64 (x14 + x12)) < 0 then (moves_along.j2 k x0 x3 x11 x12 (wrap64 (x13 + z137a)) (wrap64 (x14 + x12)) x39 x40 true z135a z135b z135c z135d z135e z135f z135g z135h z135i z135j z135k z136a z136b z136c z136d z136e z137a z137b z137c z137d) else (moves_along.j2 k x0 x3 x11 x12 (wrap64 (x13 + z137a)) (wrap64 (x14 + x12)) x39 x40 (decide ((wrap64 (x14 + x12)) ≥ z135c)) z135a z135b z135c z135d z135e z135f z135g z135h z135i z135j z135k z136a z136b z136c z136d z136e z137a z137b z137c z137d)))) else (some x0)
def moves_along.j2 : Nat → List (S39) → Int → Int → Int → Int → Int → Int → Int → Bool → ByteArray → Int → Int → List (S62) → List Int → Bool → Bool → List (S64) → Int → Int → Int → List Int → List Int → List Int → Int → Int → Int → Int → Int → Int → Option ((List (S39)))
  | 0, _, _, _, _, _, _, _, _, _, _, _, _, _, _, _, _, _, _, _, _, _, _, _, _, _, _, _, _, _ => none
  | k + 1, x0, x3, x11, x12, x13, x14, x39, x40, x66, z135a, z135b, z135c, z135d, z135e, z135f, z135g, z135h, z135i, z135j, z135k, z136a, z136b, z136c, z136d, z136e, z137a, z137b, z137c, z137d => if x66 = true then (some x0) else (if 0 ≤ (wrap64 ((wrap64 (x14 * z135b)) + x13)) then (if (wrap64 ((wrap64 (x14 * z135b)) + x13)) < (z136a.length : Int) then ((moves_Owner.f (rd z136a (wrap64 ((wrap64 (x14 * z135b)) + x13)))).bind fun t140 => (if t140 < 0 then (if z137d = 2 then (if t140 = (wrap64 (1 - z136d)) then (moves_along.j3 k x0 x3 x11 x12 x13 x14 (wrap64 ((wrap64 (x14 * z135b)) + x13)) t140 x39 x40 (z137d != 0) z135a z135b z135c z135d z135e z135f z135g z135h z135i z135j z135k z136a z136b z136c z136d z136e z137a z137b z137c z137d) else (moves_along.j3 k x0 x3 x11 x12 x13 x14 (wrap64 ((wrap64 (x14 * z135b)) + x13)) t140 x39 x40 false z135a z135b z135c z135d z135e z135f z135g z135h z135i z135j z135k z136a z136b z136c z136d z136e z137a z137b z137c z137d)) else (moves_along.j3 k x0 x3 x11 x12 x13 x14 (wrap64 ((wrap64 (x14 * z135b)) + x13)) t140 x39 x40 true z135a z135b z135c z135d z135e z135f z135g z135h z135i z135j z135k z136a z136b z136c z136d z136e z137a z137b z137c z137d)) else (if t140 = (wrap64 (1 - z136d)) then (moves_along.j3 k x0 x3 x11 x12 x13 x14 (wrap64 ((wrap64 (x14 * z135b)) + x13)) t140 x39 x40 (z137d != 0) z135a z135b z135c z135d z135e z135f z135g z135h z135i z135j z135k z136a z136b z136c z136d z136e z137a z137b z137c z137d) else (moves_along.j3 k x0 x3 x11 x12 x13 x14 (wrap64 ((wrap64 (x14 * z135b)) + x13)) t140 x39 x40 false z135a z135b z135c z135d z135e z135f z135g z135h z135i z135j z135k z136a z136b z136c z136d z136e z137a z137b z137c z137d)))) else (none)) else (none))
def moves_along.j3 : Nat → List (S39) → Int → Int → Int → Int → Int → Int → Int → Int → Int → Bool → ByteArray → Int → Int → List (S62) → List Int → Bool → Bool → List (S64) → Int → Int → Int → List Int → List Int → List Int → Int → Int → Int → Int → Int → Int → Option ((List (S39)))
  | 0, _, _, _, _, _, _, _, _, _, _, _, _, _, _, _, _, _, _, _, _, _, _, _, _, _, _, _, _, _, _, _ => none
  | k + 1, x0, x3, x11, x12, x13, x14, x15, x16, x39, x40, x98, z135a, z135b, z135c, z135d, z135e, z135f, z135g, z135h, z135i, z135j, z135k, z136a, z136b, z136c, z136d, z136e, z137a, z137b, z137c, z137d => if x98 = true then ((moves_arrives.f z135a z135b z135c z135d z135e z135f z135g z135h z135i z135j z135k z136d x11 x15).bind fun t141 => (if x0.length < 5864062014805 then ((some (x0 ++ [(⟨x3, x15, t141⟩ : S39)] : List (S39))).bind fun y142 => (if x16 ≥ 0 then (some y142) else (moves_along.l0 k y142 x3 x11 x12 x13 x14 x39 (wrap64 (x40 + 1)) z135a z135b z135c z135d z135e z135f z135g z135h z135i z135j z135k z136a z136b z136c z136d z136e z137a z137b z137c z137d))) else (none))) else (if x16 ≥ 0 then (some x0) else (moves_along.l0 k x0 x3 x11 x12 x13 x14 x39 (wrap64 (x40 + 1)) z135a z135b z135c z135d z135e z135f z135g z135h z135i z135j z135k z136a z136b z136c z136d z136e z137a z137b z137c z137d))
end
def moves_along.f (k : Nat) (l0 : List (S39)) (a1_0 : ByteArray) (a1_1 : Int) (a1_2 : Int) (l1_3 : List (S62)) (l1_4 : List Int) (a1_5 : Bool) (a1_6 : Bool) (l1_7 : List (S64)) (a1_8 : Int) (a1_9 : Int) (a1_10 : Int) (l2_0 : List Int) (l2_1 : List Int) (l2_2 : List Int) (a2_3 : Int) (a2_4 : Int) (a3 : Int) (a4_0 : Int) (a4_1 : Int) (a4_2 : Int) (a4_3 : Int) : Option ((List (S39))) := if 0 ≤ a3 then (if a3 < (l2_0.length : Int) then ((moves_Kind.f (rd l2_0 a3)).bind fun t138 => (if a2_3 = 1 then (moves_along.j0 k l0 a3 t138 (wrap64 (-a4_1)) a1_0 a1_1 a1_2 l1_3 l1_4 a1_5 a1_6 l1_7 a1_8 a1_9 a1_10 l2_0 l2_1 l2_2 a2_3 a2_4 a4_0 a4_1 a4_2 a4_3) else (moves_along.j0 k l0 a3 t138 a4_1 a1_0 a1_1 a1_2 l1_3 l1_4 a1_5 a1_6 l1_7 a1_8 a1_9 a1_10 l2_0 l2_1 l2_2 a2_3 a2_4 a4_0 a4_1 a4_2 a4_3))) else (none)) else (none)
theorem moves_along.mono_l : ∀ k, L10 (L10 (LM (LM (LM (LM (LeO)))))) (moves_along.j0 k) (moves_along.j0 (k + 1)) ∧ L10 (L10 (L5 (LM (LM (LM (LeO)))))) (moves_along.l0 k) (moves_along.l0 (k + 1)) ∧ L10 (L10 (L5 (LM (LM (LM (LM (LeO))))))) (moves_along.j2 k) (moves_along.j2 (k + 1)) ∧ L10 (L10 (L10 (LM (LeO)))) (moves_along.j3 k) (moves_along.j3 (k + 1))
  | 0 => by refine ⟨?_, ?_, ?_, ?_⟩ <;> (repeat (first | exact LeO.none _ | intro _))
  | k + 1 => by
    obtain ⟨ih0, ih1, ih2, ih3⟩ := moves_along.mono_l k
    refine ⟨?_, ?_, ?_, ?_⟩ <;> ((repeat (first | (with_reducible refine LeO.st ?_) | intro _)); constructor; (first | unfold moves_along.j0 | unfold moves_along.l0 | unfold moves_along.j2 | unfold moves_along.j3); repeat' first | (with_reducible first | apply ih0 | apply ih1 | apply ih2 | apply ih3 | exact LeO.refl _ | exact LeO.none _ | refine LeO.ite ?_ ?_ | refine LeO.bind ?_ (fun _ => ?_)) | apply ih0 | apply ih1 | apply ih2 | apply ih3 | exact LeO.none _ | refine LeO.ite ?_ ?_ | refine LeO.bind ?_ (fun _ => ?_))
theorem moves_along.mono : ∀ a0 a1 a2 a3 a4 a5 a6 a7 a8 a9 a10 a11 a12 a13 a14 a15 a16 a17 a18 a19 a20 a21 k, LeO (moves_along.f k a0 a1 a2 a3 a4 a5 a6 a7 a8 a9 a10 a11 a12 a13 a14 a15 a16 a17 a18 a19 a20 a21) (moves_along.f (k + 1) a0 a1 a2 a3 a4 a5 a6 a7 a8 a9 a10 a11 a12 a13 a14 a15 a16 a17 a18 a19 a20 a21) := by
  intros; rename_i k
  obtain ⟨ih0, ih1, ih2, ih3⟩ := moves_along.mono_l k
  unfold moves_along.f
  repeat' first | (with_reducible first | apply ih0 | apply ih1 | apply ih2 | apply ih3 | exact LeO.refl _ | exact LeO.none _ | refine LeO.ite ?_ ?_ | refine LeO.bind ?_ (fun _ => ?_)) | apply ih0 | apply ih1 | apply ih2 | apply ih3 | exact LeO.none _ | refine LeO.ite ?_ ?_ | refine LeO.bind ?_ (fun _ => ?_)
theorem moves_along.calls (k : Nat) (P0_ : Nat → Prop) (u9000_ : Value) (l0 : List (S39)) (a1_0 : ByteArray) (a1_1 : Int) (a1_2 : Int) (A1_3 : Option Addr) (c1_3 : Nat) (l1_3 : List (S62)) (A1_4 : Option Addr) (c1_4 : Nat) (l1_4 : List Int) (a1_5 : Bool) (a1_6 : Bool) (A1_7 : Option Addr) (c1_7 : Nat) (l1_7 : List (S64)) (a1_8 : Int) (a1_9 : Int) (a1_10 : Int) (A2_0 : Option Addr) (c2_0 : Nat) (l2_0 : List Int) (A2_1 : Option Addr) (c2_1 : Nat) (l2_1 : List Int) (A2_2 : Option Addr) (c2_2 : Nat) (l2_2 : List Int) (a2_3 : Int) (a2_4 : Int) (a3 : Int) (a4_0 : Int) (a4_1 : Int) (a4_2 : Int) (a4_3 : Int) (r : List (S39)) (w0 w : World) (hB : Below w0.heap.size w0 w) (ho0 : Kd.R k39 39 w w0.heap.size P0_ u9000_ l0) (hr1_3 : ∀ W_, Kept w W_ (fun k_ => P0_ k_) → Kd.C k62 W_ A1_3 l1_3.length l1_3) (hc1_3 : l1_3.length ≤ c1_3) (hr1_4 : ∀ W_, Kept w W_ (fun k_ => P0_ k_) → Kd.C (Kd.int .i64) W_ A1_4 l1_4.length l1_4) (hc1_4 : l1_4.length ≤ c1_4) (hr1_7 : ∀ W_, Kept w W_ (fun k_ => P0_ k_) → Kd.C k64 W_ A1_7 l1_7.length l1_7) (hc1_7 : l1_7.length ≤ c1_7) (hr2_0 : ∀ W_, Kept w W_ (fun k_ => P0_ k_) → Kd.C (Kd.int .i64) W_ A2_0 l2_0.length l2_0) (hc2_0 : l2_0.length ≤ c2_0) (hr2_1 : ∀ W_, Kept w W_ (fun k_ => P0_ k_) → Kd.C (Kd.int .i64) W_ A2_1 l2_1.length l2_1) (hc2_1 : l2_1.length ≤ c2_1) (hr2_2 : ∀ W_, Kept w W_ (fun k_ => P0_ k_) → Kd.C (Kd.int .i64) W_ A2_2 l2_2.length l2_2) (hc2_2 : l2_2.length ≤ c2_2) (h : moves_along.f k l0 a1_0 a1_1 a1_2 l1_3 l1_4 a1_5 a1_6 l1_7 a1_8 a1_9 a1_10 l2_0 l2_1 l2_2 a2_3 a2_4 a3 a4_0 a4_1 a4_2 a4_3 = some r) :
    Calls Try.prog 55 #[u9000_, .agg #[.string a1_0, .int .i64 a1_1, .int .i64 a1_2, .slice A1_3 l1_3.length c1_3, .slice A1_4 l1_4.length c1_4, .bool a1_5, .bool a1_6, .slice A1_7 l1_7.length c1_7, .int .i64 a1_8, .int .i64 a1_9, .int .i64 a1_10], .agg #[.slice A2_0 l2_0.length c2_0, .slice A2_1 l2_1.length c2_1, .slice A2_2 l2_2.length c2_2, .int .i64 a2_3, .int .i64 a2_4], .int .i64 a3, .agg #[.int .i64 a4_0, .int .i64 a4_1, .int .i64 a4_2, .int .i64 a4_3]] w fun e w' => ∃ v0_ : Value, e = .returned (v0_) ∧ Kd.R k39 39 w' w0.heap.size (fun k_ => (P0_ k_ ∨ w.heap.size ≤ k_)) v0_ r ∧ Below w0.heap.size w0 w' ∧ Kept w w' (fun k_ => P0_ k_) := by
 have hu26 := Try.underlying26; have hu29 := Try.underlying29; have hu74 := Try.underlying74; have hu39 := Try.underlying39
 have HO0 := xm (show Kd.R k39 39 w w0.heap.size (fun k_ => (P0_ k_ ∨ w.heap.size ≤ k_)) u9000_ l0 from Kd.R_mono ho0 (fun k_ hk => (.inl hk)))
 have HR1_3 := xm hr1_3; have HC1_3 := xm hc1_3; clear hr1_3 hc1_3; have HR1_4 := xm hr1_4; have HC1_4 := xm hc1_4; clear hr1_4 hc1_4; have HR1_7 := xm hr1_7; have HC1_7 := xm hc1_7; clear hr1_7 hc1_7; have HR2_0 := xm hr2_0; have HC2_0 := xm hc2_0; clear hr2_0 hc2_0; have HR2_1 := xm hr2_1; have HC2_1 := xm hc2_1; clear hr2_1 hc2_1; have HR2_2 := xm hr2_2; have HC2_2 := xm hc2_2; clear hr2_2 hc2_2
 have HK := xm (Kept.refl w (fun k_ => P0_ k_))
 have HW0 := xm hB.size; have HB := xm hB; clear hB
 have H : (if 0 ≤ a3 then (if a3 < (l2_0.length : Int) then ((moves_Kind.f (rd l2_0 a3)).bind fun t138 => (if a2_3 = 1 then (moves_along.j0 k l0 a3 t138 (wrap64 (-a4_1)) a1_0 a1_1 a1_2 l1_3 l1_4 a1_5 a1_6 l1_7 a1_8 a1_9 a1_10 l2_0 l2_1 l2_2 a2_3 a2_4 a4_0 a4_1 a4_2 a4_3) else (moves_along.j0 k l0 a3 t138 a4_1 a1_0 a1_1 a1_2 l1_3 l1_4 a1_5 a1_6 l1_7 a1_8 a1_9 a1_10 l2_0 l2_1 l2_2 a2_3 a2_4 a4_0 a4_1 a4_2 a4_3))) else (none)) else (none)) = some r := h
 clear h
 by_cases c6 : 0 ≤ a3
 ·rw [if_pos c6] at H
  have c6b0 := decide_eq_true c6
  clear c6
  by_cases c7 : a3 < (l2_0.length : Int)
  ·rw [if_pos c7] at H
   have c7b0 := decide_eq_true c7
   clear c7; replace H := Option.bind_eq_some_iff.mp H
   obtain ⟨t138, A80, H⟩ := H
   try dsimp only at H
   have A8 := xm A80; clear A80; have HC9 := xm H; clear H
   go_enter Try.func55, Try.ntmps55
   go_upto_if 27 with (first | ((with_reducible refine gate_dst (N := 6) rfl ?_); refine xG (cs := #[.string a1_0, .int .i64 a1_1, .int .i64 a1_2, .slice A1_3 l1_3.length c1_3, .slice A1_4 l1_4.length c1_4, .bool a1_5, .bool a1_6, .slice A1_7 l1_7.length c1_7, .int .i64 a1_8, .int .i64 a1_9, .int .i64 a1_10]) (t := 26) ?_; intro gb134 hg w10 hbox hb; have BK134 := xm (hbox); have GW134 := xm ((by rw [hg]; exact (by first | exact HK.out.1 | exact (show Kept w _ (fun k_ => P0_ k_) from by repeat (first | (with_reducible first | exact HK.out | apply Kept.alloc | apply Kept.drewN | apply Kept.drew) | exact HK.out)).1) : w.heap.size ≤ gb134)); have GE134 := xm ((by rw [hg]; exact (below_size (xW HB)) : w0.heap.size ≤ gb134)); replace HO0 := xm (Kd.R_below (by (with_reducible repeat (first | apply Kd.R_alloc | apply Kd.R_drewN | apply Kd.R_drew)); exact HO0.out) hb); replace HK := xm (Kept.below (S := (fun k_ => P0_ k_)) (by repeat (first | (with_reducible first | exact HK.out | apply Kept.alloc | apply Kept.drewN | apply Kept.drew) | exact HK.out)) hb); replace HB := xm (xS HB hb); clear hb hbox hg) | ((with_reducible refine gate_dst (N := 7) rfl ?_); refine xG (cs := #[.slice A2_0 l2_0.length c2_0, .slice A2_1 l2_1.length c2_1, .slice A2_2 l2_2.length c2_2, .int .i64 a2_3, .int .i64 a2_4]) (t := 29) ?_; intro gb135 hg w11 hbox hb; have BK135 := xm (hbox); have GW135 := xm ((by rw [hg]; exact (by first | exact HK.out.1 | exact (show Kept w _ (fun k_ => P0_ k_) from by repeat (first | (with_reducible first | exact HK.out | apply Kept.alloc | apply Kept.drewN | apply Kept.drew | refine Kept.setCell ?_ (.inr GW134.out) _) | exact HK.out)).1) : w.heap.size ≤ gb135)); have GE135 := xm ((by rw [hg]; exact (below_size (xW HB)) : w0.heap.size ≤ gb135)); have NB134_135 := xm (xN BK134 hg); have NB135_134 := xm (xM BK134 hg); replace HO0 := xm (Kd.R_below (by (with_reducible repeat (first | apply Kd.R_alloc | apply Kd.R_drewN | apply Kd.R_drew)); exact HO0.out) hb); replace BK134 := xm (xB BK134 hb); replace HK := xm (Kept.below (S := (fun k_ => P0_ k_)) (by repeat (first | (with_reducible first | exact HK.out | apply Kept.alloc | apply Kept.drewN | apply Kept.drew | refine Kept.setCell ?_ (.inr GW134.out) _) | exact HK.out)) hb); replace HB := xm (xS HB hb); clear hb hbox hg) | ((with_reducible refine gate_dst (N := 9) rfl ?_); refine xG (cs := #[.int .i64 a4_0, .int .i64 a4_1, .int .i64 a4_2, .int .i64 a4_3]) (t := 74) ?_; intro gb136 hg w12 hbox hb; have BK136 := xm (hbox); have GW136 := xm ((by rw [hg]; exact (by first | exact HK.out.1 | exact (show Kept w _ (fun k_ => P0_ k_) from by repeat (first | (with_reducible first | exact HK.out | apply Kept.alloc | apply Kept.drewN | apply Kept.drew | refine Kept.setCell ?_ (.inr GW134.out) _ | refine Kept.setCell ?_ (.inr GW135.out) _) | exact HK.out)).1) : w.heap.size ≤ gb136)); have GE136 := xm ((by rw [hg]; exact (below_size (xW HB)) : w0.heap.size ≤ gb136)); have NB134_136 := xm (xN BK134 hg); have NB136_134 := xm (xM BK134 hg); have NB135_136 := xm (xN BK135 hg); have NB136_135 := xm (xM BK135 hg); replace HO0 := xm (Kd.R_below (by (with_reducible repeat (first | apply Kd.R_alloc | apply Kd.R_drewN | apply Kd.R_drew)); exact HO0.out) hb); replace BK134 := xm (xB BK134 hb); replace BK135 := xm (xB BK135 hb); replace HK := xm (Kept.below (S := (fun k_ => P0_ k_)) (by repeat (first | (with_reducible first | exact HK.out | apply Kept.alloc | apply Kept.drewN | apply Kept.drew | refine Kept.setCell ?_ (.inr GW134.out) _ | refine Kept.setCell ?_ (.inr GW135.out) _) | exact HK.out)) hb); replace HB := xm (xS HB hb); clear hb hbox hg; have hnb13 := NB135_134.out; have hnc13 := NB134_135.out; have hnb14 := NB135_136.out; have hnc14 := NB136_135.out; have hcz15_0 := blkc5 BK135.out; have p137 : 0 ≤ (a3 : Int) := xO; have q137 : a3 < (l2_0.length : Int) := xO; obtain ⟨ad137, e137, hx137_0⟩ := Kd.at_int (Kd.C_kept_now HR2_0.out HK.out) a3 p137 q137; cases e137; replace p137 := eq_true p137; replace q137 := eq_true q137) | (go_at_call 54; (with_reducible refine (moves_Kind.calls (rd l2_0 a3) t138 _ A8.out).mono ?_); rintro e w' ⟨rfl, ⟨nd, rfl⟩⟩; (try first | exact ⟨rfl, _, World.drewN_drewN _ _ _⟩ | exact ⟨rfl, _, Eq.trans (World.drewN_drewN _ _ _) (congrArg (World.drewN _) (Nat.add_assoc _ _ _))⟩); have hnb16 := NB136_134.out; have hnc16 := NB134_136.out; have hcz17_0 := blkc4 BK136.out))
   (try have hq134_135 := NB134_135.out); (try have hq135_134 := NB135_134.out); (try have hq134_136 := NB134_136.out); (try have hq136_134 := NB136_134.out); (try have hq136_135 := NB136_135.out); (try have hq135_136 := NB135_136.out)
   (try simp only [Act.put, List.setIfInBounds_toArray, List.set_cons_zero, List.set_cons_succ])
   go_cut [12] (fun vs12 wc => ∃ (kq : Nat) (x12_8 : Int), vs12 = .int .i64 x12_8 ∧ Aside0 (moves_along.j0 kq l0 a3 t138 x12_8 a1_0 a1_1 a1_2 l1_3 l1_4 a1_5 a1_6 l1_7 a1_8 a1_9 a1_10 l2_0 l2_1 l2_2 a2_3 a2_4 a4_0 a4_1 a4_2 a4_3 = some r) ∧ Aside0 (kq ≤ k) ∧ Aside0 (Kd.R k39 39 wc w0.heap.size (fun k_ => (P0_ k_ ∨ w.heap.size ≤ k_)) u9000_ l0) ∧ Aside0 (wc.heap[gb134]? = some (.cells #[.string a1_0, .int .i64 a1_1, .int .i64 a1_2, (.slice A1_3 l1_3.length c1_3), (.slice A1_4 l1_4.length c1_4), .bool a1_5, .bool a1_6, (.slice A1_7 l1_7.length c1_7), .int .i64 a1_8, .int .i64 a1_9, .int .i64 a1_10] 26 (0, 0))) ∧ Aside0 (wc.heap[gb135]? = some (.cells #[(.slice (some ad137) l2_0.length c2_0), (.slice A2_1 l2_1.length c2_1), (.slice A2_2 l2_2.length c2_2), .int .i64 a2_3, .int .i64 a2_4] 29 (0, 0))) ∧ Aside0 (wc.heap[gb136]? = some (.cells #[.int .i64 a4_0, .int .i64 a4_1, .int .i64 a4_2, .int .i64 a4_3] 74 (0, 0))) ∧ Aside0 (Kept w wc (fun k_ => P0_ k_)) ∧ Aside0 (Below w0.heap.size w0 wc))
   case first =>
    have H := HC9.out; clear HC9
    by_cases c18 : a2_3 = 1
    ·rw [if_pos c18] at H
     have c18b0 := beq_iff_eq.mpr c18
     have c18b1 := bne_eq_false_iff_eq.mpr c18
     clear c18
     (first | rw [c18b0] | (simp only [i64_w, i32_w]; rw [c18b0]) | skip)
     have H' := xm H
     clear H
     go_wp2
     go_meet
     case rel => exact ⟨_, (wrap64 (-a4_1)), (xrf), H', ⟨by first | omega | exact Nat.le_refl _⟩, ⟨by (with_reducible repeat (first | apply Kd.R_alloc | apply Kd.R_drewN | apply Kd.R_drew)); exact HO0.out⟩, ⟨xK BK134⟩, ⟨xK BK135⟩, ⟨xK BK136⟩, ⟨by repeat (first | (with_reducible first | exact HK.out | apply Kept.alloc | apply Kept.drewN | apply Kept.drew | refine Kept.setCell ?_ (.inr GW134.out) _ | refine Kept.setCell ?_ (.inr GW135.out) _ | refine Kept.setCell ?_ (.inr GW136.out) _) | exact HK.out)⟩, ⟨xW HB⟩⟩
    ·rw [if_neg c18] at H
     have c18b0 := beq_eq_false_iff_ne.mpr c18
     have c18b1 := bne_iff_ne.mpr c18
     (first | rw [c18b0] | (simp only [i64_w, i32_w]; rw [c18b0]) | skip)
     have H' := xm H
     clear H
     go_wp2
     go_meet
     case rel => exact ⟨_, (a4_1), (xrf), H', ⟨by first | omega | exact Nat.le_refl _⟩, ⟨by (with_reducible repeat (first | apply Kd.R_alloc | apply Kd.R_drewN | apply Kd.R_drew)); exact HO0.out⟩, ⟨xK BK134⟩, ⟨xK BK135⟩, ⟨xK BK136⟩, ⟨by repeat (first | (with_reducible first | exact HK.out | apply Kept.alloc | apply Kept.drewN | apply Kept.drew | refine Kept.setCell ?_ (.inr GW134.out) _ | refine Kept.setCell ?_ (.inr GW135.out) _ | refine Kept.setCell ?_ (.inr GW136.out) _) | exact HK.out)⟩, ⟨xW HB⟩⟩
   case rest =>
    clear HC9; (try clear p1); (try clear q1); (try clear hx1); (try clear p2); (try clear p6); (try clear p13); (try clear q13); (try clear hx13); (try clear hx137_0); (try clear p137); (try clear q137)
    obtain ⟨kq, x12_8, rfl, HA, HJ8, HO_0, BK134, BK135, BK136, HK, HB⟩ := hcut
    cases kq with
    | zero => exact absurd HA.out (by simp [moves_along.j0])
    | succ kj8 =>
     have H := HA.out; clear HA
     simp only [moves_along.j0] at H
     by_cases c19 : a1_1 = 0
     ·rw [if_pos c19] at H
      exact absurd H (by simp)
     ·rw [if_neg c19] at H
      have c19b0 := beq_eq_false_iff_ne.mpr c19
      have c19b1 := bne_iff_ne.mpr c19
      have H' := xm H
      clear H; have hcz22_0 := blkc11 BK134.out; have hcz24_0 := blkc4 BK136.out
      go_wp2
      repeat (go_quiet (fail); try go_wp2)
      go_loopg [0, 13, 14, 40] kj8 (fun kq vs0 vs13 vs14 vs40 w' => ∃ (x0_2 : List (S39)) (x13_2 : Int) (x14_2 : Int) (x40_2 : Int), vs13 = .int .i64 x13_2 ∧ vs14 = .int .i64 x14_2 ∧ vs40 = .int .i64 x40_2 ∧ Aside0 (moves_along.l0 kq x0_2 a3 t138 x12_8 x13_2 x14_2 a4_2 x40_2 a1_0 a1_1 a1_2 l1_3 l1_4 a1_5 a1_6 l1_7 a1_8 a1_9 a1_10 l2_0 l2_1 l2_2 a2_3 a2_4 a4_0 a4_1 a4_2 a4_3 = some r) ∧ Aside0 (kq ≤ kj8) ∧ Aside0 (Kd.R k39 39 w' w0.heap.size (fun k_ => (P0_ k_ ∨ w.heap.size ≤ k_)) vs0 x0_2) ∧ Aside0 (w'.heap[gb134]? = some (.cells #[.string a1_0, .int .i64 a1_1, .int .i64 a1_2, (.slice A1_3 l1_3.length c1_3), (.slice A1_4 l1_4.length c1_4), .bool a1_5, .bool a1_6, (.slice A1_7 l1_7.length c1_7), .int .i64 a1_8, .int .i64 a1_9, .int .i64 a1_10] 26 (0, 0))) ∧ Aside0 (w'.heap[gb135]? = some (.cells #[(.slice (some ad137) l2_0.length c2_0), (.slice A2_1 l2_1.length c2_1), (.slice A2_2 l2_2.length c2_2), .int .i64 a2_3, .int .i64 a2_4] 29 (0, 0))) ∧ Aside0 (w'.heap[gb136]? = some (.cells #[.int .i64 a4_0, .int .i64 a4_1, .int .i64 a4_2, .int .i64 a4_3] 74 (0, 0))) ∧ Aside0 (Kept w w' (fun k_ => P0_ k_)) ∧ Aside0 (Below w0.heap.size w0 w'))
      case atStart => exact ⟨(l0), (Int.tmod a3 a1_1), (wrap64 (Int.tdiv a3 a1_1)), (0), (xrf), (xrf), (xrf), H', ⟨Nat.le_refl _⟩, ⟨by (with_reducible repeat (first | apply Kd.R_alloc | apply Kd.R_drewN | apply Kd.R_drew)); exact HO_0.out⟩, ⟨xK BK134⟩, ⟨xK BK135⟩, ⟨xK BK136⟩, ⟨by repeat (first | (with_reducible first | exact HK.out | apply Kept.alloc | apply Kept.drewN | apply Kept.drew | refine Kept.setCell ?_ (.inr GW134.out) _ | refine Kept.setCell ?_ (.inr GW135.out) _ | refine Kept.setCell ?_ (.inr GW136.out) _) | exact HK.out)⟩, ⟨xW HB⟩⟩
      case round =>
       clear H'; (try clear p1); (try clear q1); (try clear hx1); (try clear p2); (try clear p6); (try clear p13); (try clear q13); (try clear hx13); (try clear hx137_0); (try clear p1); (try clear p13); (try clear p137); (try clear p2); (try clear p6); (try clear q1); (try clear q13); (try clear q137)
       obtain ⟨x0_2, x13_2, x14_2, x40_2, rfl, rfl, rfl, HA, HK2, HO_0, BK134, BK135, BK136, HK, HB⟩ := hrel
       cases gk with
       | zero => exact absurd HA.out (by simp [moves_along.l0])
       | succ k2 =>
        have H := HA.out; clear HA
        simp only [moves_along.l0] at H
        by_cases c25 : x40_2 < a4_2
        ·rw [if_pos c25] at H
         have c25b0 := decide_eq_true c25
         clear c25; have HC26 := xm H; clear H; have hcz29_0 := blkc4 BK136.out
         go_upto_region 9 with (fail)
         go_cut [66] (fun vs66 wc => ∃ (kq : Nat) (x66_25 : Bool), vs66 = .bool x66_25 ∧ Aside0 (moves_along.j2 kq x0_2 a3 t138 x12_8 (wrap64 (x13_2 + a4_0)) (wrap64 (x14_2 + x12_8)) a4_2 x40_2 x66_25 a1_0 a1_1 a1_2 l1_3 l1_4 a1_5 a1_6 l1_7 a1_8 a1_9 a1_10 l2_0 l2_1 l2_2 a2_3 a2_4 a4_0 a4_1 a4_2 a4_3 = some r) ∧ Aside0 (kq ≤ k2) ∧ Aside0 (Kd.R k39 39 wc w0.heap.size (fun k_ => (P0_ k_ ∨ w.heap.size ≤ k_)) u0 x0_2) ∧ Aside0 (wc.heap[gb134]? = some (.cells #[.string a1_0, .int .i64 a1_1, .int .i64 a1_2, (.slice A1_3 l1_3.length c1_3), (.slice A1_4 l1_4.length c1_4), .bool a1_5, .bool a1_6, (.slice A1_7 l1_7.length c1_7), .int .i64 a1_8, .int .i64 a1_9, .int .i64 a1_10] 26 (0, 0))) ∧ Aside0 (wc.heap[gb135]? = some (.cells #[(.slice (some ad137) l2_0.length c2_0), (.slice A2_1 l2_1.length c2_1), (.slice A2_2 l2_2.length c2_2), .int .i64 a2_3, .int .i64 a2_4] 29 (0, 0))) ∧ Aside0 (wc.heap[gb136]? = some (.cells #[.int .i64 a4_0, .int .i64 a4_1, .int .i64 a4_2, .int .i64 a4_3] 74 (0, 0))) ∧ Aside0 (Kept w wc (fun k_ => P0_ k_)) ∧ Aside0 (Below w0.heap.size w0 wc))
         case first =>
          have H := HC26.out; clear HC26
          by_cases c30 : (wrap64 (x13_2 + a4_0)) < 0
          ·rw [if_pos c30] at H
           have c30b0 := decide_eq_true c30
           clear c30
           (first | rw [c30b0] | (simp only [i64_w, i32_w]; rw [c30b0]) | skip)
           have H' := xm H
           clear H
           go_wp2
           go_meet
           case rel => exact ⟨_, (true), (xrf), H', ⟨by have := HJ8.out; have := HK2.out; first | omega | exact Nat.le_refl _⟩, ⟨by (with_reducible repeat (first | apply Kd.R_alloc | apply Kd.R_drewN | apply Kd.R_drew)); exact HO_0.out⟩, ⟨xK BK134⟩, ⟨xK BK135⟩, ⟨xK BK136⟩, ⟨by repeat (first | (with_reducible first | exact HK.out | apply Kept.alloc | apply Kept.drewN | apply Kept.drew | refine Kept.setCell ?_ (.inr GW134.out) _ | refine Kept.setCell ?_ (.inr GW135.out) _ | refine Kept.setCell ?_ (.inr GW136.out) _) | exact HK.out)⟩, ⟨xW HB⟩⟩
          ·rw [if_neg c30] at H
           have c30b0 := decide_eq_false c30
           clear c30
           (first | rw [c30b0] | (simp only [i64_w, i32_w]; rw [c30b0]) | skip)
           by_cases c31 : (wrap64 (x13_2 + a4_0)) ≥ a1_1
           ·rw [if_pos c31] at H
            have c31b0 := decide_eq_true c31
            clear c31
            have H' := xm H
            clear H; have hcz34_0 := blkc11 BK134.out
            go_wp2
            go_meet
            case rel => exact ⟨_, (true), (xrf), H', ⟨by have := HJ8.out; have := HK2.out; first | omega | exact Nat.le_refl _⟩, ⟨by (with_reducible repeat (first | apply Kd.R_alloc | apply Kd.R_drewN | apply Kd.R_drew)); exact HO_0.out⟩, ⟨xK BK134⟩, ⟨xK BK135⟩, ⟨xK BK136⟩, ⟨by repeat (first | (with_reducible first | exact HK.out | apply Kept.alloc | apply Kept.drewN | apply Kept.drew | refine Kept.setCell ?_ (.inr GW134.out) _ | refine Kept.setCell ?_ (.inr GW135.out) _ | refine Kept.setCell ?_ (.inr GW136.out) _) | exact HK.out)⟩, ⟨xW HB⟩⟩
           ·rw [if_neg c31] at H
            have c31b0 := decide_eq_false c31
            clear c31
            by_cases c35 : (wrap64 (x14_2 + x12_8)) < 0
            ·rw [if_pos c35] at H
             have c35b0 := decide_eq_true c35
             clear c35
             have H' := xm H
             clear H; have hcz38_0 := blkc11 BK134.out
             go_wp2
             go_meet
             case rel => exact ⟨_, (true), (xrf), H', ⟨by have := HJ8.out; have := HK2.out; first | omega | exact Nat.le_refl _⟩, ⟨by (with_reducible repeat (first | apply Kd.R_alloc | apply Kd.R_drewN | apply Kd.R_drew)); exact HO_0.out⟩, ⟨xK BK134⟩, ⟨xK BK135⟩, ⟨xK BK136⟩, ⟨by repeat (first | (with_reducible first | exact HK.out | apply Kept.alloc | apply Kept.drewN | apply Kept.drew | refine Kept.setCell ?_ (.inr GW134.out) _ | refine Kept.setCell ?_ (.inr GW135.out) _ | refine Kept.setCell ?_ (.inr GW136.out) _) | exact HK.out)⟩, ⟨xW HB⟩⟩
            ·rw [if_neg c35] at H
             have c35b0 := decide_eq_false c35
             clear c35
             have H' := xm H
             clear H; have hcz41_0 := blkc11 BK134.out
             go_wp2
             go_meet
             case rel => exact ⟨_, (decide ((wrap64 (x14_2 + x12_8)) ≥ a1_2)), (xrf), H', ⟨by have := HJ8.out; have := HK2.out; first | omega | exact Nat.le_refl _⟩, ⟨by (with_reducible repeat (first | apply Kd.R_alloc | apply Kd.R_drewN | apply Kd.R_drew)); exact HO_0.out⟩, ⟨xK BK134⟩, ⟨xK BK135⟩, ⟨xK BK136⟩, ⟨by repeat (first | (with_reducible first | exact HK.out | apply Kept.alloc | apply Kept.drewN | apply Kept.drew | refine Kept.setCell ?_ (.inr GW134.out) _ | refine Kept.setCell ?_ (.inr GW135.out) _ | refine Kept.setCell ?_ (.inr GW136.out) _) | exact HK.out)⟩, ⟨xW HB⟩⟩
         case rest =>
          clear HC26; (try clear p1); (try clear q1); (try clear hx1); (try clear p2); (try clear p6); (try clear p13); (try clear q13); (try clear hx13); (try clear hx137_0); (try clear p1); (try clear p13); (try clear p137); (try clear p2); (try clear p6); (try clear q1); (try clear q13); (try clear q137)
          obtain ⟨kq, x66_25, rfl, HA, HJ25, HO_0, BK134, BK135, BK136, HK, HB⟩ := hcut
          cases kq with
          | zero => exact absurd HA.out (by simp [moves_along.j2])
          | succ kj25 =>
           have H := HA.out; clear HA
           simp only [moves_along.j2] at H
           by_cases c42 : x66_25 = true
           ·subst c42
            rw [if_pos rfl] at H
            obtain rfl := Option.some.inj H
            go_wp2
            go_ret
            exact ⟨_, xer, by (with_reducible repeat (first | apply Kd.R_alloc | apply Kd.R_drewN | apply Kd.R_drew)); exact HO_0.out, xW HB, by repeat (first | (with_reducible first | exact HK.out | apply Kept.alloc | apply Kept.drewN | apply Kept.drew | refine Kept.setCell ?_ (.inr GW134.out) _ | refine Kept.setCell ?_ (.inr GW135.out) _ | refine Kept.setCell ?_ (.inr GW136.out) _) | exact HK.out)⟩
           ·replace c42 := Bool.eq_false_iff.mpr c42
            subst c42
            rw [if_neg xF] at H
            obtain ⟨ji43, hji43⟩ : ∃ j_ : Int, (wrap64 ((wrap64 ((wrap64 (x14_2 + x12_8)) * a1_1)) + (wrap64 (x13_2 + a4_0)))) = j_ := ⟨_, rfl⟩
            (first | rw [hji43] at H | simp only [hji43] at H)
            have hji43w : (IntKind.i64.wrap ((wrap64 ((wrap64 (x14_2 + x12_8)) * a1_1)) + (wrap64 (x13_2 + a4_0)))) = ji43 := (i64_w _).trans hji43
            by_cases c44 : 0 ≤ (ji43)
            ·rw [if_pos c44] at H
             have c44b0 := decide_eq_true c44
             clear c44
             by_cases c45 : (ji43) < (l2_0.length : Int)
             ·rw [if_pos c45] at H
              have c45b0 := decide_eq_true c45
              clear c45; replace H := Option.bind_eq_some_iff.mp H
              obtain ⟨t140, A460, H⟩ := H
              try dsimp only at H
              have A46 := xm A460; clear A460; have HC47 := xm H; clear H; have hcz50_0 := blkc11 BK134.out; have hcz52_0 := blkc5 BK135.out
              have p139 : 0 ≤ ((ji43) : Int) := xO
              have q139 : (ji43) < (l2_0.length : Int) := xO
              obtain ⟨ad139, e139, hx139_0⟩ := Kd.at_int (Kd.C_kept_now HR2_0.out HK.out) (ji43) p139 q139
              obtain rfl : ad137 = ad139 := (by injection e139)
              replace p139 := eq_true p139; replace q139 := eq_true q139
              go_upto_region 13 with (first | (go_at_call 53; (with_reducible refine (moves_Owner.calls (rd l2_0 (ji43)) t140 _ A46.out).mono ?_); rintro e w' ⟨rfl, ⟨nd, rfl⟩⟩; (try first | exact ⟨rfl, _, World.drewN_drewN _ _ _⟩ | exact ⟨rfl, _, Eq.trans (World.drewN_drewN _ _ _) (congrArg (World.drewN _) (Nat.add_assoc _ _ _))⟩)))
              (try simp only [Act.put, List.setIfInBounds_toArray, List.set_cons_zero, List.set_cons_succ])
              go_cut [98] (fun vs98 wc => ∃ (kq : Nat) (x98_46 : Bool), vs98 = .bool x98_46 ∧ Aside0 (moves_along.j3 kq x0_2 a3 t138 x12_8 (wrap64 (x13_2 + a4_0)) (wrap64 (x14_2 + x12_8)) ji43 t140 a4_2 x40_2 x98_46 a1_0 a1_1 a1_2 l1_3 l1_4 a1_5 a1_6 l1_7 a1_8 a1_9 a1_10 l2_0 l2_1 l2_2 a2_3 a2_4 a4_0 a4_1 a4_2 a4_3 = some r) ∧ Aside0 (kq ≤ kj25) ∧ Aside0 (Kd.R k39 39 wc w0.heap.size (fun k_ => (P0_ k_ ∨ w.heap.size ≤ k_)) u0 x0_2) ∧ Aside0 (wc.heap[gb134]? = some (.cells #[.string a1_0, .int .i64 a1_1, .int .i64 a1_2, (.slice A1_3 l1_3.length c1_3), (.slice A1_4 l1_4.length c1_4), .bool a1_5, .bool a1_6, (.slice A1_7 l1_7.length c1_7), .int .i64 a1_8, .int .i64 a1_9, .int .i64 a1_10] 26 (0, 0))) ∧ Aside0 (wc.heap[gb135]? = some (.cells #[(.slice (some ad137) l2_0.length c2_0), (.slice A2_1 l2_1.length c2_1), (.slice A2_2 l2_2.length c2_2), .int .i64 a2_3, .int .i64 a2_4] 29 (0, 0))) ∧ Aside0 (wc.heap[gb136]? = some (.cells #[.int .i64 a4_0, .int .i64 a4_1, .int .i64 a4_2, .int .i64 a4_3] 74 (0, 0))) ∧ Aside0 (Kept w wc (fun k_ => P0_ k_)) ∧ Aside0 (Below w0.heap.size w0 wc))
              case first =>
               have H := HC47.out; clear HC47
               by_cases c53 : t140 < 0
               ·rw [if_pos c53] at H
                have c53b0 := decide_eq_true c53
                clear c53
                (first | rw [c53b0] | (simp only [i64_w, i32_w]; rw [c53b0]) | skip)
                by_cases c54 : a4_3 = 2
                ·rw [if_pos c54] at H
                 have c54b0 := beq_iff_eq.mpr c54
                 have c54b1 := bne_eq_false_iff_eq.mpr c54
                 clear c54
                 by_cases c55 : t140 = (wrap64 (1 - a2_3))
                 ·rw [if_pos c55] at H
                  have c55b0 := beq_iff_eq.mpr c55
                  have c55b1 := bne_eq_false_iff_eq.mpr c55
                  clear c55
                  have H' := xm H
                  clear H; have hcz58_0 := blkc4 BK136.out; have hcz60_0 := blkc5 BK135.out
                  go_wp2
                  go_meet
                  case rel => exact ⟨_, ((a4_3 != 0)), (xrf), H', ⟨by have := HJ8.out; have := HK2.out; have := HJ25.out; first | omega | exact Nat.le_refl _⟩, ⟨by (with_reducible repeat (first | apply Kd.R_alloc | apply Kd.R_drewN | apply Kd.R_drew)); exact HO_0.out⟩, ⟨xK BK134⟩, ⟨xK BK135⟩, ⟨xK BK136⟩, ⟨by repeat (first | (with_reducible first | exact HK.out | apply Kept.alloc | apply Kept.drewN | apply Kept.drew | refine Kept.setCell ?_ (.inr GW134.out) _ | refine Kept.setCell ?_ (.inr GW135.out) _ | refine Kept.setCell ?_ (.inr GW136.out) _) | exact HK.out)⟩, ⟨xW HB⟩⟩
                 ·rw [if_neg c55] at H
                  have c55b0 := beq_eq_false_iff_ne.mpr c55
                  have c55b1 := bne_iff_ne.mpr c55
                  have H' := xm H
                  clear H; have hcz63_0 := blkc4 BK136.out; have hcz65_0 := blkc5 BK135.out
                  go_wp2
                  go_meet
                  case rel => exact ⟨_, (false), (xrf), H', ⟨by have := HJ8.out; have := HK2.out; have := HJ25.out; first | omega | exact Nat.le_refl _⟩, ⟨by (with_reducible repeat (first | apply Kd.R_alloc | apply Kd.R_drewN | apply Kd.R_drew)); exact HO_0.out⟩, ⟨xK BK134⟩, ⟨xK BK135⟩, ⟨xK BK136⟩, ⟨by repeat (first | (with_reducible first | exact HK.out | apply Kept.alloc | apply Kept.drewN | apply Kept.drew | refine Kept.setCell ?_ (.inr GW134.out) _ | refine Kept.setCell ?_ (.inr GW135.out) _ | refine Kept.setCell ?_ (.inr GW136.out) _) | exact HK.out)⟩, ⟨xW HB⟩⟩
                ·rw [if_neg c54] at H
                 have c54b0 := beq_eq_false_iff_ne.mpr c54
                 have c54b1 := bne_iff_ne.mpr c54
                 have H' := xm H
                 clear H; have hcz68_0 := blkc4 BK136.out
                 go_wp2
                 go_meet
                 case rel => exact ⟨_, (true), (xrf), H', ⟨by have := HJ8.out; have := HK2.out; have := HJ25.out; first | omega | exact Nat.le_refl _⟩, ⟨by (with_reducible repeat (first | apply Kd.R_alloc | apply Kd.R_drewN | apply Kd.R_drew)); exact HO_0.out⟩, ⟨xK BK134⟩, ⟨xK BK135⟩, ⟨xK BK136⟩, ⟨by repeat (first | (with_reducible first | exact HK.out | apply Kept.alloc | apply Kept.drewN | apply Kept.drew | refine Kept.setCell ?_ (.inr GW134.out) _ | refine Kept.setCell ?_ (.inr GW135.out) _ | refine Kept.setCell ?_ (.inr GW136.out) _) | exact HK.out)⟩, ⟨xW HB⟩⟩
               ·rw [if_neg c53] at H
                have c53b0 := decide_eq_false c53
                clear c53
                (first | rw [c53b0] | (simp only [i64_w, i32_w]; rw [c53b0]) | skip)
                by_cases c69 : t140 = (wrap64 (1 - a2_3))
                ·rw [if_pos c69] at H
                 have c69b0 := beq_iff_eq.mpr c69
                 have c69b1 := bne_eq_false_iff_eq.mpr c69
                 clear c69
                 have H' := xm H
                 clear H; have hcz72_0 := blkc5 BK135.out; have hcz74_0 := blkc4 BK136.out
                 go_wp2
                 go_meet
                 case rel => exact ⟨_, ((a4_3 != 0)), (xrf), H', ⟨by have := HJ8.out; have := HK2.out; have := HJ25.out; first | omega | exact Nat.le_refl _⟩, ⟨by (with_reducible repeat (first | apply Kd.R_alloc | apply Kd.R_drewN | apply Kd.R_drew)); exact HO_0.out⟩, ⟨xK BK134⟩, ⟨xK BK135⟩, ⟨xK BK136⟩, ⟨by repeat (first | (with_reducible first | exact HK.out | apply Kept.alloc | apply Kept.drewN | apply Kept.drew | refine Kept.setCell ?_ (.inr GW134.out) _ | refine Kept.setCell ?_ (.inr GW135.out) _ | refine Kept.setCell ?_ (.inr GW136.out) _) | exact HK.out)⟩, ⟨xW HB⟩⟩
                ·rw [if_neg c69] at H
                 have c69b0 := beq_eq_false_iff_ne.mpr c69
                 have c69b1 := bne_iff_ne.mpr c69
                 have H' := xm H
                 clear H; have hcz77_0 := blkc5 BK135.out
                 go_wp2
                 go_meet
                 case rel => exact ⟨_, (false), (xrf), H', ⟨by have := HJ8.out; have := HK2.out; have := HJ25.out; first | omega | exact Nat.le_refl _⟩, ⟨by (with_reducible repeat (first | apply Kd.R_alloc | apply Kd.R_drewN | apply Kd.R_drew)); exact HO_0.out⟩, ⟨xK BK134⟩, ⟨xK BK135⟩, ⟨xK BK136⟩, ⟨by repeat (first | (with_reducible first | exact HK.out | apply Kept.alloc | apply Kept.drewN | apply Kept.drew | refine Kept.setCell ?_ (.inr GW134.out) _ | refine Kept.setCell ?_ (.inr GW135.out) _ | refine Kept.setCell ?_ (.inr GW136.out) _) | exact HK.out)⟩, ⟨xW HB⟩⟩
              case rest =>
               clear HC47; (try clear p1); (try clear q1); (try clear hx1); (try clear p2); (try clear p6); (try clear p13); (try clear q13); (try clear hx13); (try clear p64); (try clear hx137_0); (try clear hx139_0); (try clear p1); (try clear p13); (try clear p137); (try clear p139); (try clear p2); (try clear p6); (try clear q1); (try clear q13); (try clear q137); (try clear q139)
               obtain ⟨kq, x98_46, rfl, HA, HJ46, HO_0, BK134, BK135, BK136, HK, HB⟩ := hcut
               cases kq with
               | zero => exact absurd HA.out (by simp [moves_along.j3])
               | succ kj46 =>
                have H := HA.out; clear HA
                simp only [moves_along.j3] at H
                by_cases c78 : x98_46 = true
                ·subst c78
                 rw [if_pos rfl] at H
                 replace H := Option.bind_eq_some_iff.mp H
                 obtain ⟨t141, A790, H⟩ := H
                 try dsimp only at H
                 have A79 := xm A790; clear A790
                 by_cases c80 : x0_2.length < 5864062014805
                 ·rw [if_pos c80] at H
                  have LMc80 := xm c80; clear c80
                  obtain ⟨y142, hy142⟩ : ∃ y_ : List (S39), y_ = (x0_2 ++ [(⟨a3, ji43, t141⟩ : S39)]) := ⟨_, rfl⟩
                  replace H : (if t140 ≥ 0 then (some y142) else (moves_along.l0 kj46 y142 a3 t138 x12_8 (wrap64 (x13_2 + a4_0)) (wrap64 (x14_2 + x12_8)) a4_2 (wrap64 (x40_2 + 1)) a1_0 a1_1 a1_2 l1_3 l1_4 a1_5 a1_6 l1_7 a1_8 a1_9 a1_10 l2_0 l2_1 l2_2 a2_3 a2_4 a4_0 a4_1 a4_2 a4_3)) = some r := by first | (rw [hy142]; with_reducible exact H) | (have H2_ := (Option.bind_some _ _).symm.trans H; rw [hy142]; with_reducible exact H2_) | (have H2_ := (Option.bind_some _ _).symm.trans H; with_reducible exact H2_) | with_reducible exact H | (rw [hy142]; exact H) | exact H
                  have Ny142 := xm hy142; clear hy142
                  by_cases c81 : t140 ≥ 0
                  ·rw [if_pos c81] at H
                   have c81b0 := decide_eq_true c81
                   clear c81
                   obtain rfl := Option.some.inj H
                   have hcz84_0 := blkc11 BK134.out; have hcz86_0 := blkc5 BK135.out
                   go_wp2_with (first | (go_at_call 67; (with_reducible refine (moves_arrives.calls a1_0 a1_1 a1_2 _ _ l1_3 _ _ l1_4 a1_5 a1_6 _ _ l1_7 a1_8 a1_9 a1_10 a2_3 t138 ji43 t141 _ ?side1 ?side2 ?side3 ?side4 ?side5 ?side6 A79.out).mono ?_); (case side1 => exact Kd.C_kept_now HR1_3.out (by repeat (first | (with_reducible first | exact HK.out | apply Kept.alloc | apply Kept.drewN | apply Kept.drew | refine Kept.setCell ?_ (.inr GW134.out) _ | refine Kept.setCell ?_ (.inr GW135.out) _ | refine Kept.setCell ?_ (.inr GW136.out) _) | exact HK.out))); (case side2 => exact HC1_3.out); (case side3 => exact Kd.C_kept_now HR1_4.out (by repeat (first | (with_reducible first | exact HK.out | apply Kept.alloc | apply Kept.drewN | apply Kept.drew | refine Kept.setCell ?_ (.inr GW134.out) _ | refine Kept.setCell ?_ (.inr GW135.out) _ | refine Kept.setCell ?_ (.inr GW136.out) _) | exact HK.out))); (case side4 => exact HC1_4.out); (case side5 => exact Kd.C_kept_now HR1_7.out (by repeat (first | (with_reducible first | exact HK.out | apply Kept.alloc | apply Kept.drewN | apply Kept.drew | refine Kept.setCell ?_ (.inr GW134.out) _ | refine Kept.setCell ?_ (.inr GW135.out) _ | refine Kept.setCell ?_ (.inr GW136.out) _) | exact HK.out))); (case side6 => exact HC1_7.out); rintro e w87 ⟨rfl, hb⟩; replace HO_0 := xm (Kd.R_below (by (with_reducible repeat (first | apply Kd.R_alloc | apply Kd.R_drewN | apply Kd.R_drew)); exact HO_0.out) hb); replace BK134 := xm (xB BK134 hb); replace BK135 := xm (xB BK135 hb); replace BK136 := xm (xB BK136 hb); replace HK := xm (Kept.below (S := (fun k_ => P0_ k_)) (by repeat (first | (with_reducible first | exact HK.out | apply Kept.alloc | apply Kept.drewN | apply Kept.drew | refine Kept.setCell ?_ (.inr GW134.out) _ | refine Kept.setCell ?_ (.inr GW135.out) _ | refine Kept.setCell ?_ (.inr GW136.out) _) | exact HK.out)) hb); replace HB := xm (xS HB hb); (try clear hb); (try clear hb2); (try clear hk); (try clear hi)) | ((with_reducible refine gate_builtin (b := .append) (xs := #[.tmp 99, .tmp 109]) rfl ?_); at_builtin; refine Kd.R_append k39 (w0 := w0) w0.heap.size rfl (.tmp 99) (.tmp 109) 50 39 (.agg #[(.int .i64 0), (.int .i64 0), (.int .i64 0)]) 24 rfl Try.underlying50 info39 rfl (by decide) (by omega) u0 x0_2 (⟨a3, ji43, t141⟩ : S39) [.int .i64 a3, .int .i64 ji43, .int .i64 t141] (fun k_ => (P0_ k_ ∨ w.heap.size ≤ k_)) (fun _ => False) rfl rfl ?aP (fun _ hk => hk.elim) ?aF ?aO ?aB ?aS ?aL ?_; (case aP => exact k39_mkM _ _ _ (⟨a3, ji43, t141⟩ : S39)); (case aB => exact (xW HB)); (case aF => exact (fun k_ hk => (.inr (Nat.le_trans (by first | exact HK.out.1 | exact (show Kept w _ (fun k_ => P0_ k_) from by repeat (first | (with_reducible first | exact HK.out | apply Kept.alloc | apply Kept.drewN | apply Kept.drew | refine Kept.setCell ?_ (.inr GW134.out) _ | refine Kept.setCell ?_ (.inr GW135.out) _ | refine Kept.setCell ?_ (.inr GW136.out) _) | exact HK.out)).1) hk)))); (case aO => exact (by (with_reducible repeat (first | apply Kd.R_alloc | apply Kd.R_drewN | apply Kd.R_drew)); exact HO_0.out)); (case aS => exact (below_size (xW HB))); (case aL => have := LMc80.out; omega); intro v143 w88 ho hb hg hat; rw [← Ny142.out] at ho; have HO144 := xm (ho); replace BK134 := xm (blk_grown (g := gb134) (o := .cells #[.string a1_0, .int .i64 a1_1, .int .i64 a1_2, .slice A1_3 l1_3.length c1_3, .slice A1_4 l1_4.length c1_4, .bool a1_5, .bool a1_6, .slice A1_7 l1_7.length c1_7, .int .i64 a1_8, .int .i64 a1_9, .int .i64 a1_10] 26 (0, 0)) (xK BK134) hg (Kd.R_ne HO_0.out BK134.out (by decide))); replace BK135 := xm (blk_grown (g := gb135) (o := .cells #[.slice (some ad137) l2_0.length c2_0, .slice A2_1 l2_1.length c2_1, .slice A2_2 l2_2.length c2_2, .int .i64 a2_3, .int .i64 a2_4] 29 (0, 0)) (xK BK135) hg (Kd.R_ne HO_0.out BK135.out (by decide))); replace BK136 := xm (blk_grown (g := gb136) (o := .cells #[.int .i64 a4_0, .int .i64 a4_1, .int .i64 a4_2, .int .i64 a4_3] 74 (0, 0)) (xK BK136) hg (Kd.R_ne HO_0.out BK136.out (by decide))); replace HK := xm (Kept.of_grown (S := (fun k_ => P0_ k_)) hg (by repeat (first | (with_reducible first | exact HK.out | apply Kept.alloc | apply Kept.drewN | apply Kept.drew | refine Kept.setCell ?_ (.inr GW134.out) _ | refine Kept.setCell ?_ (.inr GW135.out) _ | refine Kept.setCell ?_ (.inr GW136.out) _) | exact HK.out)) (fun k_ e_ => (HO_0.out.1 k_ e_))); replace HB := xm (hb); clear HO_0; clear ho hb hg hat))
                   go_ret
                   exact ⟨_, by first | rfl | (simp [errW_none, errW_some] <;> rfl) | (simp only [← hji43]; first | rfl | (simp [errW_none, errW_some] <;> rfl)) | (simp [*, errW_none, errW_some] <;> rfl), by (with_reducible repeat (first | apply Kd.R_alloc | apply Kd.R_drewN | apply Kd.R_drew)); exact HO144.out, xW HB, by repeat (first | (with_reducible first | exact HK.out | apply Kept.alloc | apply Kept.drewN | apply Kept.drew | refine Kept.setCell ?_ (.inr GW134.out) _ | refine Kept.setCell ?_ (.inr GW135.out) _ | refine Kept.setCell ?_ (.inr GW136.out) _) | exact HK.out)⟩
                  ·rw [if_neg c81] at H
                   have c81b0 := decide_eq_false c81
                   clear c81
                   have H' := xm H
                   clear H; have hcz91_0 := blkc11 BK134.out; have hcz93_0 := blkc5 BK135.out
                   go_wp2_with (first | (go_at_call 67; (with_reducible refine (moves_arrives.calls a1_0 a1_1 a1_2 _ _ l1_3 _ _ l1_4 a1_5 a1_6 _ _ l1_7 a1_8 a1_9 a1_10 a2_3 t138 ji43 t141 _ ?side1 ?side2 ?side3 ?side4 ?side5 ?side6 A79.out).mono ?_); (case side1 => exact Kd.C_kept_now HR1_3.out (by repeat (first | (with_reducible first | exact HK.out | apply Kept.alloc | apply Kept.drewN | apply Kept.drew | refine Kept.setCell ?_ (.inr GW134.out) _ | refine Kept.setCell ?_ (.inr GW135.out) _ | refine Kept.setCell ?_ (.inr GW136.out) _) | exact HK.out))); (case side2 => exact HC1_3.out); (case side3 => exact Kd.C_kept_now HR1_4.out (by repeat (first | (with_reducible first | exact HK.out | apply Kept.alloc | apply Kept.drewN | apply Kept.drew | refine Kept.setCell ?_ (.inr GW134.out) _ | refine Kept.setCell ?_ (.inr GW135.out) _ | refine Kept.setCell ?_ (.inr GW136.out) _) | exact HK.out))); (case side4 => exact HC1_4.out); (case side5 => exact Kd.C_kept_now HR1_7.out (by repeat (first | (with_reducible first | exact HK.out | apply Kept.alloc | apply Kept.drewN | apply Kept.drew | refine Kept.setCell ?_ (.inr GW134.out) _ | refine Kept.setCell ?_ (.inr GW135.out) _ | refine Kept.setCell ?_ (.inr GW136.out) _) | exact HK.out))); (case side6 => exact HC1_7.out); rintro e w94 ⟨rfl, hb⟩; replace HO_0 := xm (Kd.R_below (by (with_reducible repeat (first | apply Kd.R_alloc | apply Kd.R_drewN | apply Kd.R_drew)); exact HO_0.out) hb); replace BK134 := xm (xB BK134 hb); replace BK135 := xm (xB BK135 hb); replace BK136 := xm (xB BK136 hb); replace HK := xm (Kept.below (S := (fun k_ => P0_ k_)) (by repeat (first | (with_reducible first | exact HK.out | apply Kept.alloc | apply Kept.drewN | apply Kept.drew | refine Kept.setCell ?_ (.inr GW134.out) _ | refine Kept.setCell ?_ (.inr GW135.out) _ | refine Kept.setCell ?_ (.inr GW136.out) _) | exact HK.out)) hb); replace HB := xm (xS HB hb); (try clear hb); (try clear hb2); (try clear hk); (try clear hi)) | ((with_reducible refine gate_builtin (b := .append) (xs := #[.tmp 99, .tmp 109]) rfl ?_); at_builtin; refine Kd.R_append k39 (w0 := w0) w0.heap.size rfl (.tmp 99) (.tmp 109) 50 39 (.agg #[(.int .i64 0), (.int .i64 0), (.int .i64 0)]) 24 rfl Try.underlying50 info39 rfl (by decide) (by omega) u0 x0_2 (⟨a3, ji43, t141⟩ : S39) [.int .i64 a3, .int .i64 ji43, .int .i64 t141] (fun k_ => (P0_ k_ ∨ w.heap.size ≤ k_)) (fun _ => False) rfl rfl ?aP (fun _ hk => hk.elim) ?aF ?aO ?aB ?aS ?aL ?_; (case aP => exact k39_mkM _ _ _ (⟨a3, ji43, t141⟩ : S39)); (case aB => exact (xW HB)); (case aF => exact (fun k_ hk => (.inr (Nat.le_trans (by first | exact HK.out.1 | exact (show Kept w _ (fun k_ => P0_ k_) from by repeat (first | (with_reducible first | exact HK.out | apply Kept.alloc | apply Kept.drewN | apply Kept.drew | refine Kept.setCell ?_ (.inr GW134.out) _ | refine Kept.setCell ?_ (.inr GW135.out) _ | refine Kept.setCell ?_ (.inr GW136.out) _) | exact HK.out)).1) hk)))); (case aO => exact (by (with_reducible repeat (first | apply Kd.R_alloc | apply Kd.R_drewN | apply Kd.R_drew)); exact HO_0.out)); (case aS => exact (below_size (xW HB))); (case aL => have := LMc80.out; omega); intro v143 w95 ho hb hg hat; rw [← Ny142.out] at ho; have HO144 := xm (ho); replace BK134 := xm (blk_grown (g := gb134) (o := .cells #[.string a1_0, .int .i64 a1_1, .int .i64 a1_2, .slice A1_3 l1_3.length c1_3, .slice A1_4 l1_4.length c1_4, .bool a1_5, .bool a1_6, .slice A1_7 l1_7.length c1_7, .int .i64 a1_8, .int .i64 a1_9, .int .i64 a1_10] 26 (0, 0)) (xK BK134) hg (Kd.R_ne HO_0.out BK134.out (by decide))); replace BK135 := xm (blk_grown (g := gb135) (o := .cells #[.slice (some ad137) l2_0.length c2_0, .slice A2_1 l2_1.length c2_1, .slice A2_2 l2_2.length c2_2, .int .i64 a2_3, .int .i64 a2_4] 29 (0, 0)) (xK BK135) hg (Kd.R_ne HO_0.out BK135.out (by decide))); replace BK136 := xm (blk_grown (g := gb136) (o := .cells #[.int .i64 a4_0, .int .i64 a4_1, .int .i64 a4_2, .int .i64 a4_3] 74 (0, 0)) (xK BK136) hg (Kd.R_ne HO_0.out BK136.out (by decide))); replace HK := xm (Kept.of_grown (S := (fun k_ => P0_ k_)) hg (by repeat (first | (with_reducible first | exact HK.out | apply Kept.alloc | apply Kept.drewN | apply Kept.drew | refine Kept.setCell ?_ (.inr GW134.out) _ | refine Kept.setCell ?_ (.inr GW135.out) _ | refine Kept.setCell ?_ (.inr GW136.out) _) | exact HK.out)) (fun k_ e_ => (HO_0.out.1 k_ e_))); replace HB := xm (hb); clear HO_0; clear ho hb hg hat))
                   go_roundg kj46
                   case measure => have := HJ8.out; have := HK2.out; have := HJ25.out; have := HJ46.out; omega
                   case rel => exact ⟨(y142), ((wrap64 (x13_2 + a4_0))), ((wrap64 (x14_2 + x12_8))), (wrap64 (x40_2 + 1)), (xrf), (xrf), (xrf), H', ⟨by have := HJ8.out; have := HK2.out; have := HJ25.out; have := HJ46.out; omega⟩, ⟨by (with_reducible repeat (first | apply Kd.R_alloc | apply Kd.R_drewN | apply Kd.R_drew)); exact HO144.out⟩, ⟨xK BK134⟩, ⟨xK BK135⟩, ⟨xK BK136⟩, ⟨by repeat (first | (with_reducible first | exact HK.out | apply Kept.alloc | apply Kept.drewN | apply Kept.drew | refine Kept.setCell ?_ (.inr GW134.out) _ | refine Kept.setCell ?_ (.inr GW135.out) _ | refine Kept.setCell ?_ (.inr GW136.out) _) | exact HK.out)⟩, ⟨xW HB⟩⟩
                 ·rw [if_neg c80] at H
                  exact absurd H (by simp)
                ·replace c78 := Bool.eq_false_iff.mpr c78
                 subst c78
                 rw [if_neg xF] at H
                 by_cases c96 : t140 ≥ 0
                 ·rw [if_pos c96] at H
                  have c96b0 := decide_eq_true c96
                  clear c96
                  obtain rfl := Option.some.inj H
                  go_wp2
                  go_ret
                  exact ⟨_, by first | rfl | (simp [errW_none, errW_some] <;> rfl) | (simp only [← hji43]; first | rfl | (simp [errW_none, errW_some] <;> rfl)) | (simp [*, errW_none, errW_some] <;> rfl), by (with_reducible repeat (first | apply Kd.R_alloc | apply Kd.R_drewN | apply Kd.R_drew)); exact HO_0.out, xW HB, by repeat (first | (with_reducible first | exact HK.out | apply Kept.alloc | apply Kept.drewN | apply Kept.drew | refine Kept.setCell ?_ (.inr GW134.out) _ | refine Kept.setCell ?_ (.inr GW135.out) _ | refine Kept.setCell ?_ (.inr GW136.out) _) | exact HK.out)⟩
                 ·rw [if_neg c96] at H
                  have c96b0 := decide_eq_false c96
                  clear c96
                  have H' := xm H
                  clear H
                  go_wp2
                  go_roundg kj46
                  case measure => have := HJ8.out; have := HK2.out; have := HJ25.out; have := HJ46.out; omega
                  case rel => exact ⟨(x0_2), ((wrap64 (x13_2 + a4_0))), ((wrap64 (x14_2 + x12_8))), (wrap64 (x40_2 + 1)), (xrf), (xrf), (xrf), H', ⟨by have := HJ8.out; have := HK2.out; have := HJ25.out; have := HJ46.out; omega⟩, ⟨by (with_reducible repeat (first | apply Kd.R_alloc | apply Kd.R_drewN | apply Kd.R_drew)); exact HO_0.out⟩, ⟨xK BK134⟩, ⟨xK BK135⟩, ⟨xK BK136⟩, ⟨by repeat (first | (with_reducible first | exact HK.out | apply Kept.alloc | apply Kept.drewN | apply Kept.drew | refine Kept.setCell ?_ (.inr GW134.out) _ | refine Kept.setCell ?_ (.inr GW135.out) _ | refine Kept.setCell ?_ (.inr GW136.out) _) | exact HK.out)⟩, ⟨xW HB⟩⟩
             ·rw [if_neg c45] at H
              exact absurd H (by simp)
            ·rw [if_neg c44] at H
             exact absurd H (by simp)
        ·rw [if_neg c25] at H
         have c25b0 := decide_eq_false c25
         clear c25
         obtain rfl := Option.some.inj H
         go_wp2
         go_ret
         exact ⟨_, xer, by (with_reducible repeat (first | apply Kd.R_alloc | apply Kd.R_drewN | apply Kd.R_drew)); exact HO_0.out, xW HB, by repeat (first | (with_reducible first | exact HK.out | apply Kept.alloc | apply Kept.drewN | apply Kept.drew | refine Kept.setCell ?_ (.inr GW134.out) _ | refine Kept.setCell ?_ (.inr GW135.out) _ | refine Kept.setCell ?_ (.inr GW136.out) _) | exact HK.out)⟩
  ·rw [if_neg c7] at H
   exact absurd H (by simp)
 ·rw [if_neg c6] at H
  exact absurd H (by simp)

/-! ### cmp_Or_int: function 70 -/
def cmp_Or_int.l0 : Nat → Int → List Int → Int → Int → Option (Int)
  | 0, _, _, _, _ => none
  | k + 1, x3, x6, x7, x8 => if x8 < x7 then (if 0 ≤ x8 then (if x8 < (x6.length : Int) then (if (rd x6 x8) = x3 then (cmp_Or_int.l0 k x3 x6 x7 (wrap64 (x8 + 1))) else (some (rd x6 x8))) else (none)) else (none)) else (some x3)
def cmp_Or_int.f (k : Nat) (l0 : List Int) : Option (Int) := cmp_Or_int.l0 k 0 l0 (l0.length : Int) 0
theorem cmp_Or_int.mono_l : ∀ k, LM (LM (LM (LM (LeO)))) (cmp_Or_int.l0 k) (cmp_Or_int.l0 (k + 1))
  | 0 => by (repeat (first | exact LeO.none _ | intro _))
  | k + 1 => by
    have ih0 := cmp_Or_int.mono_l k
    ((repeat (first | (with_reducible refine LeO.st ?_) | intro _)); constructor; (first | unfold cmp_Or_int.l0); repeat' first | (with_reducible first | apply ih0 | exact LeO.refl _ | exact LeO.none _ | refine LeO.ite ?_ ?_ | refine LeO.bind ?_ (fun _ => ?_)) | apply ih0 | exact LeO.none _ | refine LeO.ite ?_ ?_ | refine LeO.bind ?_ (fun _ => ?_))
theorem cmp_Or_int.mono : ∀ a0 k, LeO (cmp_Or_int.f k a0) (cmp_Or_int.f (k + 1) a0) := by
  intros; rename_i k
  have ih0 := cmp_Or_int.mono_l k
  unfold cmp_Or_int.f
  repeat' first | (with_reducible first | apply ih0 | exact LeO.refl _ | exact LeO.none _ | refine LeO.ite ?_ ?_ | refine LeO.bind ?_ (fun _ => ?_)) | apply ih0 | exact LeO.none _ | refine LeO.ite ?_ ?_ | refine LeO.bind ?_ (fun _ => ?_)
theorem cmp_Or_int.calls (k : Nat) (A0 : Option Addr) (c0 : Nat) (l0 : List Int) (r : Int) (w : World) (hr0 : Kd.C (Kd.int .i64) w A0 l0.length l0) (hc0 : l0.length ≤ c0) (h : cmp_Or_int.f k l0 = some r) :
    Calls Try.prog 70 #[.slice A0 l0.length c0] w fun e w' => e = .returned (.int .i64 r) ∧ Drawn0 w w' := by
 have HR0 := xm hr0; have HC0 := xm hc0; clear hr0 hc0
 have H : (cmp_Or_int.l0 k 0 l0 (l0.length : Int) 0) = some r := h
 clear h
 have H' := xm H
 clear H
 go_enter Try.func70, Try.ntmps70
 go_wp2
 go_loopg [8] k (fun kq vs8 w' => ∃ (x8_1 : Int), vs8 = .int .i64 x8_1 ∧ Aside0 (cmp_Or_int.l0 kq 0 l0 (l0.length : Int) x8_1 = some r) ∧ Aside0 (kq ≤ k) ∧ Drawn0 w w')
 case atStart => exact ⟨(0), (xrf), H', ⟨Nat.le_refl _⟩, by repeat (first | exact Drawn0.refl _ | apply Drawn0.step)⟩
 case round =>
  clear H'
  obtain ⟨x8_1, rfl, HA, HK1, ⟨m1, rfl⟩⟩ := hrel
  cases gk with
  | zero => exact absurd HA.out (by simp [cmp_Or_int.l0])
  | succ k1 =>
   have H := HA.out; clear HA
   simp only [cmp_Or_int.l0] at H
   by_cases c2 : x8_1 < (l0.length : Int)
   ·rw [if_pos c2] at H
    have c2b0 := decide_eq_true c2
    clear c2
    by_cases c3 : 0 ≤ x8_1
    ·rw [if_pos c3] at H
     have c3b0 := decide_eq_true c3
     clear c3
     by_cases c4 : x8_1 < (l0.length : Int)
     ·rw [if_pos c4] at H
      have c4b0 := decide_eq_true c4
      clear c4
      by_cases c5 : (rd l0 x8_1) = 0
      ·rw [if_pos c5] at H
       have c5b0 := beq_iff_eq.mpr c5
       have c5b1 := bne_eq_false_iff_eq.mpr c5
       clear c5
       have H' := xm H
       clear H
       have p145 : 0 ≤ (x8_1 : Int) := xO
       have q145 : x8_1 < (l0.length : Int) := xO
       obtain ⟨ad145, e145, hx145_0⟩ := Kd.at_int HR0.out x8_1 p145 q145
       cases e145
       replace p145 := eq_true p145; replace q145 := eq_true q145
       go_wp2
       go_roundg k1
       case measure => have := HK1.out; omega
       case rel => exact ⟨(wrap64 (x8_1 + 1)), (xrf), H', ⟨by have := HK1.out; omega⟩, by repeat (first | exact Drawn0.refl _ | apply Drawn0.step)⟩
      ·rw [if_neg c5] at H
       have c5b0 := beq_eq_false_iff_ne.mpr c5
       have c5b1 := bne_iff_ne.mpr c5
       obtain rfl := Option.some.inj H
       have p145 : 0 ≤ (x8_1 : Int) := xO
       have q145 : x8_1 < (l0.length : Int) := xO
       obtain ⟨ad145, e145, hx145_0⟩ := Kd.at_int HR0.out x8_1 p145 q145
       cases e145
       replace p145 := eq_true p145; replace q145 := eq_true q145
       go_wp2
       go_ret
       exact ⟨xrf, by repeat (first | exact Drawn0.refl _ | apply Drawn0.step)⟩
     ·rw [if_neg c4] at H
      exact absurd H (by simp)
    ·rw [if_neg c3] at H
     exact absurd H (by simp)
   ·rw [if_neg c2] at H
    have c2b0 := decide_eq_false c2
    clear c2
    obtain rfl := Option.some.inj H
    go_wp2
    go_ret
    exact ⟨xrf, by repeat (first | exact Drawn0.refl _ | apply Drawn0.step)⟩

/-! ### cmp_isNaN_int: function 84 -/
def cmp_isNaN_int.f (a0 : Int) : Option (Bool) := some (a0 != a0)
theorem cmp_isNaN_int.calls (a0 : Int) (r : Bool) (w : World) (h : cmp_isNaN_int.f a0 = some r) :
    Calls Try.prog 84 #[.int .i64 a0] w fun e w' => e = .returned (.bool r) ∧ Drawn0 w w' := by
 have H : (some (a0 != a0)) = some r := h
 clear h
 obtain rfl := Option.some.inj H
 go_enter Try.func84, Try.ntmps84
 go_wp2
 go_ret
 exact ⟨xrf, by repeat (first | exact Drawn0.refl _ | apply Drawn0.step)⟩

/-! ### cmp_Compare_int: function 71 -/
def cmp_Compare_int.f (a0 : Int) (a1 : Int) : Option (Int) := (cmp_isNaN_int.f a0).bind fun t146 => ((cmp_isNaN_int.f a1).bind fun t147 => (if t146 = true then (if t147 = true then (some 0) else (some (-1))) else (if t147 = true then (some 1) else (if a0 < a1 then (some (-1)) else (if a0 > a1 then (some 1) else (some 0))))))
theorem cmp_Compare_int.calls (a0 : Int) (a1 : Int) (r : Int) (w : World) (h : cmp_Compare_int.f a0 a1 = some r) :
    Calls Try.prog 71 #[.int .i64 a0, .int .i64 a1] w fun e w' => e = .returned (.int .i64 r) ∧ Drawn0 w w' := by
 have H : ((cmp_isNaN_int.f a0).bind fun t146 => ((cmp_isNaN_int.f a1).bind fun t147 => (if t146 = true then (if t147 = true then (some 0) else (some (-1))) else (if t147 = true then (some 1) else (if a0 < a1 then (some (-1)) else (if a0 > a1 then (some 1) else (some 0))))))) = some r := h
 clear h; replace H := Option.bind_eq_some_iff.mp H
 obtain ⟨t146, A30, H⟩ := H
 try dsimp only at H
 have A3 := xm A30; clear A30; replace H := Option.bind_eq_some_iff.mp H
 obtain ⟨t147, A40, H⟩ := H
 try dsimp only at H
 have A4 := xm A40; clear A40
 by_cases c5 : t146 = true
 ·subst c5
  rw [if_pos rfl] at H
  by_cases c6 : t147 = true
  ·subst c6
   rw [if_pos rfl] at H
   obtain rfl := Option.some.inj H
   go_enter Try.func71, Try.ntmps71
   go_wp2_with (first | ((with_reducible refine gate_callee (f := 84) rfl ?_); refine xL (some 8) Try.func84 #[.int .i64 a0] rfl ?_; (with_reducible refine (cmp_isNaN_int.calls a0 true _ A3.out).mono ?_); rintro e w' ⟨rfl, ⟨nd, rfl⟩⟩; refine ⟨_, rfl, ?_⟩) | ((with_reducible refine gate_callee (f := 84) rfl ?_); refine xL (some 10) Try.func84 #[.int .i64 a1] rfl ?_; (with_reducible refine (cmp_isNaN_int.calls a1 true _ A4.out).mono ?_); rintro e w' ⟨rfl, ⟨nd, rfl⟩⟩; refine ⟨_, rfl, ?_⟩))
   go_ret
   exact ⟨xrf, by repeat (first | exact Drawn0.refl _ | apply Drawn0.step)⟩
  ·replace c6 := Bool.eq_false_iff.mpr c6
   subst c6
   rw [if_neg xF] at H
   obtain rfl := Option.some.inj H
   go_enter Try.func71, Try.ntmps71
   go_wp2_with (first | ((with_reducible refine gate_callee (f := 84) rfl ?_); refine xL (some 8) Try.func84 #[.int .i64 a0] rfl ?_; (with_reducible refine (cmp_isNaN_int.calls a0 true _ A3.out).mono ?_); rintro e w' ⟨rfl, ⟨nd, rfl⟩⟩; refine ⟨_, rfl, ?_⟩) | ((with_reducible refine gate_callee (f := 84) rfl ?_); refine xL (some 10) Try.func84 #[.int .i64 a1] rfl ?_; (with_reducible refine (cmp_isNaN_int.calls a1 false _ A4.out).mono ?_); rintro e w' ⟨rfl, ⟨nd, rfl⟩⟩; refine ⟨_, rfl, ?_⟩))
   go_ret
   exact ⟨xrf, by repeat (first | exact Drawn0.refl _ | apply Drawn0.step)⟩
 ·replace c5 := Bool.eq_false_iff.mpr c5
  subst c5
  rw [if_neg xF] at H
  by_cases c7 : t147 = true
  ·subst c7
   rw [if_pos rfl] at H
   obtain rfl := Option.some.inj H
   go_enter Try.func71, Try.ntmps71
   go_wp2_with (first | ((with_reducible refine gate_callee (f := 84) rfl ?_); refine xL (some 8) Try.func84 #[.int .i64 a0] rfl ?_; (with_reducible refine (cmp_isNaN_int.calls a0 false _ A3.out).mono ?_); rintro e w' ⟨rfl, ⟨nd, rfl⟩⟩; refine ⟨_, rfl, ?_⟩) | ((with_reducible refine gate_callee (f := 84) rfl ?_); refine xL (some 10) Try.func84 #[.int .i64 a1] rfl ?_; (with_reducible refine (cmp_isNaN_int.calls a1 true _ A4.out).mono ?_); rintro e w' ⟨rfl, ⟨nd, rfl⟩⟩; refine ⟨_, rfl, ?_⟩))
   go_ret
   exact ⟨xrf, by repeat (first | exact Drawn0.refl _ | apply Drawn0.step)⟩
  ·replace c7 := Bool.eq_false_iff.mpr c7
   subst c7
   rw [if_neg xF] at H
   by_cases c8 : a0 < a1
   ·rw [if_pos c8] at H
    have c8b0 := decide_eq_true c8
    clear c8
    obtain rfl := Option.some.inj H
    go_enter Try.func71, Try.ntmps71
    go_wp2_with (first | ((with_reducible refine gate_callee (f := 84) rfl ?_); refine xL (some 8) Try.func84 #[.int .i64 a0] rfl ?_; (with_reducible refine (cmp_isNaN_int.calls a0 false _ A3.out).mono ?_); rintro e w' ⟨rfl, ⟨nd, rfl⟩⟩; refine ⟨_, rfl, ?_⟩) | ((with_reducible refine gate_callee (f := 84) rfl ?_); refine xL (some 10) Try.func84 #[.int .i64 a1] rfl ?_; (with_reducible refine (cmp_isNaN_int.calls a1 false _ A4.out).mono ?_); rintro e w' ⟨rfl, ⟨nd, rfl⟩⟩; refine ⟨_, rfl, ?_⟩))
    go_ret
    exact ⟨xrf, by repeat (first | exact Drawn0.refl _ | apply Drawn0.step)⟩
   ·rw [if_neg c8] at H
    have c8b0 := decide_eq_false c8
    clear c8
    by_cases c9 : a0 > a1
    ·rw [if_pos c9] at H
     have c9b0 := decide_eq_true c9
     clear c9
     obtain rfl := Option.some.inj H
     go_enter Try.func71, Try.ntmps71
     go_wp2_with (first | ((with_reducible refine gate_callee (f := 84) rfl ?_); refine xL (some 8) Try.func84 #[.int .i64 a0] rfl ?_; (with_reducible refine (cmp_isNaN_int.calls a0 false _ A3.out).mono ?_); rintro e w' ⟨rfl, ⟨nd, rfl⟩⟩; refine ⟨_, rfl, ?_⟩) | ((with_reducible refine gate_callee (f := 84) rfl ?_); refine xL (some 10) Try.func84 #[.int .i64 a1] rfl ?_; (with_reducible refine (cmp_isNaN_int.calls a1 false _ A4.out).mono ?_); rintro e w' ⟨rfl, ⟨nd, rfl⟩⟩; refine ⟨_, rfl, ?_⟩))
     go_ret
     exact ⟨xrf, by repeat (first | exact Drawn0.refl _ | apply Drawn0.step)⟩
    ·rw [if_neg c9] at H
     have c9b0 := decide_eq_false c9
     clear c9
     obtain rfl := Option.some.inj H
     go_enter Try.func71, Try.ntmps71
     go_wp2_with (first | ((with_reducible refine gate_callee (f := 84) rfl ?_); refine xL (some 8) Try.func84 #[.int .i64 a0] rfl ?_; (with_reducible refine (cmp_isNaN_int.calls a0 false _ A3.out).mono ?_); rintro e w' ⟨rfl, ⟨nd, rfl⟩⟩; refine ⟨_, rfl, ?_⟩) | ((with_reducible refine gate_callee (f := 84) rfl ?_); refine xL (some 10) Try.func84 #[.int .i64 a1] rfl ?_; (with_reducible refine (cmp_isNaN_int.calls a1 false _ A4.out).mono ?_); rintro e w' ⟨rfl, ⟨nd, rfl⟩⟩; refine ⟨_, rfl, ?_⟩))
     go_ret
     exact ⟨xrf, by repeat (first | exact Drawn0.refl _ | apply Drawn0.step)⟩

/-! ### moves_compare: function 57 -/
def moves_compare.f (k : Nat) (a0_0 : Int) (a0_1 : Int) (a0_2 : Int) (a1_0 : Int) (a1_1 : Int) (a1_2 : Int) : Option (Int) := (cmp_Compare_int.f a0_0 a1_0).bind fun t150 => ((cmp_Compare_int.f a0_1 a1_1).bind fun t151 => ((cmp_Compare_int.f a0_2 a1_2).bind fun t152 => ((cmp_Or_int.f k (([t150, t151, t152] : List Int))).bind fun t156 => (some t156))))
theorem moves_compare.mono : ∀ a0 a1 a2 a3 a4 a5 k, LeO (moves_compare.f k a0 a1 a2 a3 a4 a5) (moves_compare.f (k + 1) a0 a1 a2 a3 a4 a5) := by
  intros; rename_i k
  unfold moves_compare.f
  repeat' first | (with_reducible first | apply cmp_Or_int.mono | exact LeO.refl _ | exact LeO.none _ | refine LeO.ite ?_ ?_ | refine LeO.bind ?_ (fun _ => ?_)) | apply cmp_Or_int.mono | exact LeO.none _ | refine LeO.ite ?_ ?_ | refine LeO.bind ?_ (fun _ => ?_)
def moves_compare.T1 : Bool × List (List Nat × List Nat) := (true, [([], []), ([0], [0]), ([], []), ([2], [2]), ([1, 3], [1, 3]), ([], []), ([5], [5]), ([], []), ([7], [7]), ([6, 8, 4], [6, 8]), ([], []), ([10], [10]), ([], []), ([12], [12]), ([11, 13, 9], [11, 13]), ([4, 9, 14], [4, 9, 14]), ([15, 14], [15]), ([16, 16, 0, 1, 2, 3, 4, 5, 6, 7, 8, 9, 10, 11, 12, 13, 14, 15, 16], [16])])
def moves_compare.B1 : List Nat := [0, 1, 0, 4, 15, 0, 32, 0, 128, 511, 0, 1024, 0, 4096, 16383, 32767, 65535, 131071]
theorem moves_compare.tab1 : rtab .any (opsOf Try.f57 1) = moves_compare.T1 := by kernel_rfl
theorem moves_compare.bits1 : waitsOk moves_compare.T1.2 moves_compare.B1 = true := by kernel_rfl
theorem moves_compare.calls (k : Nat) (a0_0 : Int) (a0_1 : Int) (a0_2 : Int) (a1_0 : Int) (a1_1 : Int) (a1_2 : Int) (r : Int) (w : World) (h : moves_compare.f k a0_0 a0_1 a0_2 a1_0 a1_1 a1_2 = some r) :
    Calls Try.prog 57 #[.agg #[.int .i64 a0_0, .int .i64 a0_1, .int .i64 a0_2], .agg #[.int .i64 a1_0, .int .i64 a1_1, .int .i64 a1_2]] w fun e w' => e = .returned (.int .i64 r) ∧ Below w.heap.size w w' := by
 have hu39 := Try.underlying39; have HB := xm (Below.refl w.heap.size w); have hss_ := @isSome_setCell
 have H : ((cmp_Compare_int.f a0_0 a1_0).bind fun t150 => ((cmp_Compare_int.f a0_1 a1_1).bind fun t151 => ((cmp_Compare_int.f a0_2 a1_2).bind fun t152 => ((cmp_Or_int.f k (([t150, t151, t152] : List Int))).bind fun t156 => (some t156))))) = some r := h
 clear h; replace H := Option.bind_eq_some_iff.mp H
 obtain ⟨t150, A30, H⟩ := H
 try dsimp only at H
 have A3 := xm A30; clear A30; replace H := Option.bind_eq_some_iff.mp H
 obtain ⟨t151, A40, H⟩ := H
 try dsimp only at H
 have A4 := xm A40; clear A40; replace H := Option.bind_eq_some_iff.mp H
 obtain ⟨t152, A50, H⟩ := H
 replace H : ((cmp_Or_int.f k (([t150, t151, t152] : List Int))).bind fun t156 => (some t156)) = some r := H
 have A5 := xm A50; clear A50
 obtain ⟨y153, hy153⟩ : ∃ y_ : List Int, y_ = (([t150, t151, t152] : List Int)) := ⟨_, rfl⟩
 replace H : ((cmp_Or_int.f k y153).bind fun t156 => (some t156)) = some r := by first | (rw [hy153]; with_reducible exact H) | (have H2_ := (Option.bind_some _ _).symm.trans H; rw [hy153]; with_reducible exact H2_) | (have H2_ := (Option.bind_some _ _).symm.trans H; with_reducible exact H2_) | with_reducible exact H | (rw [hy153]; exact H) | exact H
 have Ny153 := xm hy153; clear hy153; replace H := Option.bind_eq_some_iff.mp H
 obtain ⟨t156, A60, H⟩ := H
 replace H : (some t156) = some r := H
 have A6 := xm A60; clear A60
 obtain rfl := Option.some.inj H
 go_enter Try.func57, Try.ntmps57
 try go_wp2_with (first | ((with_reducible refine gate_dst (N := 2) rfl ?_); refine xG (cs := #[.int .i64 a0_0, .int .i64 a0_1, .int .i64 a0_2]) (t := 39) ?_; intro gb148 hg w7 hbox hb; have BK148 := xm (hbox); have GW148 := xm (xZ HB hg); have GE148 := xm (xZ HB hg); replace HB := xm (xS HB hb); clear hb hbox hg) | ((with_reducible refine gate_dst (N := 3) rfl ?_); refine xG (cs := #[.int .i64 a1_0, .int .i64 a1_1, .int .i64 a1_2]) (t := 39) ?_; intro gb149 hg w8 hbox hb; have BK149 := xm (hbox); have GW149 := xm (xZ HB hg); have GE149 := xm (xZ HB hg); have NB148_149 := xm (xN BK148 hg); have NB149_148 := xm (xM BK148 hg); replace BK148 := xm (xB BK148 hb); replace HB := xm (xS HB hb); clear hb hbox hg))
 replace BK148 := xm (blk_drew BK148.out); replace BK149 := xm (blk_drew BK149.out); replace HB := xm (below_drew1 HB.out)
 refine start_ (n := 18) (S := fun w' => ce w' gb148 0 (.int .i64 a0_0) ∧ ce w' gb148 1 (.int .i64 a0_1) ∧ ce w' gb148 2 (.int .i64 a0_2) ∧ ce w' gb149 0 (.int .i64 a1_0) ∧ ce w' gb149 1 (.int .i64 a1_1) ∧ ce w' gb149 2 (.int .i64 a1_2)) (ds := []) (mk 18 0) (by kernel_rfl) rfl rfl ⟨xc BK148 0, xc BK148 1, xc BK148 2, xc BK149 0, xc BK149 1, xc BK149 2⟩ (fun hHeld => ?_); refine with_tabW moves_compare.tab1 moves_compare.bits1 (fun HT_ HW_ => ?_)
 generalize w8.drew = w9 at BK148 BK149 HB hHeld ⊢; refine pu_ 0 5 HT_ ?_; refine pu_ 2 7 HT_ ?_; refine pu_ 5 10 HT_ ?_; refine pu_ 7 12 HT_ ?_; refine pu_ 10 15 HT_ ?_; refine pu_ 12 17 HT_ ?_; refine tk_ 1 6 HT_ HW_ hHeld ?_; refine tk_ 3 8 HT_ HW_ hHeld ?_; refine tk_ 6 11 HT_ HW_ hHeld ?_; refine tk_ 8 13 HT_ HW_ hHeld ?_; refine tk_ 11 16 HT_ HW_ hHeld ?_; refine tk_ 13 18 HT_ HW_ hHeld ?_
 refine one_ (i := 4) (N := some 9) #[true, true, true, true, true, true, true, true, true, false, true, true, true, true, false, false, false, false] rfl rfl (one_of HT_.out (by kernel_rfl)) (by decide) (fun K hK => ?_)
 refine goes_ Try.func71 (by kernel_rfl) rfl #[.int .i64 a0_0, .int .i64 a1_0] (by rfl) rfl rfl (by (try simp only [List.map_toArray, List.map_cons, List.map_nil]); first | done | rfl | (simp only [List.length_drop, List.length_take]; rfl)) ?_
 with_reducible refine (cmp_Compare_int.calls a0_0 a1_0 t150 _ A3.out).mono ?_
 rintro e w' ⟨rfl, ⟨nd, rfl⟩⟩
 refine ⟨_, rfl, ?_⟩
 refine hK.out _ _ ⟨(blk_cell BK148.out 0).trans rfl, (blk_cell BK148.out 1).trans rfl, (blk_cell BK148.out 2).trans rfl, (blk_cell BK149.out 0).trans rfl, (blk_cell BK149.out 1).trans rfl, (blk_cell BK149.out 2).trans rfl⟩ (fun hHeld => ?_)
 clear hK K
 refine norm_ (a' := ?_) ?_ ?_
 rotate_left
 ·show Act.put _ (some 9) _ = _
  simp only [Act.put, List.setIfInBounds_toArray, List.set_cons_zero, List.set_cons_succ, i64_w, i32_w]
  rfl
 refine one_ (i := 9) (N := some 14) #[true, true, true, true, true, true, true, true, true, true, true, true, true, true, false, false, false, false] rfl rfl (one_of HT_.out (by kernel_rfl)) (by decide) (fun K hK => ?_)
 refine goes_ Try.func71 (by kernel_rfl) rfl #[.int .i64 a0_1, .int .i64 a1_1] (by rfl) rfl rfl (by (try simp only [List.map_toArray, List.map_cons, List.map_nil]); first | done | rfl | (simp only [List.length_drop, List.length_take]; rfl)) ?_
 with_reducible refine (cmp_Compare_int.calls a0_1 a1_1 t151 _ A4.out).mono ?_
 rintro e w' ⟨rfl, ⟨nd, rfl⟩⟩
 refine ⟨_, rfl, ?_⟩
 refine hK.out _ _ ⟨(blk_cell BK148.out 0).trans rfl, (blk_cell BK148.out 1).trans rfl, (blk_cell BK148.out 2).trans rfl, (blk_cell BK149.out 0).trans rfl, (blk_cell BK149.out 1).trans rfl, (blk_cell BK149.out 2).trans rfl⟩ (fun hHeld => ?_)
 clear hK K
 refine norm_ (a' := ?_) ?_ ?_
 rotate_left
 ·show Act.put _ (some 14) _ = _
  simp only [Act.put, List.setIfInBounds_toArray, List.set_cons_zero, List.set_cons_succ, i64_w, i32_w]
  rfl
 refine one_ (i := 14) (N := some 19) #[true, true, true, true, true, true, true, true, true, true, true, true, true, true, true, false, false, false] rfl rfl (one_of HT_.out (by kernel_rfl)) (by decide) (fun K hK => ?_)
 refine goes_ Try.func71 (by kernel_rfl) rfl #[.int .i64 a0_2, .int .i64 a1_2] (by rfl) rfl rfl (by (try simp only [List.map_toArray, List.map_cons, List.map_nil]); first | done | rfl | (simp only [List.length_drop, List.length_take]; rfl)) ?_
 with_reducible refine (cmp_Compare_int.calls a0_2 a1_2 t152 _ A5.out).mono ?_
 rintro e w' ⟨rfl, ⟨nd, rfl⟩⟩
 refine ⟨_, rfl, ?_⟩
 refine hK.out _ _ ⟨(blk_cell BK148.out 0).trans rfl, (blk_cell BK148.out 1).trans rfl, (blk_cell BK148.out 2).trans rfl, (blk_cell BK149.out 0).trans rfl, (blk_cell BK149.out 1).trans rfl, (blk_cell BK149.out 2).trans rfl⟩ (fun hHeld => ?_)
 clear hK K
 refine norm_ (a' := ?_) ?_ ?_
 rotate_left
 ·show Act.put _ (some 19) _ = _
  simp only [Act.put, List.setIfInBounds_toArray, List.set_cons_zero, List.set_cons_succ, i64_w, i32_w]
  rfl
 refine one_ (i := 15) (N := some 20) #[true, true, true, true, true, true, true, true, true, true, true, true, true, true, true, true, false, false] rfl rfl (one_of HT_.out (by kernel_rfl)) (by decide) (fun K hK => ?_)
 refine Kd.R_lit_step (Kd.int .i64) _ 3 ?hg (N := 20) ?hd (xs := ([t150, t151, t152] : List Int)) (inner := [.int .i64 t150, .int .i64 t151, .int .i64 t152]) (ok := fun _ => True) (okp := fun _ => True) ?hr ?hp (fun _ hk => hk) trivial (Below.refl _ _) (Nat.le_refl _) (by simp) ?_; (case hd => rfl); (case hg => rfl); (case hr => first | (go_simp; done) | (go_simp; rfl)); (case hp => exact (Reps.one (show Kd.M (Kd.int .i64) _ _ _ t150 [.int .i64 t150] from rfl) (Reps.one (show Kd.M (Kd.int .i64) _ _ _ t151 [.int .i64 t151] from rfl) (Reps.one (show Kd.M (Kd.int .i64) _ _ _ t152 [.int .i64 t152] from rfl) (Reps.none _ _)))))
 intro v154 w10 ho11 hb hg_ hnew_
 clear hg_ hnew_
 (first | rw [← Ny153.out] at ho11 | (simp only [Int.reduceToNat] at ho11; rw [← Ny153.out] at ho11))
 have HO155 := xm (Kd.R_lower ho11 (below_size (xW HB))); replace BK148 := xm (xB BK148 hb); replace BK149 := xm (xB BK149 hb); replace HB := xm (xS HB hb); clear hb ho11
 obtain ⟨Ao12, co12, eo12⟩ := Kd.R_slice HO155.out
 (first | subst eo12 | (injection eo12 with f1_ f2_ f3_; have f4_ := f1_.symm; have f5_ := f3_.symm; clear f1_ f2_ f3_; subst f4_; subst f5_))
 refine hK.out _ _ ⟨(blk_cell BK148.out 0).trans rfl, (blk_cell BK148.out 1).trans rfl, (blk_cell BK148.out 2).trans rfl, (blk_cell BK149.out 0).trans rfl, (blk_cell BK149.out 1).trans rfl, (blk_cell BK149.out 2).trans rfl⟩ (fun hHeld => ?_)
 clear hK K
 refine norm_ (a' := ?_) ?_ ?_
 rotate_left
 ·show Act.put _ (some 20) _ = _
  simp only [Act.put, List.setIfInBounds_toArray, List.set_cons_zero, List.set_cons_succ, i64_w, i32_w]
  rfl
 refine one_ (i := 16) (N := some 21) #[true, true, true, true, true, true, true, true, true, true, true, true, true, true, true, true, true, false] rfl rfl (one_of HT_.out (by kernel_rfl)) (by decide) (fun K hK => ?_)
 refine goes_ Try.func70 (by kernel_rfl) rfl #[.slice Ao12 y153.length co12] (by rfl) rfl rfl (by (try simp only [List.map_toArray, List.map_cons, List.map_nil]); first | done | rfl | (simp only [List.length_drop, List.length_take]; rfl)) ?_
 with_reducible refine (cmp_Or_int.calls k _ _ y153 t156 _ ?side1 ?side2 A6.out).mono ?_
 (case side1 => repeat (first | exact (Kd.R_reads' HO155.out).2.2 | (with_reducible refine Kd.C_alloc ?_ _) | (with_reducible refine Kd.C_drewN ?_ _) | (with_reducible refine Kd.C_drew ?_)))
 (case side2 => exact (Kd.R_reads' HO155.out).2.1)
 rintro e w' ⟨rfl, ⟨nd, rfl⟩⟩
 refine ⟨_, rfl, ?_⟩
 refine hK.out _ _ ⟨(blk_cell BK148.out 0).trans rfl, (blk_cell BK148.out 1).trans rfl, (blk_cell BK148.out 2).trans rfl, (blk_cell BK149.out 0).trans rfl, (blk_cell BK149.out 1).trans rfl, (blk_cell BK149.out 2).trans rfl⟩ (fun hHeld => ?_)
 clear hK K
 refine norm_ (a' := ?_) ?_ ?_
 rotate_left
 ·show Act.put _ (some 21) _ = _
  simp only [Act.put, List.setIfInBounds_toArray, List.set_cons_zero, List.set_cons_succ, i64_w, i32_w]
  rfl
 refine pu_ 17 4 HT_ ?_
 refine done_ (done_of HT_.out (by kernel_rfl)) ?_
 try go_wp2
 go_ret
 exact ⟨xer, xW HB⟩

end Go.Proofs.Ytloadbbndnmdlaa.PEndsOf
