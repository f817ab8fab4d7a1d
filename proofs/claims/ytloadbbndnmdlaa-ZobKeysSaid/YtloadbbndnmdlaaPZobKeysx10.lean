-- Printed by a program of this claim's writer (wip/ext): an extension of the kit's print.
import Derived.Test.YtloadbbndnmdlaaPZobKeysx0
import Derived.Test.YtloadbbndnmdlaaPZobKeysx7
import Derived.Test.YtloadbbndnmdlaaPZobKeysx8
import Derived.Test.YtloadbbndnmdlaaPZobKeysx9
import Derived.Test.YtloadbbndnmdlaaMoveTail
namespace Go.Proofs.Ytloadbbndnmdlaa.PZobKeys
open Go.RowKit Go.Proofs.YtloadbbndnmdlaaW.PrintWords Go.Proofs.YtloadbbndnmdlaaW.PrintLast Go.Proofs.YtloadbbndnmdlaaW.PrintMore
set_option maxHeartbeats 8000000
set_option maxRecDepth 100000
attribute [local go_sem] max2_int min2_int max_two min_two max_three min_three max_four min_four   -- for this text's walks alone
set_option linter.unusedVariables false
set_option linter.unusedSimpArgs false

/-! ### moves_Gen: function 34 -/
mutual
def moves_Gen.j0 : Nat → List (S39) → List Int → Int → Int → ByteArray → Int → Int → List (S62) → List Int → Bool → Bool → List (S64) → Int → Int → Int → List Int → List Int → List Int → Int → Int → Option ((List (S39)))
  | 0, _, _, _, _, _, _, _, _, _, _, _, _, _, _, _, _, _, _, _, _ => none
  | k + 1, x5, x17, x18, x19, z243a, z243b, z243c, z243d, z243e, z243f, z243g, z243h, z243i, z243j, z243k, z244a, z244b, z244c, z244d, z244e => moves_Gen.l0 k x5 x17 x18 x19 z243a z243b z243c z243d z243e z243f z243g z243h z243i z243j z243k z244a z244b z244c z244d z244e
def moves_Gen.l0 : Nat → List (S39) → List Int → Int → Int → ByteArray → Int → Int → List (S62) → List Int → Bool → Bool → List (S64) → Int → Int → Int → List Int → List Int → List Int → Int → Int → Option ((List (S39)))
  | 0, _, _, _, _, _, _, _, _, _, _, _, _, _, _, _, _, _, _, _, _ => none
  | k + 1, x5, x17, x18, x19, z243a, z243b, z243c, z243d, z243e, z243f, z243g, z243h, z243i, z243j, z243k, z244a, z244b, z244c, z244d, z244e => if x19 < x18 then (if 0 ≤ x19 then (if x19 < (x17.length : Int) then (moves_Gen.l1 k x5 x19 (rd x17 x19) x17 x18 x19 (z244a.length : Int) 0 z243a z243b z243c z243d z243e z243f z243g z243h z243i z243j z243k z244a z244b z244c z244d z244e) else (none)) else (none)) else (moves_Gen.l2 k x5 z244a (z244a.length : Int) 0 z243a z243b z243c z243d z243e z243f z243g z243h z243i z243j z243k z244a z244b z244c z244d z244e)
def moves_Gen.l1 : Nat → List (S39) → Int → Int → List Int → Int → Int → Int → Int → ByteArray → Int → Int → List (S62) → List Int → Bool → Bool → List (S64) → Int → Int → Int → List Int → List Int → List Int → Int → Int → Option ((List (S39)))
  | 0, _, _, _, _, _, _, _, _, _, _, _, _, _, _, _, _, _, _, _, _, _, _, _, _ => none
  | k + 1, x5, x6, x7, x17, x18, x19, x26, x27, z243a, z243b, z243c, z243d, z243e, z243f, z243g, z243h, z243i, z243j, z243k, z244a, z244b, z244c, z244d, z244e => if x27 < x26 then (if x7 > 0 then ((moves_open.f k z243a z243b z243c z243d z243e z243f z243g z243h z243i z243j z243k z244a z244b z244c z244d z244e x27).bind fun t245 => (if t245 = true then (if x5.length < 5864062014805 then (moves_Gen.l1 k (x5 ++ [(⟨(-1), x27, x6⟩ : S39)]) x6 x7 x17 x18 x19 x26 (wrap64 (x27 + 1)) z243a z243b z243c z243d z243e z243f z243g z243h z243i z243j z243k z244a z244b z244c z244d z244e) else (none)) else (moves_Gen.l1 k x5 x6 x7 x17 x18 x19 x26 (wrap64 (x27 + 1)) z243a z243b z243c z243d z243e z243f z243g z243h z243i z243j z243k z244a z244b z244c z244d z244e))) else (moves_Gen.l1 k x5 x6 x7 x17 x18 x19 x26 (wrap64 (x27 + 1)) z243a z243b z243c z243d z243e z243f z243g z243h z243i z243j z243k z244a z244b z244c z244d z244e)) else (moves_Gen.l0 k x5 x17 x18 (wrap64 (x19 + 1)) z243a z243b z243c z243d z243e z243f z243g z243h z243i z243j z243k z244a z244b z244c z244d z244e)
def moves_Gen.l2 : Nat → List (S39) → List Int → Int → Int → ByteArray → Int → Int → List (S62) → List Int → Bool → Bool → List (S64) → Int → Int → Int → List Int → List Int → List Int → Int → Int → Option ((List (S39)))
  | 0, _, _, _, _, _, _, _, _, _, _, _, _, _, _, _, _, _, _, _, _ => none
  | k + 1, x5, x47, x48, x49, z243a, z243b, z243c, z243d, z243e, z243f, z243g, z243h, z243i, z243j, z243k, z244a, z244b, z244c, z244d, z244e => if x49 < x48 then (if 0 ≤ x49 then (if x49 < (x47.length : Int) then ((moves_Owner.f (rd x47 x49)).bind fun t250 => (if t250 = z244d then ((moves_Kind.f (rd x47 x49)).bind fun t251 => (if 0 ≤ t251 then (if t251 < (z243d.length : Int) then (moves_Gen.l3 k x5 x49 x47 x48 x49 ((rd_T62 z243d t251).f3) (((rd_T62 z243d t251).f3).length : Int) 0 z243a z243b z243c z243d z243e z243f z243g z243h z243i z243j z243k z244a z244b z244c z244d z244e) else (none)) else (none))) else (moves_Gen.l2 k x5 x47 x48 (wrap64 (x49 + 1)) z243a z243b z243c z243d z243e z243f z243g z243h z243i z243j z243k z244a z244b z244c z244d z244e))) else (none)) else (none)) else (if x5.length < 4611686018427387904 then (some (onceM x5)) else (none))
def moves_Gen.l3 : Nat → List (S39) → Int → List Int → Int → Int → List (S74) → Int → Int → ByteArray → Int → Int → List (S62) → List Int → Bool → Bool → List (S64) → Int → Int → Int → List Int → List Int → List Int → Int → Int → Option ((List (S39)))
  | 0, _, _, _, _, _, _, _, _, _, _, _, _, _, _, _, _, _, _, _, _, _, _, _, _ => none
  | k + 1, x5, x9, x47, x48, x49, x65, x66, x67, z243a, z243b, z243c, z243d, z243e, z243f, z243g, z243h, z243i, z243j, z243k, z244a, z244b, z244c, z244d, z244e => if x67 < x66 then (if 0 ≤ x67 then (if x67 < (x65.length : Int) then ((moves_along.f k x5 z243a z243b z243c z243d z243e z243f z243g z243h z243i z243j z243k z244a z244b z244c z244d z244e x9 ((rd_T74 x65 x67).f0) ((rd_T74 x65 x67).f1) ((rd_T74 x65 x67).f2) ((rd_T74 x65 x67).f3)).bind fun t255 => (moves_Gen.l3 k t255 x9 x47 x48 x49 x65 x66 (wrap64 (x67 + 1)) z243a z243b z243c z243d z243e z243f z243g z243h z243i z243j z243k z244a z244b z244c z244d z244e)) else (none)) else (none)) else (moves_Gen.l2 k x5 x47 x48 (wrap64 (x49 + 1)) z243a z243b z243c z243d z243e z243f z243g z243h z243i z243j z243k z244a z244b z244c z244d z244e)
end
def moves_Gen.f (k : Nat) (a0_0 : ByteArray) (a0_1 : Int) (a0_2 : Int) (l0_3 : List (S62)) (l0_4 : List Int) (a0_5 : Bool) (a0_6 : Bool) (l0_7 : List (S64)) (a0_8 : Int) (a0_9 : Int) (a0_10 : Int) (l1_0 : List Int) (l1_1 : List Int) (l1_2 : List Int) (a1_3 : Int) (a1_4 : Int) : Option ((List (S39))) := if 0 ≤ a1_3 then (if a1_3 < 2 then (if a1_3 = 0 then (moves_Gen.j0 k ([] : List (S39)) l1_1 (l1_1.length : Int) 0 a0_0 a0_1 a0_2 l0_3 l0_4 a0_5 a0_6 l0_7 a0_8 a0_9 a0_10 l1_0 l1_1 l1_2 a1_3 a1_4) else (moves_Gen.j0 k ([] : List (S39)) l1_2 (l1_2.length : Int) 0 a0_0 a0_1 a0_2 l0_3 l0_4 a0_5 a0_6 l0_7 a0_8 a0_9 a0_10 l1_0 l1_1 l1_2 a1_3 a1_4)) else (none)) else (none)
theorem moves_Gen.mono_l : ∀ k, L10 (L10 (LeO)) (moves_Gen.j0 k) (moves_Gen.j0 (k + 1)) ∧ L10 (L10 (LeO)) (moves_Gen.l0 k) (moves_Gen.l0 (k + 1)) ∧ L10 (L10 (LM (LM (LM (LM (LeO)))))) (moves_Gen.l1 k) (moves_Gen.l1 (k + 1)) ∧ L10 (L10 (LeO)) (moves_Gen.l2 k) (moves_Gen.l2 (k + 1)) ∧ L10 (L10 (LM (LM (LM (LM (LeO)))))) (moves_Gen.l3 k) (moves_Gen.l3 (k + 1))
  | 0 => by refine ⟨?_, ?_, ?_, ?_, ?_⟩ <;> (repeat (first | exact LeO.none _ | intro _))
  | k + 1 => by
    obtain ⟨ih0, ih1, ih2, ih3, ih4⟩ := moves_Gen.mono_l k
    refine ⟨?_, ?_, ?_, ?_, ?_⟩ <;> ((repeat (first | (with_reducible refine LeO.st ?_) | intro _)); constructor; (first | unfold moves_Gen.j0 | unfold moves_Gen.l0 | unfold moves_Gen.l1 | unfold moves_Gen.l2 | unfold moves_Gen.l3); repeat' first | (with_reducible first | apply ih0 | apply ih1 | apply ih2 | apply ih3 | apply ih4 | apply moves_along.mono | apply moves_open.mono | exact LeO.refl _ | exact LeO.none _ | refine LeO.ite ?_ ?_ | refine LeO.bind ?_ (fun _ => ?_)) | apply ih0 | apply ih1 | apply ih2 | apply ih3 | apply ih4 | apply moves_along.mono | apply moves_open.mono | exact LeO.none _ | refine LeO.ite ?_ ?_ | refine LeO.bind ?_ (fun _ => ?_))
theorem moves_Gen.mono : ∀ a0 a1 a2 a3 a4 a5 a6 a7 a8 a9 a10 a11 a12 a13 a14 a15 k, LeO (moves_Gen.f k a0 a1 a2 a3 a4 a5 a6 a7 a8 a9 a10 a11 a12 a13 a14 a15) (moves_Gen.f (k + 1) a0 a1 a2 a3 a4 a5 a6 a7 a8 a9 a10 a11 a12 a13 a14 a15) := by
  intros; rename_i k
  obtain ⟨ih0, ih1, ih2, ih3, ih4⟩ := moves_Gen.mono_l k
  unfold moves_Gen.f
  repeat' first | (with_reducible first | apply ih0 | apply ih1 | apply ih2 | apply ih3 | apply ih4 | apply moves_along.mono | apply moves_open.mono | exact LeO.refl _ | exact LeO.none _ | refine LeO.ite ?_ ?_ | refine LeO.bind ?_ (fun _ => ?_)) | apply ih0 | apply ih1 | apply ih2 | apply ih3 | apply ih4 | apply moves_along.mono | apply moves_open.mono | exact LeO.none _ | refine LeO.ite ?_ ?_ | refine LeO.bind ?_ (fun _ => ?_)
theorem moves_Gen.calls (k : Nat) (a0_0 : ByteArray) (a0_1 : Int) (a0_2 : Int) (A0_3 : Option Addr) (c0_3 : Nat) (l0_3 : List (S62)) (A0_4 : Option Addr) (c0_4 : Nat) (l0_4 : List Int) (a0_5 : Bool) (a0_6 : Bool) (A0_7 : Option Addr) (c0_7 : Nat) (l0_7 : List (S64)) (a0_8 : Int) (a0_9 : Int) (a0_10 : Int) (A1_0 : Option Addr) (c1_0 : Nat) (l1_0 : List Int) (A1_1 : Option Addr) (c1_1 : Nat) (l1_1 : List Int) (A1_2 : Option Addr) (c1_2 : Nat) (l1_2 : List Int) (a1_3 : Int) (a1_4 : Int) (r : List (S39)) (w : World) (hr0_3 : Kd.C k62 w A0_3 l0_3.length l0_3) (hc0_3 : l0_3.length ≤ c0_3) (hr0_4 : Kd.C (Kd.int .i64) w A0_4 l0_4.length l0_4) (hc0_4 : l0_4.length ≤ c0_4) (hr0_7 : Kd.C k64 w A0_7 l0_7.length l0_7) (hc0_7 : l0_7.length ≤ c0_7) (hr1_0 : Kd.C (Kd.int .i64) w A1_0 l1_0.length l1_0) (hc1_0 : l1_0.length ≤ c1_0) (hr1_1 : Kd.C (Kd.int .i64) w A1_1 l1_1.length l1_1) (hc1_1 : l1_1.length ≤ c1_1) (hr1_2 : Kd.C (Kd.int .i64) w A1_2 l1_2.length l1_2) (hc1_2 : l1_2.length ≤ c1_2) (h : moves_Gen.f k a0_0 a0_1 a0_2 l0_3 l0_4 a0_5 a0_6 l0_7 a0_8 a0_9 a0_10 l1_0 l1_1 l1_2 a1_3 a1_4 = some r) :
    Calls Try.prog 34 #[.agg #[.string a0_0, .int .i64 a0_1, .int .i64 a0_2, .slice A0_3 l0_3.length c0_3, .slice A0_4 l0_4.length c0_4, .bool a0_5, .bool a0_6, .slice A0_7 l0_7.length c0_7, .int .i64 a0_8, .int .i64 a0_9, .int .i64 a0_10], .agg #[.slice A1_0 l1_0.length c1_0, .slice A1_1 l1_1.length c1_1, .slice A1_2 l1_2.length c1_2, .int .i64 a1_3, .int .i64 a1_4]] w fun e w' => ∃ v0_ : Value, e = .returned (v0_) ∧ Kd.R k39 39 w' w.heap.size (fun _ => True) v0_ r ∧ Below w.heap.size w w' := by
 have hu26 := Try.underlying26; have hu29 := Try.underlying29; have hu39 := Try.underlying39; have hu74 := Try.underlying74; have HR0_3 := xm hr0_3; have HC0_3 := xm hc0_3; clear hr0_3 hc0_3; have HR0_4 := xm hr0_4; have HC0_4 := xm hc0_4; clear hr0_4 hc0_4; have HR0_7 := xm hr0_7; have HC0_7 := xm hc0_7; clear hr0_7 hc0_7; have HR1_0 := xm hr1_0; have HC1_0 := xm hc1_0; clear hr1_0 hc1_0; have HR1_1 := xm hr1_1; have HC1_1 := xm hc1_1; clear hr1_1 hc1_1; have HR1_2 := xm hr1_2; have HC1_2 := xm hc1_2; clear hr1_2 hc1_2; have HB := xm (Below.refl w.heap.size w); have hss_ := @isSome_setCell
 have H : (if 0 ≤ a1_3 then (if a1_3 < 2 then (if a1_3 = 0 then (moves_Gen.j0 k ([] : List (S39)) l1_1 (l1_1.length : Int) 0 a0_0 a0_1 a0_2 l0_3 l0_4 a0_5 a0_6 l0_7 a0_8 a0_9 a0_10 l1_0 l1_1 l1_2 a1_3 a1_4) else (moves_Gen.j0 k ([] : List (S39)) l1_2 (l1_2.length : Int) 0 a0_0 a0_1 a0_2 l0_3 l0_4 a0_5 a0_6 l0_7 a0_8 a0_9 a0_10 l1_0 l1_1 l1_2 a1_3 a1_4)) else (none)) else (none)) = some r := h
 clear h; have HC3 := xm H; clear H
 go_enter Try.func34, Try.ntmps34
 go_upto_region 2 with (first | ((with_reducible refine gate_dst (N := 2) rfl ?_); refine xG (cs := #[.string a0_0, .int .i64 a0_1, .int .i64 a0_2, .slice A0_3 l0_3.length c0_3, .slice A0_4 l0_4.length c0_4, .bool a0_5, .bool a0_6, .slice A0_7 l0_7.length c0_7, .int .i64 a0_8, .int .i64 a0_9, .int .i64 a0_10]) (t := 26) ?_; intro gb242 hg w4 hbox hb; have BK242 := xm (hbox); have GW242 := xm (xZ HB hg); have GE242 := xm (xZ HB hg); replace HB := xm (xS HB hb); clear hb hbox hg) | ((with_reducible refine gate_dst (N := 3) rfl ?_); refine xG (cs := #[.slice A1_0 l1_0.length c1_0, .slice A1_1 l1_1.length c1_1, .slice A1_2 l1_2.length c1_2, .int .i64 a1_3, .int .i64 a1_4]) (t := 29) ?_; intro gb243 hg w5 hbox hb; have BK243 := xm (hbox); have GW243 := xm (xZ HB hg); have GE243 := xm (xZ HB hg); have NB242_243 := xm (xN BK242 hg); have NB243_242 := xm (xM BK242 hg); replace BK242 := xm (xB BK242 hb); replace HB := xm (xS HB hb); clear hb hbox hg))
 (try have hq243_242 := NB243_242.out); (try have hq242_243 := NB242_243.out)
 (try simp only [Act.put, List.setIfInBounds_toArray, List.set_cons_zero, List.set_cons_succ])
 go_cut [17, 18, 19] (fun vs17 vs18 vs19 wc => ∃ (kq : Nat) (x17_2 : List Int) (x18_2 : Int) (x19_2 : Int) (Ar17 : Option Addr) (cr17 : Nat), vs17 = .slice Ar17 x17_2.length cr17 ∧ Aside0 (Kd.C (Kd.int .i64) w Ar17 x17_2.length x17_2) ∧ Aside0 (x17_2.length ≤ cr17) ∧ vs18 = .int .i64 x18_2 ∧ vs19 = .int .i64 x19_2 ∧ Aside0 (moves_Gen.j0 kq ([] : List (S39)) x17_2 x18_2 x19_2 a0_0 a0_1 a0_2 l0_3 l0_4 a0_5 a0_6 l0_7 a0_8 a0_9 a0_10 l1_0 l1_1 l1_2 a1_3 a1_4 = some r) ∧ Aside0 (kq ≤ k) ∧ Aside0 (Kd.R k39 39 wc w.heap.size (fun _ => True) (.slice none 0 0) ([] : List (S39))) ∧ Aside0 (wc.heap[gb242]? = some (.cells #[.string a0_0, .int .i64 a0_1, .int .i64 a0_2, (.slice A0_3 l0_3.length c0_3), (.slice A0_4 l0_4.length c0_4), .bool a0_5, .bool a0_6, (.slice A0_7 l0_7.length c0_7), .int .i64 a0_8, .int .i64 a0_9, .int .i64 a0_10] 26 (0, 0))) ∧ Aside0 (wc.heap[gb243]? = some (.cells #[(.slice A1_0 l1_0.length c1_0), (.slice A1_1 l1_1.length c1_1), (.slice A1_2 l1_2.length c1_2), .int .i64 a1_3, .int .i64 a1_4] 29 (0, 0))) ∧ Aside0 (Below w.heap.size w wc))
 case first =>
  have H := HC3.out; clear HC3
  obtain ⟨c6b0, H⟩ := xJ H
  (first | rw [c6b0] | (simp only [i64_w, i32_w]; rw [c6b0]) | skip)
  obtain ⟨c7b0, H⟩ := xJ H
  by_cases c8 : a1_3 = 0
  ·rw [if_pos c8] at H
   have c8b0 := beq_iff_eq.mpr c8
   have c8b1 := bne_eq_false_iff_eq.mpr c8
   clear c8; obtain ⟨c9b, c9g, c9c, c9d⟩ := xar (a1_3 : Int) 0 0 2
   have H' := xm H
   clear H; have hcz11_0 := blkc5 BK243.out
   go_wp2
   go_meet
   case rel => exact ⟨_, (l1_1), ((l1_1.length : Int)), (0), (A1_1), (c1_1), rfl, ⟨HR1_1.out⟩, ⟨HC1_1.out⟩, (xrf), (xrf), H', ⟨by first | omega | exact Nat.le_refl _⟩, ⟨by first | exact Kd.R_nil _ _ _ _ _ | exact Kd.N_nil _ _ _ _ _ | exact Kd.V_nil _ _ _ _ _ | exact Kd.Q_nil _ _ _ _ _ | exact Kd.S_nil _ _ _ _ _⟩, ⟨xK BK242⟩, ⟨xK BK243⟩, ⟨xW HB⟩⟩
  ·rw [if_neg c8] at H
   have c8b0 := beq_eq_false_iff_ne.mpr c8
   have c8b1 := bne_iff_ne.mpr c8
   obtain ⟨c12b, c12g, c12c, c12d⟩ := xar (a1_3 : Int) 1 1 2
   have H' := xm H
   clear H; have hcz14_0 := blkc5 BK243.out
   go_wp2
   go_meet
   case rel => exact ⟨_, (l1_2), ((l1_2.length : Int)), (0), (A1_2), (c1_2), rfl, ⟨HR1_2.out⟩, ⟨HC1_2.out⟩, (xrf), (xrf), H', ⟨by first | omega | exact Nat.le_refl _⟩, ⟨by first | exact Kd.R_nil _ _ _ _ _ | exact Kd.N_nil _ _ _ _ _ | exact Kd.V_nil _ _ _ _ _ | exact Kd.Q_nil _ _ _ _ _ | exact Kd.S_nil _ _ _ _ _⟩, ⟨xK BK242⟩, ⟨xK BK243⟩, ⟨xW HB⟩⟩
 case rest =>
  clear HC3; (try clear p2)
  obtain ⟨kq, x17_2, x18_2, x19_2, Ar17, cr17, rfl, HR_17, HC_17, rfl, rfl, HA, HJ2, HO_5, BK242, BK243, HB⟩ := hcut
  cases kq with
  | zero => exact absurd HA.out (by simp [moves_Gen.j0])
  | succ kj2 =>
   have H := HA.out; clear HA
   simp only [moves_Gen.j0] at H
   have H' := xm H
   clear H
   go_wp2
   go_loopg [5, 19] kj2 (fun kq vs5 vs19 w' => ∃ (x5_2 : List (S39)) (x19_2 : Int), vs19 = .int .i64 x19_2 ∧ Aside0 (moves_Gen.l0 kq x5_2 x17_2 x18_2 x19_2 a0_0 a0_1 a0_2 l0_3 l0_4 a0_5 a0_6 l0_7 a0_8 a0_9 a0_10 l1_0 l1_1 l1_2 a1_3 a1_4 = some r) ∧ Aside0 (kq ≤ kj2) ∧ Aside0 (Kd.R k39 39 w' w.heap.size (fun _ => True) vs5 x5_2) ∧ Aside0 (w'.heap[gb242]? = some (.cells #[.string a0_0, .int .i64 a0_1, .int .i64 a0_2, (.slice A0_3 l0_3.length c0_3), (.slice A0_4 l0_4.length c0_4), .bool a0_5, .bool a0_6, (.slice A0_7 l0_7.length c0_7), .int .i64 a0_8, .int .i64 a0_9, .int .i64 a0_10] 26 (0, 0))) ∧ Aside0 (w'.heap[gb243]? = some (.cells #[(.slice A1_0 l1_0.length c1_0), (.slice A1_1 l1_1.length c1_1), (.slice A1_2 l1_2.length c1_2), .int .i64 a1_3, .int .i64 a1_4] 29 (0, 0))) ∧ Aside0 (Below w.heap.size w w'))
   case atStart => exact ⟨(([] : List (S39))), (x19_2), (xrf), H', ⟨Nat.le_refl _⟩, ⟨by (with_reducible repeat (first | apply Kd.R_alloc | apply Kd.R_drewN | apply Kd.R_drew)); exact HO_5.out⟩, ⟨xK BK242⟩, ⟨xK BK243⟩, ⟨xW HB⟩⟩
   case round =>
    clear H'; (try clear p2)
    obtain ⟨x5_2, x19_2, rfl, HA, HK2, HO_5, BK242, BK243, HB⟩ := hrel
    cases gk with
    | zero => exact absurd HA.out (by simp [moves_Gen.l0])
    | succ k2 =>
     have H := HA.out; clear HA
     simp only [moves_Gen.l0] at H
     by_cases c15 : x19_2 < x18_2
     ·rw [if_pos c15] at H
      have c15b0 := decide_eq_true c15
      clear c15
      obtain ⟨c16b0, H⟩ := xJ H
      obtain ⟨c17b0, H⟩ := xJ H
      have H' := xm H
      clear H
      have p244 : 0 ≤ (x19_2 : Int) := xO
      have q244 : x19_2 < (x17_2.length : Int) := xO
      obtain ⟨ad244, e244, hx244_0⟩ := Kd.at_int HR_17.out x19_2 p244 q244
      cases e244
      replace hx244_0 := xR HB hx244_0; replace p244 := eq_true p244; replace q244 := eq_true q244; have hcz19_0 := blkc5 BK243.out
      go_wp2
      go_loopg [5, 27] k2 (fun kq vs5 vs27 w' => ∃ (x5_3 : List (S39)) (x27_3 : Int), vs27 = .int .i64 x27_3 ∧ Aside0 (moves_Gen.l1 kq x5_3 x19_2 (rd x17_2 x19_2) x17_2 x18_2 x19_2 (l1_0.length : Int) x27_3 a0_0 a0_1 a0_2 l0_3 l0_4 a0_5 a0_6 l0_7 a0_8 a0_9 a0_10 l1_0 l1_1 l1_2 a1_3 a1_4 = some r) ∧ Aside0 (kq ≤ k2) ∧ Aside0 (Kd.R k39 39 w' w.heap.size (fun _ => True) vs5 x5_3) ∧ Aside0 (w'.heap[gb242]? = some (.cells #[.string a0_0, .int .i64 a0_1, .int .i64 a0_2, (.slice A0_3 l0_3.length c0_3), (.slice A0_4 l0_4.length c0_4), .bool a0_5, .bool a0_6, (.slice A0_7 l0_7.length c0_7), .int .i64 a0_8, .int .i64 a0_9, .int .i64 a0_10] 26 (0, 0))) ∧ Aside0 (w'.heap[gb243]? = some (.cells #[(.slice A1_0 l1_0.length c1_0), (.slice A1_1 l1_1.length c1_1), (.slice A1_2 l1_2.length c1_2), .int .i64 a1_3, .int .i64 a1_4] 29 (0, 0))) ∧ Aside0 (Below w.heap.size w w'))
      case atStart => exact ⟨(x5_2), (0), (xrf), H', ⟨Nat.le_refl _⟩, ⟨by (with_reducible repeat (first | apply Kd.R_alloc | apply Kd.R_drewN | apply Kd.R_drew)); exact HO_5.out⟩, ⟨xK BK242⟩, ⟨xK BK243⟩, ⟨xW HB⟩⟩
      case round =>
       clear H'; (try clear p2); (try clear q2); (try clear hx2); (try clear hx244_0); (try clear p244); (try clear q244)
       obtain ⟨x5_3, x27_3, rfl, HA, HK3, HO_5, BK242, BK243, HB⟩ := hrel
       cases gk with
       | zero => exact absurd HA.out (by simp [moves_Gen.l1])
       | succ k3 =>
        have H := HA.out; clear HA
        simp only [moves_Gen.l1] at H
        by_cases c20 : x27_3 < (l1_0.length : Int)
        ·rw [if_pos c20] at H
         have c20b0 := decide_eq_true c20
         clear c20
         by_cases c21 : (rd x17_2 x19_2) > 0
         ·rw [if_pos c21] at H
          have c21b0 := decide_eq_true c21
          clear c21; obtain ⟨t245, A22, H⟩ := xH H
          (try dsimp only at H)
          by_cases c23 : t245 = true
          ·subst c23
           rw [if_pos rfl] at H
           obtain ⟨c24, H⟩ := xI H
           have LMc24 := xm c24; clear c24
           obtain ⟨y246, hy246⟩ : ∃ y_ : List (S39), y_ = (x5_3 ++ [(⟨(-1), x27_3, x19_2⟩ : S39)]) := ⟨_, rfl⟩
           replace H : (moves_Gen.l1 k3 y246 x19_2 (rd x17_2 x19_2) x17_2 x18_2 x19_2 (l1_0.length : Int) (wrap64 (x27_3 + 1)) a0_0 a0_1 a0_2 l0_3 l0_4 a0_5 a0_6 l0_7 a0_8 a0_9 a0_10 l1_0 l1_1 l1_2 a1_3 a1_4) = some r := by first | (rw [hy246]; with_reducible exact H) | (have H2_ := (Option.bind_some _ _).symm.trans H; rw [hy246]; with_reducible exact H2_) | (have H2_ := (Option.bind_some _ _).symm.trans H; with_reducible exact H2_) | with_reducible exact H | (rw [hy246]; exact H) | exact H
           have Ny246 := xm hy246; clear hy246
           have H' := xm H
           clear H; have hcz26_0 := blkc11 BK242.out; have hcz27_0 := blkc5 BK243.out
           go_wp2_with (first | (go_at_call 52; (with_reducible refine (moves_open.calls k3 a0_0 a0_1 a0_2 _ _ l0_3 _ _ l0_4 a0_5 a0_6 _ _ l0_7 a0_8 a0_9 a0_10 _ _ l1_0 _ _ l1_1 _ _ l1_2 a1_3 a1_4 x27_3 true _ ?side1 ?side2 ?side3 ?side4 ?side5 ?side6 ?side7 ?side8 ?side9 ?side10 ?side11 ?side12 A22.out).mono ?_); (case side1 => exact xC (Kd.C_below HR0_3.out HB.out)); (case side2 => exact HC0_3.out); (case side3 => exact xC (Kd.C_below HR0_4.out HB.out)); (case side4 => exact HC0_4.out); (case side5 => exact xC (Kd.C_below HR0_7.out HB.out)); (case side6 => exact HC0_7.out); (case side7 => exact xC (Kd.C_below HR1_0.out HB.out)); (case side8 => exact HC1_0.out); (case side9 => exact xC (Kd.C_below HR1_1.out HB.out)); (case side10 => exact HC1_1.out); (case side11 => exact xC (Kd.C_below HR1_2.out HB.out)); (case side12 => exact HC1_2.out); rintro e w28 ⟨rfl, hb⟩; replace HO_5 := xm (Kd.R_below (yR HO_5) hb); replace BK242 := xm (xB BK242 hb); replace BK243 := xm (xB BK243 hb); replace HB := xm (xS HB hb); (try clear hb); (try clear hb2); (try clear hk); (try clear hi)) | ((with_reducible refine gate_builtin (b := .append) (xs := #[.tmp 38, .tmp 42]) rfl ?_); at_builtin; refine Kd.R_append k39 (w0 := w) w.heap.size rfl (.tmp 38) (.tmp 42) 50 39 (.agg #[(.int .i64 0), (.int .i64 0), (.int .i64 0)]) 24 rfl Try.underlying50 info39 rfl (by decide) (by omega) u5 x5_3 (⟨(-1), x27_3, x19_2⟩ : S39) [.int .i64 (-1), .int .i64 x27_3, .int .i64 x19_2] (fun _ => True) (fun _ => False) rfl rfl ?aP (fun _ hk => hk.elim) ?aF ?aO ?aB ?aS ?aL ?_; (case aP => exact k39_mkM _ _ _ (⟨(-1), x27_3, x19_2⟩ : S39)); (case aB => exact (xW HB)); (case aF => exact (fun _ _ => trivial)); (case aO => exact (yR HO_5)); (case aS => exact (below_size (xW HB))); (case aL => have := LMc24.out; omega); intro v247 w29 ho hb hg hat; rw [← Ny246.out] at ho; have HO248 := xm (ho); replace BK242 := xm (blk_grown (g := gb242) (o := .cells #[.string a0_0, .int .i64 a0_1, .int .i64 a0_2, .slice A0_3 l0_3.length c0_3, .slice A0_4 l0_4.length c0_4, .bool a0_5, .bool a0_6, .slice A0_7 l0_7.length c0_7, .int .i64 a0_8, .int .i64 a0_9, .int .i64 a0_10] 26 (0, 0)) (xK BK242) hg (Kd.R_ne HO_5.out BK242.out (by decide))); replace BK243 := xm (blk_grown (g := gb243) (o := .cells #[.slice A1_0 l1_0.length c1_0, .slice A1_1 l1_1.length c1_1, .slice A1_2 l1_2.length c1_2, .int .i64 a1_3, .int .i64 a1_4] 29 (0, 0)) (xK BK243) hg (Kd.R_ne HO_5.out BK243.out (by decide))); replace HB := xm (hb); clear HO_5; clear ho hb hg hat))
           go_roundg k3
           case measure => have := HJ2.out; have := HK2.out; have := HK3.out; omega
           case rel => exact ⟨(y246), (wrap64 (x27_3 + 1)), (xrf), H', ⟨by have := HJ2.out; have := HK2.out; have := HK3.out; omega⟩, ⟨by (with_reducible repeat (first | apply Kd.R_alloc | apply Kd.R_drewN | apply Kd.R_drew)); exact HO248.out⟩, ⟨xK BK242⟩, ⟨xK BK243⟩, ⟨xW HB⟩⟩
          ·obtain rfl := Bool.eq_false_iff.mpr c23
           rw [if_neg xF] at H
           have H' := xm H
           clear H; have hcz31_0 := blkc11 BK242.out; have hcz32_0 := blkc5 BK243.out
           go_wp2_with (first | (go_at_call 52; (with_reducible refine (moves_open.calls k3 a0_0 a0_1 a0_2 _ _ l0_3 _ _ l0_4 a0_5 a0_6 _ _ l0_7 a0_8 a0_9 a0_10 _ _ l1_0 _ _ l1_1 _ _ l1_2 a1_3 a1_4 x27_3 false _ ?side1 ?side2 ?side3 ?side4 ?side5 ?side6 ?side7 ?side8 ?side9 ?side10 ?side11 ?side12 A22.out).mono ?_); (case side1 => exact xC (Kd.C_below HR0_3.out HB.out)); (case side2 => exact HC0_3.out); (case side3 => exact xC (Kd.C_below HR0_4.out HB.out)); (case side4 => exact HC0_4.out); (case side5 => exact xC (Kd.C_below HR0_7.out HB.out)); (case side6 => exact HC0_7.out); (case side7 => exact xC (Kd.C_below HR1_0.out HB.out)); (case side8 => exact HC1_0.out); (case side9 => exact xC (Kd.C_below HR1_1.out HB.out)); (case side10 => exact HC1_1.out); (case side11 => exact xC (Kd.C_below HR1_2.out HB.out)); (case side12 => exact HC1_2.out); rintro e w33 ⟨rfl, hb⟩; replace HO_5 := xm (Kd.R_below (yR HO_5) hb); replace BK242 := xm (xB BK242 hb); replace BK243 := xm (xB BK243 hb); replace HB := xm (xS HB hb); (try clear hb); (try clear hb2); (try clear hk); (try clear hi)))
           go_roundg k3
           case measure => have := HJ2.out; have := HK2.out; have := HK3.out; omega
           case rel => exact ⟨(x5_3), (wrap64 (x27_3 + 1)), (xrf), H', ⟨by have := HJ2.out; have := HK2.out; have := HK3.out; omega⟩, ⟨by (with_reducible repeat (first | apply Kd.R_alloc | apply Kd.R_drewN | apply Kd.R_drew)); exact HO_5.out⟩, ⟨xK BK242⟩, ⟨xK BK243⟩, ⟨xW HB⟩⟩
         ·rw [if_neg c21] at H
          have c21b0 := decide_eq_false c21
          clear c21
          have H' := xm H
          clear H
          go_wp2
          go_roundg k3
          case measure => have := HJ2.out; have := HK2.out; have := HK3.out; omega
          case rel => exact ⟨(x5_3), (wrap64 (x27_3 + 1)), (xrf), H', ⟨by have := HJ2.out; have := HK2.out; have := HK3.out; omega⟩, ⟨by (with_reducible repeat (first | apply Kd.R_alloc | apply Kd.R_drewN | apply Kd.R_drew)); exact HO_5.out⟩, ⟨xK BK242⟩, ⟨xK BK243⟩, ⟨xW HB⟩⟩
        ·rw [if_neg c20] at H
         have c20b0 := decide_eq_false c20
         clear c20
         have H' := xm H
         clear H
         go_wp2
         go_roundg k3
         case measure => have := HJ2.out; have := HK2.out; have := HK3.out; omega
         case rel => exact ⟨(x5_3), (wrap64 (x19_2 + 1)), (xrf), H', ⟨by have := HJ2.out; have := HK2.out; have := HK3.out; omega⟩, ⟨by (with_reducible repeat (first | apply Kd.R_alloc | apply Kd.R_drewN | apply Kd.R_drew)); exact HO_5.out⟩, ⟨xK BK242⟩, ⟨xK BK243⟩, ⟨xW HB⟩⟩
     ·rw [if_neg c15] at H
      have c15b0 := decide_eq_false c15
      clear c15
      have H' := xm H
      clear H; have hcz35_0 := blkc5 BK243.out
      go_wp2
      go_loopg [5, 49] k2 (fun kq vs5 vs49 w' => ∃ (x5_3 : List (S39)) (x49_3 : Int), vs49 = .int .i64 x49_3 ∧ Aside0 (moves_Gen.l2 kq x5_3 l1_0 (l1_0.length : Int) x49_3 a0_0 a0_1 a0_2 l0_3 l0_4 a0_5 a0_6 l0_7 a0_8 a0_9 a0_10 l1_0 l1_1 l1_2 a1_3 a1_4 = some r) ∧ Aside0 (kq ≤ k2) ∧ Aside0 (Kd.R k39 39 w' w.heap.size (fun _ => True) vs5 x5_3) ∧ Aside0 (w'.heap[gb242]? = some (.cells #[.string a0_0, .int .i64 a0_1, .int .i64 a0_2, (.slice A0_3 l0_3.length c0_3), (.slice A0_4 l0_4.length c0_4), .bool a0_5, .bool a0_6, (.slice A0_7 l0_7.length c0_7), .int .i64 a0_8, .int .i64 a0_9, .int .i64 a0_10] 26 (0, 0))) ∧ Aside0 (w'.heap[gb243]? = some (.cells #[(.slice A1_0 l1_0.length c1_0), (.slice A1_1 l1_1.length c1_1), (.slice A1_2 l1_2.length c1_2), .int .i64 a1_3, .int .i64 a1_4] 29 (0, 0))) ∧ Aside0 (Below w.heap.size w w'))
      case atStart => exact ⟨(x5_2), (0), (xrf), H', ⟨Nat.le_refl _⟩, ⟨by (with_reducible repeat (first | apply Kd.R_alloc | apply Kd.R_drewN | apply Kd.R_drew)); exact HO_5.out⟩, ⟨xK BK242⟩, ⟨xK BK243⟩, ⟨xW HB⟩⟩
      case round =>
       clear H'; (try clear p2); (try clear q2); (try clear hx2); (try clear p6); (try clear p24); (try clear q24); (try clear hx24); (try clear hx244_0); (try clear p244); (try clear q244)
       obtain ⟨x5_3, x49_3, rfl, HA, HK3, HO_5, BK242, BK243, HB⟩ := hrel
       cases gk with
       | zero => exact absurd HA.out (by simp [moves_Gen.l2])
       | succ k3 =>
        have H := HA.out; clear HA
        simp only [moves_Gen.l2] at H
        by_cases c36 : x49_3 < (l1_0.length : Int)
        ·rw [if_pos c36] at H
         have c36b0 := decide_eq_true c36
         clear c36
         obtain ⟨c37b0, H⟩ := xJ H
         obtain ⟨c38b0, H⟩ := xJ H
         obtain ⟨t250, A39, H⟩ := xH H
         (try dsimp only at H)
         by_cases c40 : t250 = a1_3
         ·rw [if_pos c40] at H
          have c40b0 := beq_iff_eq.mpr c40
          have c40b1 := bne_eq_false_iff_eq.mpr c40
          clear c40; obtain ⟨t251, A41, H⟩ := xH H
          (try dsimp only at H)
          obtain ⟨c42b0, H⟩ := xJ H
          obtain ⟨c43b0, H⟩ := xJ H
          have H' := xm H
          clear H
          have p249 : 0 ≤ (x49_3 : Int) := xO
          have q249 : x49_3 < (l1_0.length : Int) := xO
          obtain ⟨ad249, e249, hx249_0⟩ := Kd.at_int HR1_0.out x49_3 p249 q249
          cases e249
          replace hx249_0 := xR HB hx249_0; replace p249 := eq_true p249; replace q249 := eq_true q249
          go_wp2_with (first | (go_at_call 53; (with_reducible refine (moves_Owner.calls (rd l1_0 x49_3) t250 _ A39.out).mono ?_); rintro e w' ⟨rfl, ⟨nd, rfl⟩⟩; (try exact xE); have hcz45_0 := blkc5 BK243.out; have hcz46_0 := blkc11 BK242.out) | (go_at_call 54; (with_reducible refine (moves_Kind.calls (rd l1_0 x49_3) t251 _ A41.out).mono ?_); rintro e w' ⟨rfl, ⟨nd, rfl⟩⟩; (try exact xE); have p252 : 0 ≤ (t251 : Int) := xO; have q252 : t251 < (l0_3.length : Int) := xO; obtain ⟨ad252, A252_3, c252_3, e252, hx252_0, hx252_1, hx252_2, hx252_3, hl252_3, hi252_3⟩ := at_T62 HR0_3.out t251 p252 q252; cases e252; replace hx252_0 := xR HB hx252_0; replace hx252_1 := xR HB hx252_1; replace hx252_2 := xR HB hx252_2; replace hx252_3 := xR HB hx252_3; have HR252_3 := xm hi252_3; have HC252_3 := xm hl252_3; clear hi252_3 hl252_3; replace p252 := eq_true p252; replace q252 := eq_true q252))
          repeat (go_quiet (first | (go_at_call 53; (with_reducible refine (moves_Owner.calls (rd l1_0 x49_3) t250 _ A39.out).mono ?_); rintro e w' ⟨rfl, ⟨nd, rfl⟩⟩; (try exact xE); have hcz45_0 := blkc5 BK243.out; have hcz46_0 := blkc11 BK242.out) | (go_at_call 54; (with_reducible refine (moves_Kind.calls (rd l1_0 x49_3) t251 _ A41.out).mono ?_); rintro e w' ⟨rfl, ⟨nd, rfl⟩⟩; (try exact xE); have p252 : 0 ≤ (t251 : Int) := xO; have q252 : t251 < (l0_3.length : Int) := xO; obtain ⟨ad252, A252_3, c252_3, e252, hx252_0, hx252_1, hx252_2, hx252_3, hl252_3, hi252_3⟩ := at_T62 HR0_3.out t251 p252 q252; cases e252; replace hx252_0 := xR HB hx252_0; replace hx252_1 := xR HB hx252_1; replace hx252_2 := xR HB hx252_2; replace hx252_3 := xR HB hx252_3; have HR252_3 := xm hi252_3; have HC252_3 := xm hl252_3; clear hi252_3 hl252_3; replace p252 := eq_true p252; replace q252 := eq_true q252)); try go_wp2_with (first | (go_at_call 53; (with_reducible refine (moves_Owner.calls (rd l1_0 x49_3) t250 _ A39.out).mono ?_); rintro e w' ⟨rfl, ⟨nd, rfl⟩⟩; (try exact xE); have hcz45_0 := blkc5 BK243.out; have hcz46_0 := blkc11 BK242.out) | (go_at_call 54; (with_reducible refine (moves_Kind.calls (rd l1_0 x49_3) t251 _ A41.out).mono ?_); rintro e w' ⟨rfl, ⟨nd, rfl⟩⟩; (try exact xE); have p252 : 0 ≤ (t251 : Int) := xO; have q252 : t251 < (l0_3.length : Int) := xO; obtain ⟨ad252, A252_3, c252_3, e252, hx252_0, hx252_1, hx252_2, hx252_3, hl252_3, hi252_3⟩ := at_T62 HR0_3.out t251 p252 q252; cases e252; replace hx252_0 := xR HB hx252_0; replace hx252_1 := xR HB hx252_1; replace hx252_2 := xR HB hx252_2; replace hx252_3 := xR HB hx252_3; have HR252_3 := xm hi252_3; have HC252_3 := xm hl252_3; clear hi252_3 hl252_3; replace p252 := eq_true p252; replace q252 := eq_true q252)))
          go_loopg [5, 67] k3 (fun kq vs5 vs67 w' => ∃ (x5_4 : List (S39)) (x67_4 : Int), vs67 = .int .i64 x67_4 ∧ Aside0 (moves_Gen.l3 kq x5_4 x49_3 l1_0 (l1_0.length : Int) x49_3 ((rd_T62 l0_3 t251).f3) (((rd_T62 l0_3 t251).f3).length : Int) x67_4 a0_0 a0_1 a0_2 l0_3 l0_4 a0_5 a0_6 l0_7 a0_8 a0_9 a0_10 l1_0 l1_1 l1_2 a1_3 a1_4 = some r) ∧ Aside0 (kq ≤ k3) ∧ Aside0 (Kd.R k39 39 w' w.heap.size (fun _ => True) vs5 x5_4) ∧ Aside0 (w'.heap[gb242]? = some (.cells #[.string a0_0, .int .i64 a0_1, .int .i64 a0_2, (.slice (some ad252) l0_3.length c0_3), (.slice A0_4 l0_4.length c0_4), .bool a0_5, .bool a0_6, (.slice A0_7 l0_7.length c0_7), .int .i64 a0_8, .int .i64 a0_9, .int .i64 a0_10] 26 (0, 0))) ∧ Aside0 (w'.heap[gb243]? = some (.cells #[(.slice (some ad249) l1_0.length c1_0), (.slice A1_1 l1_1.length c1_1), (.slice A1_2 l1_2.length c1_2), .int .i64 a1_3, .int .i64 a1_4] 29 (0, 0))) ∧ Aside0 (Below w.heap.size w w'))
          case atStart => exact ⟨(x5_3), (0), (xrf), H', ⟨Nat.le_refl _⟩, ⟨by (with_reducible repeat (first | apply Kd.R_alloc | apply Kd.R_drewN | apply Kd.R_drew)); exact HO_5.out⟩, ⟨xK BK242⟩, ⟨xK BK243⟩, ⟨xW HB⟩⟩
          case round =>
           clear H'; (try clear p2); (try clear q2); (try clear hx2); (try clear p6); (try clear p24); (try clear q24); (try clear hx24); (try clear p25); (try clear q25); (try clear hx25); (try clear hx244_0); (try clear hx249_0); (try clear hx252_0); (try clear hx252_1); (try clear hx252_2); (try clear hx252_3); (try clear p244); (try clear p249); (try clear p252); (try clear q244); (try clear q249); (try clear q252)
           obtain ⟨x5_4, x67_4, rfl, HA, HK4, HO_5, BK242, BK243, HB⟩ := hrel
           cases gk with
           | zero => exact absurd HA.out (by simp [moves_Gen.l3])
           | succ k4 =>
            have H := HA.out; clear HA
            simp only [moves_Gen.l3] at H
            by_cases c47 : x67_4 < (((rd_T62 l0_3 t251).f3).length : Int)
            ·rw [if_pos c47] at H
             have c47b0 := decide_eq_true c47
             clear c47
             obtain ⟨c48b0, H⟩ := xJ H
             obtain ⟨c49b0, H⟩ := xJ H
             obtain ⟨t255, A50, H⟩ := xH H
             (try dsimp only at H)
             have H' := xm H
             clear H
             have p253 : 0 ≤ (x67_4 : Int) := xO
             have q253 : x67_4 < (((rd_T62 l0_3 t251).f3).length : Int) := xO
             obtain ⟨ad253, e253, hx253_0, hx253_1, hx253_2, hx253_3⟩ := at_T74 HR252_3.out x67_4 p253 q253
             cases e253
             replace hx253_0 := xR HB hx253_0; replace hx253_1 := xR HB hx253_1; replace hx253_2 := xR HB hx253_2; replace hx253_3 := xR HB hx253_3; replace p253 := eq_true p253; replace q253 := eq_true q253
             go_wp2_with (first | ((with_reducible refine gate_dst (N := 12) rfl ?_); refine xG (cs := #[.int .i64 0, .int .i64 0, .int .i64 0, .int .i64 0]) (t := 74) ?_; intro gb254 hg w51 hbox hb; have BK254 := xm (hbox); have GW254 := xm (xZ HB hg); have GE254 := xm (xZ HB hg); have NB242_254 := xm (xN BK242 hg); have NB254_242 := xm (xM BK242 hg); have NB243_254 := xm (xN BK243 hg); have NB254_243 := xm (xM BK243 hg); replace HO_5 := xm (Kd.R_below (yR HO_5) hb); replace BK242 := xm (xB BK242 hb); replace BK243 := xm (xB BK243 hb); replace HB := xm (xS HB hb); clear hb hbox hg; have hnb52 := NB254_242.out; have hnc52 := NB242_254.out; have hnb53 := NB254_243.out; have hnc53 := NB243_254.out; have hcz54_0 := blkc4 BK254.out) | ((with_reducible refine gate_store (t := 74) (p := 12) rfl ?_); (try (rw [drewN_self w51]; generalize hq_ : World.drewN w51 _ = w51; have n0_ := Aside0.mk (Kd.R_at hq_ HO_5.out); have n1_ := Aside0.mk (blk_at hq_ BK242.out); have n2_ := Aside0.mk (blk_at hq_ BK243.out); have n3_ := Aside0.mk (blk_at hq_ BK254.out); have n4_ := Aside0.mk (below_at hq_ HB.out); clear hq_ HO_5 BK242 BK243 BK254 HB; have HO_5 := n0_; have BK242 := n1_; have BK243 := n2_; have BK254 := n3_; have HB := n4_; clear n0_ n1_ n2_ n3_ n4_)); refine store_event (t := 74) (p := 12) (v := ?vo_w55) (w1 := ((((w51.setCell ⟨gb254, 0, none⟩ (.int .i64 ((rd_T74 ((rd_T62 l0_3 t251).f3) x67_4).f0))).setCell ⟨gb254, 1, none⟩ (.int .i64 ((rd_T74 ((rd_T62 l0_3 t251).f3) x67_4).f1))).setCell ⟨gb254, 2, none⟩ (.int .i64 ((rd_T74 ((rd_T62 l0_3 t251).f3) x67_4).f2))).setCell ⟨gb254, 3, none⟩ (.int .i64 ((rd_T74 ((rd_T62 l0_3 t251).f3) x67_4).f3)))) ?hg ?ho ?hn ?hr ?_; (case ho => rfl); (case hg => rfl); (case hn => rfl); (case hr => first | (go_simp; done) | (go_simp; rfl)); intro w55 hw; have n0_ : Aside0 (Kd.R k39 39 w55 w.heap.size (fun _ => True) u5 x5_4) := ⟨(by rw [hw]; exact (by (with_reducible repeat (first | apply Kd.R_alloc | apply Kd.R_drewN | apply Kd.R_drew)); exact Kd.R_mono (Kd.R_far (p := ⟨gb254, 3, none⟩) (Kd.R_far (p := ⟨gb254, 2, none⟩) (Kd.R_far (p := ⟨gb254, 1, none⟩) (Kd.R_far (p := ⟨gb254, 0, none⟩) (Kd.R_types HO_5.out BK254.out (by decide)) (fun _ hk => hk.2) (.int .i64 ((rd_T74 ((rd_T62 l0_3 t251).f3) x67_4).f0))) (fun _ hk => hk.2) (.int .i64 ((rd_T74 ((rd_T62 l0_3 t251).f3) x67_4).f1))) (fun _ hk => hk.2) (.int .i64 ((rd_T74 ((rd_T62 l0_3 t251).f3) x67_4).f2))) (fun _ hk => hk.2) (.int .i64 ((rd_T74 ((rd_T62 l0_3 t251).f3) x67_4).f3))) (fun _ hk => trivial)))⟩; have n1_ : Aside0 (w55.heap[gb242]? = some (.cells #[.string a0_0, .int .i64 a0_1, .int .i64 a0_2, .slice (some ad252) l0_3.length c0_3, .slice A0_4 l0_4.length c0_4, .bool a0_5, .bool a0_6, .slice A0_7 l0_7.length c0_7, .int .i64 a0_8, .int .i64 a0_9, .int .i64 a0_10] 26 (0, 0))) := ⟨(by rw [hw]; exact (xK BK242))⟩; have n2_ : Aside0 (w55.heap[gb243]? = some (.cells #[.slice (some ad249) l1_0.length c1_0, .slice A1_1 l1_1.length c1_1, .slice A1_2 l1_2.length c1_2, .int .i64 a1_3, .int .i64 a1_4] 29 (0, 0))) := ⟨(by rw [hw]; exact (xK BK243))⟩; have n3_ : Aside0 (w55.heap[gb254]? = some (.cells #[.int .i64 ((rd_T74 ((rd_T62 l0_3 t251).f3) x67_4).f0), .int .i64 ((rd_T74 ((rd_T62 l0_3 t251).f3) x67_4).f1), .int .i64 ((rd_T74 ((rd_T62 l0_3 t251).f3) x67_4).f2), .int .i64 ((rd_T74 ((rd_T62 l0_3 t251).f3) x67_4).f3)] 74 (0, 0))) := ⟨(by rw [hw]; exact (xQ BK254))⟩; have n4_ : Aside0 (Below w.heap.size w w55) := ⟨(by rw [hw]; exact (xW HB))⟩; clear hw; clear HO_5; clear BK242; clear BK243; clear BK254; clear HB; have HO_5 := n0_; have BK242 := n1_; have BK243 := n2_; have BK254 := n3_; have HB := n4_; clear n0_ n1_ n2_ n3_ n4_; have hcz57_0 := blkc11 BK242.out; have hcz58_0 := blkc5 BK243.out; have hcz59_0 := blkc4 BK254.out; obtain ⟨Ao60, co60, eo60⟩ := Kd.R_slice HO_5.out; subst eo60) | (go_at_call 55; (with_reducible refine (moves_along.calls k4 (fun k_ => some k_ = (.slice Ao60 x5_4.length co60 : Value).ownBlock) (.slice Ao60 x5_4.length co60) x5_4 a0_0 a0_1 a0_2 _ _ l0_3 _ _ l0_4 a0_5 a0_6 _ _ l0_7 a0_8 a0_9 a0_10 _ _ l1_0 _ _ l1_1 _ _ l1_2 a1_3 a1_4 x49_3 ((rd_T74 ((rd_T62 l0_3 t251).f3) x67_4).f0) ((rd_T74 ((rd_T62 l0_3 t251).f3) x67_4).f1) ((rd_T74 ((rd_T62 l0_3 t251).f3) x67_4).f2) ((rd_T74 ((rd_T62 l0_3 t251).f3) x67_4).f3) t255 w _ ?side1 ?side2 ?side3 ?side4 ?side5 ?side6 ?side7 ?side8 ?side9 ?side10 ?side11 ?side12 ?side13 ?side14 A50.out).mono ?_); (case side1 => repeat (first | (with_reducible first | exact HB.out | apply below_alloc | apply pw_below_drewN | apply below_drew1 | refine below_set ?_ GE242.out | refine below_set ?_ GE243.out | refine below_set ?_ GE254.out) | exact HB.out)); (case side2 => exact Kd.R_tight rfl HO_5.out); (case side3 => exact Kd.C_kept_came k62_heap HR0_3.out (xW HB) (fun k_ hs_ => (fun e_ => Kd.R_base HO_5.out k_ e_.symm) hs_)); (case side4 => exact HC0_3.out); (case side5 => exact Kd.C_kept_came (Kd.heap_int .i64) HR0_4.out (xW HB) (fun k_ hs_ => (fun e_ => Kd.R_base HO_5.out k_ e_.symm) hs_)); (case side6 => exact HC0_4.out); (case side7 => exact Kd.C_kept_came k64_heap HR0_7.out (xW HB) (fun k_ hs_ => (fun e_ => Kd.R_base HO_5.out k_ e_.symm) hs_)); (case side8 => exact HC0_7.out); (case side9 => exact Kd.C_kept_came (Kd.heap_int .i64) HR1_0.out (xW HB) (fun k_ hs_ => (fun e_ => Kd.R_base HO_5.out k_ e_.symm) hs_)); (case side10 => exact HC1_0.out); (case side11 => exact Kd.C_kept_came (Kd.heap_int .i64) HR1_1.out (xW HB) (fun k_ hs_ => (fun e_ => Kd.R_base HO_5.out k_ e_.symm) hs_)); (case side12 => exact HC1_1.out); (case side13 => exact Kd.C_kept_came (Kd.heap_int .i64) HR1_2.out (xW HB) (fun k_ hs_ => (fun e_ => Kd.R_base HO_5.out k_ e_.symm) hs_)); (case side14 => exact HC1_2.out); rintro e w61 ⟨v256, rfl, ho0, hb, hkp⟩; have HO257 := xm (Kd.R_mono (ok' := fun k_ => True) ho0 (fun k_ hk_ => trivial)); replace BK242 := xm (blk_kept (xK BK242) hkp (fun hs_ => (fun e_ => (Kd.R_ne HO_5.out BK242.out (by decide)) e_) hs_)); replace BK243 := xm (blk_kept (xK BK243) hkp (fun hs_ => (fun e_ => (Kd.R_ne HO_5.out BK243.out (by decide)) e_) hs_)); replace BK254 := xm (blk_kept (xK BK254) hkp (fun hs_ => (fun e_ => (Kd.R_ne HO_5.out BK254.out (by decide)) e_) hs_)); replace HB := xm (hb); clear HO_5; (try clear hb); (try clear hkp); (try clear ho0)))
             go_roundg k4
             case measure => have := HJ2.out; have := HK2.out; have := HK3.out; have := HK4.out; omega
             case rel => exact ⟨(t255), (wrap64 (x67_4 + 1)), (xrf), H', ⟨by have := HJ2.out; have := HK2.out; have := HK3.out; have := HK4.out; omega⟩, ⟨by (with_reducible repeat (first | apply Kd.R_alloc | apply Kd.R_drewN | apply Kd.R_drew)); exact HO257.out⟩, ⟨xK BK242⟩, ⟨xK BK243⟩, ⟨xW HB⟩⟩
            ·rw [if_neg c47] at H
             have c47b0 := decide_eq_false c47
             clear c47
             have H' := xm H
             clear H
             go_wp2
             go_roundg k4
             case measure => have := HJ2.out; have := HK2.out; have := HK3.out; have := HK4.out; omega
             case rel => exact ⟨(x5_4), (wrap64 (x49_3 + 1)), (xrf), H', ⟨by have := HJ2.out; have := HK2.out; have := HK3.out; have := HK4.out; omega⟩, ⟨by (with_reducible repeat (first | apply Kd.R_alloc | apply Kd.R_drewN | apply Kd.R_drew)); exact HO_5.out⟩, ⟨xK BK242⟩, ⟨xK BK243⟩, ⟨xW HB⟩⟩
         ·rw [if_neg c40] at H
          have c40b0 := beq_eq_false_iff_ne.mpr c40
          have c40b1 := bne_iff_ne.mpr c40
          have H' := xm H
          clear H
          have p249 : 0 ≤ (x49_3 : Int) := xO
          have q249 : x49_3 < (l1_0.length : Int) := xO
          obtain ⟨ad249, e249, hx249_0⟩ := Kd.at_int HR1_0.out x49_3 p249 q249
          cases e249
          replace hx249_0 := xR HB hx249_0; replace p249 := eq_true p249; replace q249 := eq_true q249
          go_wp2_with (first | (go_at_call 53; (with_reducible refine (moves_Owner.calls (rd l1_0 x49_3) t250 _ A39.out).mono ?_); rintro e w' ⟨rfl, ⟨nd, rfl⟩⟩; (try exact xE); have hcz63_0 := blkc5 BK243.out))
          repeat (go_quiet (first | (go_at_call 53; (with_reducible refine (moves_Owner.calls (rd l1_0 x49_3) t250 _ A39.out).mono ?_); rintro e w' ⟨rfl, ⟨nd, rfl⟩⟩; (try exact xE); have hcz63_0 := blkc5 BK243.out)); try go_wp2_with (first | (go_at_call 53; (with_reducible refine (moves_Owner.calls (rd l1_0 x49_3) t250 _ A39.out).mono ?_); rintro e w' ⟨rfl, ⟨nd, rfl⟩⟩; (try exact xE); have hcz63_0 := blkc5 BK243.out)))
          go_roundg k3
          case measure => have := HJ2.out; have := HK2.out; have := HK3.out; omega
          case rel => exact ⟨(x5_3), (wrap64 (x49_3 + 1)), (xrf), H', ⟨by have := HJ2.out; have := HK2.out; have := HK3.out; omega⟩, ⟨by (with_reducible repeat (first | apply Kd.R_alloc | apply Kd.R_drewN | apply Kd.R_drew)); exact HO_5.out⟩, ⟨xK BK242⟩, ⟨xK BK243⟩, ⟨xW HB⟩⟩
        ·rw [if_neg c36] at H
         have c36b0 := decide_eq_false c36
         clear c36
         by_cases hz2 : x5_3.length < 4611686018427387904
         ·rw [if_pos hz2] at H
          obtain rfl := Option.some.inj H
          have hs_ := xm hz2; clear hz2
          go_wp2_with (first | (go_at_call 56; refine (sort_any HO_5.out HB.out HB.out.size hs_.out).mono ?_; rintro e w2 ⟨rfl, ho2, hb2, _⟩; have HO2 := xm ho2; have HB2 := xm hb2; clear ho2 hb2) | (go_at_call 58; refine (compact_any HO2.out HB2.out (by rw [sortM_len]; exact hs_.out)).mono ?_; rintro e w3 ⟨v3, rfl, ho3, hb3⟩; have HO3 := xm ho3; have HB3 := xm hb3; clear ho3 hb3))
          go_ret
          exact ⟨_, xer, Kd.R_mono HO3.out (fun _ _ => trivial), HB3.out⟩
         ·rw [if_neg hz2] at H
          exact absurd H (by simp)

/-! ### moves_Cell: function 59 -/
def moves_Cell.f (a0 : Int) (a1 : Int) : Option (Int) := some (wrap64 ((wrap64 ((wrap64 (2 * a0)) + a1)) + 1))
theorem moves_Cell.calls (a0 : Int) (a1 : Int) (r : Int) (w : World) (h : moves_Cell.f a0 a1 = some r) :
    Calls Try.prog 59 #[.int .i64 a0, .int .i64 a1] w fun e w' => e = .returned (.int .i64 r) ∧ Drawn0 w w' := by
 have H : (some (wrap64 ((wrap64 ((wrap64 (2 * a0)) + a1)) + 1))) = some r := h
 clear h
 obtain rfl := Option.some.inj H
 go_enter Try.func59, Try.ntmps59
 go_wp2
 go_ret
 exact ⟨xrf, by repeat (first | exact Drawn0.refl _ | apply Drawn0.step)⟩

/-! ### zob_Next: function 35 -/
mutual
def zob_Next.j0 : Nat → Int → ByteArray → Int → Int → List (S62) → List Int → Bool → Bool → List (S64) → Int → Int → Int → List Int → List Int → List Int → Int → Int → Int → Int → Int → Option (Int)
  | 0, _, _, _, _, _, _, _, _, _, _, _, _, _, _, _, _, _, _, _, _ => none
  | k + 1, x3, z259a, z259b, z259c, z259d, z259e, z259f, z259g, z259h, z259i, z259j, z259k, z260a, z260b, z260c, z260d, z260e, z261a, z261b, z261c => if 0 ≤ z261b then (if z261b < (z260a.length : Int) then (if (rd z260a z261b) = 0 then ((moves_Cell.f z261c z260d).bind fun t267 => ((zob_square.f z261b t267).bind fun t268 => (some (IntKind.u64.wrap (x3 + t268))))) else ((zob_square.f z261b (rd z260a z261b)).bind fun t269 => (if z259g = true then (if 0 ≤ z260d then (if z260d < 2 then (if z260d = 0 then ((moves_Kind.f (rd z260a z261b)).bind fun t270 => (if 0 ≤ t270 then (if t270 < (z260b.length : Int) then (zob_Next.j1 k (IntKind.u64.wrap (x3 - t269)) (rd z260a z261b) (decide ((rd z260b t270) < 1000)) z260a z260b z260c z260d z260e z261a z261b z261c) else (none)) else (none))) else ((moves_Kind.f (rd z260a z261b)).bind fun t272 => (if 0 ≤ t272 then (if t272 < (z260c.length : Int) then (zob_Next.j1 k (IntKind.u64.wrap (x3 - t269)) (rd z260a z261b) (decide ((rd z260c t272) < 1000)) z260a z260b z260c z260d z260e z261a z261b z261c) else (none)) else (none)))) else (none)) else (none)) else (zob_Next.j1 k (IntKind.u64.wrap (x3 - t269)) (rd z260a z261b) false z260a z260b z260c z260d z260e z261a z261b z261c)))) else (none)) else (none)
def zob_Next.j1 : Nat → Int → Int → Bool → List Int → List Int → List Int → Int → Int → Int → Int → Int → Option (Int)
  | 0, _, _, _, _, _, _, _, _, _, _, _ => none
  | k + 1, x3, x9, x68, z260a, z260b, z260c, z260d, z260e, z261a, z261b, z261c => if x68 = true then ((moves_Kind.f x9).bind fun t274 => ((zob_held.f z260d t274 1).bind fun t275 => ((moves_Cell.f z261c z260d).bind fun t276 => ((zob_square.f z261b t276).bind fun t277 => (some (IntKind.u64.wrap ((IntKind.u64.wrap (x3 + t275)) + t277))))))) else ((moves_Cell.f z261c z260d).bind fun t278 => ((zob_square.f z261b t278).bind fun t279 => (some (IntKind.u64.wrap (x3 + t279)))))
end
def zob_Next.f (k : Nat) (a0_0 : ByteArray) (a0_1 : Int) (a0_2 : Int) (l0_3 : List (S62)) (l0_4 : List Int) (a0_5 : Bool) (a0_6 : Bool) (l0_7 : List (S64)) (a0_8 : Int) (a0_9 : Int) (a0_10 : Int) (l1_0 : List Int) (l1_1 : List Int) (l1_2 : List Int) (a1_3 : Int) (a1_4 : Int) (a2_0 : Int) (a2_1 : Int) (a2_2 : Int) (a3 : Int) : Option (Int) := (zob_turn.f (wrap64 (1 - a1_3))).bind fun t261 => ((zob_turn.f a1_3).bind fun t262 => (if a2_0 < 0 then ((zob_held.f a1_3 a2_2 1).bind fun t263 => (zob_Next.j0 k (IntKind.u64.wrap ((IntKind.u64.wrap (a3 + (IntKind.u64.wrap (t261 - t262)))) - t263)) a0_0 a0_1 a0_2 l0_3 l0_4 a0_5 a0_6 l0_7 a0_8 a0_9 a0_10 l1_0 l1_1 l1_2 a1_3 a1_4 a2_0 a2_1 a2_2)) else (if 0 ≤ a2_0 then (if a2_0 < (l1_0.length : Int) then ((zob_square.f a2_0 (rd l1_0 a2_0)).bind fun t265 => (zob_Next.j0 k (IntKind.u64.wrap ((IntKind.u64.wrap (a3 + (IntKind.u64.wrap (t261 - t262)))) - t265)) a0_0 a0_1 a0_2 l0_3 l0_4 a0_5 a0_6 l0_7 a0_8 a0_9 a0_10 l1_0 l1_1 l1_2 a1_3 a1_4 a2_0 a2_1 a2_2)) else (none)) else (none))))
theorem zob_Next.mono_l : ∀ k, L10 (L10 (LeO)) (zob_Next.j0 k) (zob_Next.j0 (k + 1)) ∧ L10 (LM (LeO)) (zob_Next.j1 k) (zob_Next.j1 (k + 1))
  | 0 => by refine ⟨?_, ?_⟩ <;> (repeat (first | exact LeO.none _ | intro _))
  | k + 1 => by
    obtain ⟨ih0, ih1⟩ := zob_Next.mono_l k
    refine ⟨?_, ?_⟩ <;> ((repeat (first | (with_reducible refine LeO.st ?_) | intro _)); constructor; (first | unfold zob_Next.j0 | unfold zob_Next.j1); repeat' first | (with_reducible first | apply ih0 | apply ih1 | exact LeO.refl _ | exact LeO.none _ | refine LeO.ite ?_ ?_ | refine LeO.bind ?_ (fun _ => ?_)) | apply ih0 | apply ih1 | exact LeO.none _ | refine LeO.ite ?_ ?_ | refine LeO.bind ?_ (fun _ => ?_))
theorem zob_Next.mono : ∀ a0 a1 a2 a3 a4 a5 a6 a7 a8 a9 a10 a11 a12 a13 a14 a15 a16 a17 a18 a19 k, LeO (zob_Next.f k a0 a1 a2 a3 a4 a5 a6 a7 a8 a9 a10 a11 a12 a13 a14 a15 a16 a17 a18 a19) (zob_Next.f (k + 1) a0 a1 a2 a3 a4 a5 a6 a7 a8 a9 a10 a11 a12 a13 a14 a15 a16 a17 a18 a19) := by
  intros; rename_i k
  obtain ⟨ih0, ih1⟩ := zob_Next.mono_l k
  unfold zob_Next.f
  repeat' first | (with_reducible first | apply ih0 | apply ih1 | exact LeO.refl _ | exact LeO.none _ | refine LeO.ite ?_ ?_ | refine LeO.bind ?_ (fun _ => ?_)) | apply ih0 | apply ih1 | exact LeO.none _ | refine LeO.ite ?_ ?_ | refine LeO.bind ?_ (fun _ => ?_)
theorem zob_Next.calls (k : Nat) (a0_0 : ByteArray) (a0_1 : Int) (a0_2 : Int) (A0_3 : Option Addr) (c0_3 : Nat) (l0_3 : List (S62)) (A0_4 : Option Addr) (c0_4 : Nat) (l0_4 : List Int) (a0_5 : Bool) (a0_6 : Bool) (A0_7 : Option Addr) (c0_7 : Nat) (l0_7 : List (S64)) (a0_8 : Int) (a0_9 : Int) (a0_10 : Int) (A1_0 : Option Addr) (c1_0 : Nat) (l1_0 : List Int) (A1_1 : Option Addr) (c1_1 : Nat) (l1_1 : List Int) (A1_2 : Option Addr) (c1_2 : Nat) (l1_2 : List Int) (a1_3 : Int) (a1_4 : Int) (a2_0 : Int) (a2_1 : Int) (a2_2 : Int) (a3 : Int) (r : Int) (w : World) (hr0_3 : Kd.C k62 w A0_3 l0_3.length l0_3) (hc0_3 : l0_3.length ≤ c0_3) (hr0_4 : Kd.C (Kd.int .i64) w A0_4 l0_4.length l0_4) (hc0_4 : l0_4.length ≤ c0_4) (hr0_7 : Kd.C k64 w A0_7 l0_7.length l0_7) (hc0_7 : l0_7.length ≤ c0_7) (hr1_0 : Kd.C (Kd.int .i64) w A1_0 l1_0.length l1_0) (hc1_0 : l1_0.length ≤ c1_0) (hr1_1 : Kd.C (Kd.int .i64) w A1_1 l1_1.length l1_1) (hc1_1 : l1_1.length ≤ c1_1) (hr1_2 : Kd.C (Kd.int .i64) w A1_2 l1_2.length l1_2) (hc1_2 : l1_2.length ≤ c1_2) (h : zob_Next.f k a0_0 a0_1 a0_2 l0_3 l0_4 a0_5 a0_6 l0_7 a0_8 a0_9 a0_10 l1_0 l1_1 l1_2 a1_3 a1_4 a2_0 a2_1 a2_2 a3 = some r) :
    Calls Try.prog 35 #[.agg #[.string a0_0, .int .i64 a0_1, .int .i64 a0_2, .slice A0_3 l0_3.length c0_3, .slice A0_4 l0_4.length c0_4, .bool a0_5, .bool a0_6, .slice A0_7 l0_7.length c0_7, .int .i64 a0_8, .int .i64 a0_9, .int .i64 a0_10], .agg #[.slice A1_0 l1_0.length c1_0, .slice A1_1 l1_1.length c1_1, .slice A1_2 l1_2.length c1_2, .int .i64 a1_3, .int .i64 a1_4], .agg #[.int .i64 a2_0, .int .i64 a2_1, .int .i64 a2_2], .int .u64 a3] w fun e w' => e = .returned (.int .u64 r) ∧ Below w.heap.size w w' := by
 have hu26 := Try.underlying26; have hu29 := Try.underlying29; have hu39 := Try.underlying39; have HR0_3 := xm hr0_3; have HC0_3 := xm hc0_3; clear hr0_3 hc0_3; have HR0_4 := xm hr0_4; have HC0_4 := xm hc0_4; clear hr0_4 hc0_4; have HR0_7 := xm hr0_7; have HC0_7 := xm hc0_7; clear hr0_7 hc0_7; have HR1_0 := xm hr1_0; have HC1_0 := xm hc1_0; clear hr1_0 hc1_0; have HR1_1 := xm hr1_1; have HC1_1 := xm hc1_1; clear hr1_1 hc1_1; have HR1_2 := xm hr1_2; have HC1_2 := xm hc1_2; clear hr1_2 hc1_2; have HB := xm (Below.refl w.heap.size w); have hss_ := @isSome_setCell
 have H : ((zob_turn.f (wrap64 (1 - a1_3))).bind fun t261 => ((zob_turn.f a1_3).bind fun t262 => (if a2_0 < 0 then ((zob_held.f a1_3 a2_2 1).bind fun t263 => (zob_Next.j0 k (IntKind.u64.wrap ((IntKind.u64.wrap (a3 + (IntKind.u64.wrap (t261 - t262)))) - t263)) a0_0 a0_1 a0_2 l0_3 l0_4 a0_5 a0_6 l0_7 a0_8 a0_9 a0_10 l1_0 l1_1 l1_2 a1_3 a1_4 a2_0 a2_1 a2_2)) else (if 0 ≤ a2_0 then (if a2_0 < (l1_0.length : Int) then ((zob_square.f a2_0 (rd l1_0 a2_0)).bind fun t265 => (zob_Next.j0 k (IntKind.u64.wrap ((IntKind.u64.wrap (a3 + (IntKind.u64.wrap (t261 - t262)))) - t265)) a0_0 a0_1 a0_2 l0_3 l0_4 a0_5 a0_6 l0_7 a0_8 a0_9 a0_10 l1_0 l1_1 l1_2 a1_3 a1_4 a2_0 a2_1 a2_2)) else (none)) else (none))))) = some r := h
 clear h; obtain ⟨t261, A5, H⟩ := xH H
 (try dsimp only at H); obtain ⟨t262, A6, H⟩ := xH H
 (try dsimp only at H); have HC7 := xm H; clear H
 go_enter Try.func35, Try.ntmps35
 go_upto_if 22 with (first | ((with_reducible refine gate_dst (N := 4) rfl ?_); refine xG (cs := #[.string a0_0, .int .i64 a0_1, .int .i64 a0_2, .slice A0_3 l0_3.length c0_3, .slice A0_4 l0_4.length c0_4, .bool a0_5, .bool a0_6, .slice A0_7 l0_7.length c0_7, .int .i64 a0_8, .int .i64 a0_9, .int .i64 a0_10]) (t := 26) ?_; intro gb258 hg w8 hbox hb; have BK258 := xm (hbox); have GW258 := xm (xZ HB hg); have GE258 := xm (xZ HB hg); replace HB := xm (xS HB hb); clear hb hbox hg) | ((with_reducible refine gate_dst (N := 5) rfl ?_); refine xG (cs := #[.slice A1_0 l1_0.length c1_0, .slice A1_1 l1_1.length c1_1, .slice A1_2 l1_2.length c1_2, .int .i64 a1_3, .int .i64 a1_4]) (t := 29) ?_; intro gb259 hg w9 hbox hb; have BK259 := xm (hbox); have GW259 := xm (xZ HB hg); have GE259 := xm (xZ HB hg); have NB258_259 := xm (xN BK258 hg); have NB259_258 := xm (xM BK258 hg); replace BK258 := xm (xB BK258 hb); replace HB := xm (xS HB hb); clear hb hbox hg) | ((with_reducible refine gate_dst (N := 6) rfl ?_); refine xG (cs := #[.int .i64 a2_0, .int .i64 a2_1, .int .i64 a2_2]) (t := 39) ?_; intro gb260 hg w10 hbox hb; have BK260 := xm (hbox); have GW260 := xm (xZ HB hg); have GE260 := xm (xZ HB hg); have NB258_260 := xm (xN BK258 hg); have NB260_258 := xm (xM BK258 hg); have NB259_260 := xm (xN BK259 hg); have NB260_259 := xm (xM BK259 hg); replace BK258 := xm (xB BK258 hb); replace BK259 := xm (xB BK259 hb); replace HB := xm (xS HB hb); clear hb hbox hg; have hnb11 := NB259_258.out; have hnc11 := NB258_259.out; have hnb12 := NB259_260.out; have hnc12 := NB260_259.out; have hcz13_0 := blkc5 BK259.out) | (go_at_call 48; (with_reducible refine (zob_turn.calls (wrap64 (1 - a1_3)) t261 _ A5.out).mono ?_); rintro e w' ⟨rfl, ⟨nd, rfl⟩⟩; (try exact xE)) | (go_at_call 48; (with_reducible refine (zob_turn.calls a1_3 t262 _ A6.out).mono ?_); rintro e w' ⟨rfl, ⟨nd, rfl⟩⟩; (try exact xE); have hnb14 := NB260_258.out; have hnc14 := NB258_260.out; have hcz15_0 := blkc3 BK260.out))
 repeat (go_quiet (first | ((with_reducible refine gate_dst (N := 4) rfl ?_); refine xG (cs := #[.string a0_0, .int .i64 a0_1, .int .i64 a0_2, .slice A0_3 l0_3.length c0_3, .slice A0_4 l0_4.length c0_4, .bool a0_5, .bool a0_6, .slice A0_7 l0_7.length c0_7, .int .i64 a0_8, .int .i64 a0_9, .int .i64 a0_10]) (t := 26) ?_; intro gb258 hg w8 hbox hb; have BK258 := xm (hbox); have GW258 := xm (xZ HB hg); have GE258 := xm (xZ HB hg); replace HB := xm (xS HB hb); clear hb hbox hg) | ((with_reducible refine gate_dst (N := 5) rfl ?_); refine xG (cs := #[.slice A1_0 l1_0.length c1_0, .slice A1_1 l1_1.length c1_1, .slice A1_2 l1_2.length c1_2, .int .i64 a1_3, .int .i64 a1_4]) (t := 29) ?_; intro gb259 hg w9 hbox hb; have BK259 := xm (hbox); have GW259 := xm (xZ HB hg); have GE259 := xm (xZ HB hg); have NB258_259 := xm (xN BK258 hg); have NB259_258 := xm (xM BK258 hg); replace BK258 := xm (xB BK258 hb); replace HB := xm (xS HB hb); clear hb hbox hg) | ((with_reducible refine gate_dst (N := 6) rfl ?_); refine xG (cs := #[.int .i64 a2_0, .int .i64 a2_1, .int .i64 a2_2]) (t := 39) ?_; intro gb260 hg w10 hbox hb; have BK260 := xm (hbox); have GW260 := xm (xZ HB hg); have GE260 := xm (xZ HB hg); have NB258_260 := xm (xN BK258 hg); have NB260_258 := xm (xM BK258 hg); have NB259_260 := xm (xN BK259 hg); have NB260_259 := xm (xM BK259 hg); replace BK258 := xm (xB BK258 hb); replace BK259 := xm (xB BK259 hb); replace HB := xm (xS HB hb); clear hb hbox hg; have hcz13_0 := blkc5 BK259.out) | (go_at_call 48; (try simp only [i64_w, i32_w]); (with_reducible refine (zob_turn.calls (wrap64 (1 - a1_3)) t261 _ A5.out).mono ?_); rintro e w' ⟨rfl, ⟨nd, rfl⟩⟩; (try exact xE)) | (go_at_call 48; (with_reducible refine (zob_turn.calls a1_3 t262 _ A6.out).mono ?_); rintro e w' ⟨rfl, ⟨nd, rfl⟩⟩; (try exact xE); have hcz15_0 := blkc3 BK260.out)); go_upto_if 22 with (first | ((with_reducible refine gate_dst (N := 4) rfl ?_); refine xG (cs := #[.string a0_0, .int .i64 a0_1, .int .i64 a0_2, .slice A0_3 l0_3.length c0_3, .slice A0_4 l0_4.length c0_4, .bool a0_5, .bool a0_6, .slice A0_7 l0_7.length c0_7, .int .i64 a0_8, .int .i64 a0_9, .int .i64 a0_10]) (t := 26) ?_; intro gb258 hg w8 hbox hb; have BK258 := xm (hbox); have GW258 := xm (xZ HB hg); have GE258 := xm (xZ HB hg); replace HB := xm (xS HB hb); clear hb hbox hg) | ((with_reducible refine gate_dst (N := 5) rfl ?_); refine xG (cs := #[.slice A1_0 l1_0.length c1_0, .slice A1_1 l1_1.length c1_1, .slice A1_2 l1_2.length c1_2, .int .i64 a1_3, .int .i64 a1_4]) (t := 29) ?_; intro gb259 hg w9 hbox hb; have BK259 := xm (hbox); have GW259 := xm (xZ HB hg); have GE259 := xm (xZ HB hg); have NB258_259 := xm (xN BK258 hg); have NB259_258 := xm (xM BK258 hg); replace BK258 := xm (xB BK258 hb); replace HB := xm (xS HB hb); clear hb hbox hg) | ((with_reducible refine gate_dst (N := 6) rfl ?_); refine xG (cs := #[.int .i64 a2_0, .int .i64 a2_1, .int .i64 a2_2]) (t := 39) ?_; intro gb260 hg w10 hbox hb; have BK260 := xm (hbox); have GW260 := xm (xZ HB hg); have GE260 := xm (xZ HB hg); have NB258_260 := xm (xN BK258 hg); have NB260_258 := xm (xM BK258 hg); have NB259_260 := xm (xN BK259 hg); have NB260_259 := xm (xM BK259 hg); replace BK258 := xm (xB BK258 hb); replace BK259 := xm (xB BK259 hb); replace HB := xm (xS HB hb); clear hb hbox hg; have hcz13_0 := blkc5 BK259.out) | (go_at_call 48; (try simp only [i64_w, i32_w]); (with_reducible refine (zob_turn.calls (wrap64 (1 - a1_3)) t261 _ A5.out).mono ?_); rintro e w' ⟨rfl, ⟨nd, rfl⟩⟩; (try exact xE)) | (go_at_call 48; (with_reducible refine (zob_turn.calls a1_3 t262 _ A6.out).mono ?_); rintro e w' ⟨rfl, ⟨nd, rfl⟩⟩; (try exact xE); have hcz15_0 := blkc3 BK260.out)))
 (try have hq259_258 := NB259_258.out); (try have hq258_259 := NB258_259.out); (try have hq259_260 := NB259_260.out); (try have hq260_259 := NB260_259.out); (try have hq260_258 := NB260_258.out); (try have hq258_260 := NB258_260.out)
 (try simp only [Act.put, List.setIfInBounds_toArray, List.set_cons_zero, List.set_cons_succ])
 go_cut [3] (fun vs3 wc => ∃ (kq : Nat) (x3_6 : Int), vs3 = .int .u64 x3_6 ∧ Aside0 (zob_Next.j0 kq x3_6 a0_0 a0_1 a0_2 l0_3 l0_4 a0_5 a0_6 l0_7 a0_8 a0_9 a0_10 l1_0 l1_1 l1_2 a1_3 a1_4 a2_0 a2_1 a2_2 = some r) ∧ Aside0 (kq ≤ k) ∧ Aside0 (wc.heap[gb258]? = some (.cells #[.string a0_0, .int .i64 a0_1, .int .i64 a0_2, (.slice A0_3 l0_3.length c0_3), (.slice A0_4 l0_4.length c0_4), .bool a0_5, .bool a0_6, (.slice A0_7 l0_7.length c0_7), .int .i64 a0_8, .int .i64 a0_9, .int .i64 a0_10] 26 (0, 0))) ∧ Aside0 (wc.heap[gb259]? = some (.cells #[(.slice A1_0 l1_0.length c1_0), (.slice A1_1 l1_1.length c1_1), (.slice A1_2 l1_2.length c1_2), .int .i64 a1_3, .int .i64 a1_4] 29 (0, 0))) ∧ Aside0 (wc.heap[gb260]? = some (.cells #[.int .i64 a2_0, .int .i64 a2_1, .int .i64 a2_2] 39 (0, 0))) ∧ Aside0 (Below w.heap.size w wc))
 case first =>
  have H := HC7.out; clear HC7
  by_cases c16 : a2_0 < 0
  ·rw [if_pos c16] at H
   have c16b0 := decide_eq_true c16
   clear c16
   (first | rw [c16b0] | (simp only [i64_w, i32_w]; rw [c16b0]) | skip)
   obtain ⟨t263, A17, H⟩ := xH H
   (try dsimp only at H)
   have H' := xm H
   clear H; have hcz20_0 := blkc5 BK259.out; have hcz22_0 := blkc3 BK260.out
   go_wp2_with (first | (go_at_call 50; (with_reducible refine (zob_held.calls a1_3 a2_2 1 t263 _ A17.out).mono ?_); rintro e w' ⟨rfl, ⟨nd, rfl⟩⟩; (try exact xE)))
   go_meet
   case rel => exact ⟨_, (IntKind.u64.wrap ((IntKind.u64.wrap (a3 + (IntKind.u64.wrap (t261 - t262)))) - t263)), (xrf), H', ⟨by first | omega | exact Nat.le_refl _⟩, ⟨xK BK258⟩, ⟨xK BK259⟩, ⟨xK BK260⟩, ⟨xW HB⟩⟩
  ·rw [if_neg c16] at H
   have c16b0 := decide_eq_false c16
   clear c16
   (first | rw [c16b0] | (simp only [i64_w, i32_w]; rw [c16b0]) | skip)
   obtain ⟨c23b0, H⟩ := xJ H
   obtain ⟨c24b0, H⟩ := xJ H
   obtain ⟨t265, A25, H⟩ := xH H
   (try dsimp only at H)
   have H' := xm H
   clear H; have hcz28_0 := blkc3 BK260.out; have hcz30_0 := blkc5 BK259.out
   have p264 : 0 ≤ (a2_0 : Int) := xO
   have q264 : a2_0 < (l1_0.length : Int) := xO
   obtain ⟨ad264, e264, hx264_0⟩ := Kd.at_int HR1_0.out a2_0 p264 q264
   cases e264
   replace hx264_0 := xR HB hx264_0; replace p264 := eq_true p264; replace q264 := eq_true q264
   go_wp2_with (first | (go_at_call 49; (with_reducible refine (zob_square.calls a2_0 (rd l1_0 a2_0) t265 _ A25.out).mono ?_); rintro e w' ⟨rfl, ⟨nd, rfl⟩⟩; (try exact xE)))
   repeat (go_quiet (first | (go_at_call 49; (with_reducible refine (zob_square.calls a2_0 (rd l1_0 a2_0) t265 _ A25.out).mono ?_); rintro e w' ⟨rfl, ⟨nd, rfl⟩⟩; (try exact xE))); try go_wp2_with (first | (go_at_call 49; (with_reducible refine (zob_square.calls a2_0 (rd l1_0 a2_0) t265 _ A25.out).mono ?_); rintro e w' ⟨rfl, ⟨nd, rfl⟩⟩; (try exact xE))))
   go_meet
   case rel => exact ⟨_, (IntKind.u64.wrap ((IntKind.u64.wrap (a3 + (IntKind.u64.wrap (t261 - t262)))) - t265)), (xrf), H', ⟨by first | omega | exact Nat.le_refl _⟩, ⟨xK BK258⟩, ⟨xK BK259⟩, ⟨xK BK260⟩, ⟨xW HB⟩⟩
 case rest =>
  clear HC7; (try clear p2); (try clear q2); (try clear hx2); (try clear p6); (try clear p26); (try clear q26); (try clear hx26); (try clear hx264_0); (try clear p264); (try clear q264)
  obtain ⟨kq, x3_6, rfl, HA, HJ6, BK258, BK259, BK260, HB⟩ := hcut
  cases kq with
  | zero => exact absurd HA.out (by simp [zob_Next.j0])
  | succ kj6 =>
   have H := HA.out; clear HA
   simp only [zob_Next.j0] at H
   obtain ⟨c31b0, H⟩ := xJ H
   obtain ⟨c32b0, H⟩ := xJ H
   by_cases c33 : (rd l1_0 a2_1) = 0
   ·rw [if_pos c33] at H
    have c33b0 := beq_iff_eq.mpr c33
    have c33b1 := bne_eq_false_iff_eq.mpr c33
    clear c33; replace H := Option.bind_eq_some_iff.mp H
    obtain ⟨t267, A340, H⟩ := H
    replace H : ((zob_square.f a2_1 t267).bind fun t268 => (some (IntKind.u64.wrap (x3_6 + t268)))) = some r := H
    have A34 := xm A340; clear A340; replace H := Option.bind_eq_some_iff.mp H
    obtain ⟨t268, A350, H⟩ := H
    replace H : (some (IntKind.u64.wrap (x3_6 + t268))) = some r := H
    have A35 := xm A350; clear A350
    obtain rfl := Option.some.inj H
    have hcz38_0 := blkc5 BK259.out; have hcz40_0 := blkc3 BK260.out
    have p266 : 0 ≤ (a2_1 : Int) := xO
    have q266 : a2_1 < (l1_0.length : Int) := xO
    obtain ⟨ad266, e266, hx266_0⟩ := Kd.at_int HR1_0.out a2_1 p266 q266
    cases e266
    replace hx266_0 := xR HB hx266_0; replace p266 := eq_true p266; replace q266 := eq_true q266
    go_wp2_with (first | (go_at_call 59; (with_reducible refine (moves_Cell.calls a2_2 a1_3 t267 _ A34.out).mono ?_); rintro e w' ⟨rfl, ⟨nd, rfl⟩⟩; (try exact xE)) | (go_at_call 49; (with_reducible refine (zob_square.calls a2_1 t267 t268 _ A35.out).mono ?_); rintro e w' ⟨rfl, ⟨nd, rfl⟩⟩; (try exact xE)))
    repeat (go_quiet (first | (go_at_call 59; (with_reducible refine (moves_Cell.calls a2_2 a1_3 t267 _ A34.out).mono ?_); rintro e w' ⟨rfl, ⟨nd, rfl⟩⟩; (try exact xE)) | (go_at_call 49; (with_reducible refine (zob_square.calls a2_1 t267 t268 _ A35.out).mono ?_); rintro e w' ⟨rfl, ⟨nd, rfl⟩⟩; (try exact xE))); try go_wp2_with (first | (go_at_call 59; (with_reducible refine (moves_Cell.calls a2_2 a1_3 t267 _ A34.out).mono ?_); rintro e w' ⟨rfl, ⟨nd, rfl⟩⟩; (try exact xE)) | (go_at_call 49; (with_reducible refine (zob_square.calls a2_1 t267 t268 _ A35.out).mono ?_); rintro e w' ⟨rfl, ⟨nd, rfl⟩⟩; (try exact xE))))
    go_ret
    exact ⟨xer, xW HB⟩
   ·rw [if_neg c33] at H
    have c33b0 := beq_eq_false_iff_ne.mpr c33
    have c33b1 := bne_iff_ne.mpr c33
    obtain ⟨t269, A41, H⟩ := xH H
    (try dsimp only at H); have HC42 := xm H; clear H; have hcz45_0 := blkc5 BK259.out; have hcz47_0 := blkc3 BK260.out
    have p266 : 0 ≤ (a2_1 : Int) := xO
    have q266 : a2_1 < (l1_0.length : Int) := xO
    obtain ⟨ad266, e266, hx266_0⟩ := Kd.at_int HR1_0.out a2_1 p266 q266
    cases e266
    replace hx266_0 := xR HB hx266_0; replace p266 := eq_true p266; replace q266 := eq_true q266
    go_upto_region 8 with (first | (go_at_call 49; (with_reducible refine (zob_square.calls a2_1 (rd l1_0 a2_1) t269 _ A41.out).mono ?_); rintro e w' ⟨rfl, ⟨nd, rfl⟩⟩; (try exact xE)))
    (try simp only [Act.put, List.setIfInBounds_toArray, List.set_cons_zero, List.set_cons_succ])
    go_cut [68] (fun vs68 wc => ∃ (kq : Nat) (x68_41 : Bool), vs68 = .bool x68_41 ∧ Aside0 (zob_Next.j1 kq (IntKind.u64.wrap (x3_6 - t269)) (rd l1_0 a2_1) x68_41 l1_0 l1_1 l1_2 a1_3 a1_4 a2_0 a2_1 a2_2 = some r) ∧ Aside0 (kq ≤ kj6) ∧ Aside0 (wc.heap[gb258]? = some (.cells #[.string a0_0, .int .i64 a0_1, .int .i64 a0_2, (.slice A0_3 l0_3.length c0_3), (.slice A0_4 l0_4.length c0_4), .bool a0_5, .bool a0_6, (.slice A0_7 l0_7.length c0_7), .int .i64 a0_8, .int .i64 a0_9, .int .i64 a0_10] 26 (0, 0))) ∧ Aside0 (wc.heap[gb259]? = some (.cells #[(.slice (some ad266) l1_0.length c1_0), (.slice A1_1 l1_1.length c1_1), (.slice A1_2 l1_2.length c1_2), .int .i64 a1_3, .int .i64 a1_4] 29 (0, 0))) ∧ Aside0 (wc.heap[gb260]? = some (.cells #[.int .i64 a2_0, .int .i64 a2_1, .int .i64 a2_2] 39 (0, 0))) ∧ Aside0 (Below w.heap.size w wc))
    case first =>
     have H := HC42.out; clear HC42
     by_cases c48 : a0_6 = true
     ·subst c48
      rw [if_pos rfl] at H
      obtain ⟨c49b0, H⟩ := xJ H
      (first | rw [c49b0] | (simp only [i64_w, i32_w]; rw [c49b0]) | skip)
      obtain ⟨c50b0, H⟩ := xJ H
      by_cases c51 : a1_3 = 0
      ·rw [if_pos c51] at H
       have c51b0 := beq_iff_eq.mpr c51
       have c51b1 := bne_eq_false_iff_eq.mpr c51
       clear c51; obtain ⟨c52b, c52g, c52c, c52d⟩ := xar (a1_3 : Int) 0 0 2; obtain ⟨t270, A53, H⟩ := xH H
       (try dsimp only at H)
       obtain ⟨c54b0, H⟩ := xJ H
       obtain ⟨c55b0, H⟩ := xJ H
       have H' := xm H
       clear H; have hcz58_0 := blkc11 BK258.out; have hcz60_0 := blkc5 BK259.out
       go_wp2_with (first | (go_at_call 54; (with_reducible refine (moves_Kind.calls (rd l1_0 a2_1) t270 _ A53.out).mono ?_); rintro e w' ⟨rfl, ⟨nd, rfl⟩⟩; (try exact xE); have p271 : 0 ≤ (t270 : Int) := xO; have q271 : t270 < (l1_1.length : Int) := xO; obtain ⟨ad271, e271, hx271_0⟩ := Kd.at_int HR1_1.out t270 p271 q271; cases e271; replace hx271_0 := xR HB hx271_0; replace p271 := eq_true p271; replace q271 := eq_true q271))
       repeat (go_quiet (first | (go_at_call 54; (with_reducible refine (moves_Kind.calls (rd l1_0 a2_1) t270 _ A53.out).mono ?_); rintro e w' ⟨rfl, ⟨nd, rfl⟩⟩; (try exact xE); have p271 : 0 ≤ (t270 : Int) := xO; have q271 : t270 < (l1_1.length : Int) := xO; obtain ⟨ad271, e271, hx271_0⟩ := Kd.at_int HR1_1.out t270 p271 q271; cases e271; replace hx271_0 := xR HB hx271_0; replace p271 := eq_true p271; replace q271 := eq_true q271)); try go_wp2_with (first | (go_at_call 54; (with_reducible refine (moves_Kind.calls (rd l1_0 a2_1) t270 _ A53.out).mono ?_); rintro e w' ⟨rfl, ⟨nd, rfl⟩⟩; (try exact xE); have p271 : 0 ≤ (t270 : Int) := xO; have q271 : t270 < (l1_1.length : Int) := xO; obtain ⟨ad271, e271, hx271_0⟩ := Kd.at_int HR1_1.out t270 p271 q271; cases e271; replace hx271_0 := xR HB hx271_0; replace p271 := eq_true p271; replace q271 := eq_true q271)))
       go_meet
       case rel => exact ⟨_, (decide ((rd l1_1 t270) < 1000)), (xrf), H', ⟨by have := HJ6.out; first | omega | exact Nat.le_refl _⟩, ⟨xK BK258⟩, ⟨xK BK259⟩, ⟨xK BK260⟩, ⟨xW HB⟩⟩
      ·rw [if_neg c51] at H
       have c51b0 := beq_eq_false_iff_ne.mpr c51
       have c51b1 := bne_iff_ne.mpr c51
       obtain ⟨c61b, c61g, c61c, c61d⟩ := xar (a1_3 : Int) 1 1 2; obtain ⟨t272, A62, H⟩ := xH H
       (try dsimp only at H)
       obtain ⟨c63b0, H⟩ := xJ H
       obtain ⟨c64b0, H⟩ := xJ H
       have H' := xm H
       clear H; have hcz67_0 := blkc11 BK258.out; have hcz69_0 := blkc5 BK259.out
       go_wp2_with (first | (go_at_call 54; (with_reducible refine (moves_Kind.calls (rd l1_0 a2_1) t272 _ A62.out).mono ?_); rintro e w' ⟨rfl, ⟨nd, rfl⟩⟩; (try exact xE); have p273 : 0 ≤ (t272 : Int) := xO; have q273 : t272 < (l1_2.length : Int) := xO; obtain ⟨ad273, e273, hx273_0⟩ := Kd.at_int HR1_2.out t272 p273 q273; cases e273; replace hx273_0 := xR HB hx273_0; replace p273 := eq_true p273; replace q273 := eq_true q273))
       repeat (go_quiet (first | (go_at_call 54; (with_reducible refine (moves_Kind.calls (rd l1_0 a2_1) t272 _ A62.out).mono ?_); rintro e w' ⟨rfl, ⟨nd, rfl⟩⟩; (try exact xE); have p273 : 0 ≤ (t272 : Int) := xO; have q273 : t272 < (l1_2.length : Int) := xO; obtain ⟨ad273, e273, hx273_0⟩ := Kd.at_int HR1_2.out t272 p273 q273; cases e273; replace hx273_0 := xR HB hx273_0; replace p273 := eq_true p273; replace q273 := eq_true q273)); try go_wp2_with (first | (go_at_call 54; (with_reducible refine (moves_Kind.calls (rd l1_0 a2_1) t272 _ A62.out).mono ?_); rintro e w' ⟨rfl, ⟨nd, rfl⟩⟩; (try exact xE); have p273 : 0 ≤ (t272 : Int) := xO; have q273 : t272 < (l1_2.length : Int) := xO; obtain ⟨ad273, e273, hx273_0⟩ := Kd.at_int HR1_2.out t272 p273 q273; cases e273; replace hx273_0 := xR HB hx273_0; replace p273 := eq_true p273; replace q273 := eq_true q273)))
       go_meet
       case rel => exact ⟨_, (decide ((rd l1_2 t272) < 1000)), (xrf), H', ⟨by have := HJ6.out; first | omega | exact Nat.le_refl _⟩, ⟨xK BK258⟩, ⟨xK BK259⟩, ⟨xK BK260⟩, ⟨xW HB⟩⟩
     ·obtain rfl := Bool.eq_false_iff.mpr c48
      rw [if_neg xF] at H
      have H' := xm H
      clear H; have hcz72_0 := blkc11 BK258.out
      go_wp2
      repeat (go_quiet (fail); try go_wp2)
      go_meet
      case rel => exact ⟨_, (false), (xrf), H', ⟨by have := HJ6.out; first | omega | exact Nat.le_refl _⟩, ⟨xK BK258⟩, ⟨xK BK259⟩, ⟨xK BK260⟩, ⟨xW HB⟩⟩
    case rest =>
     clear HC42; (try clear p2); (try clear q2); (try clear hx2); (try clear p6); (try clear p26); (try clear q26); (try clear hx26); (try clear p27); (try clear q27); (try clear hx27); (try clear p64); (try clear hx264_0); (try clear hx266_0); (try clear hx271_0); (try clear hx273_0); (try clear p264); (try clear p266); (try clear p271); (try clear p273); (try clear q264); (try clear q266); (try clear q271); (try clear q273)
     obtain ⟨kq, x68_41, rfl, HA, HJ41, BK258, BK259, BK260, HB⟩ := hcut
     cases kq with
     | zero => exact absurd HA.out (by simp [zob_Next.j1])
     | succ kj41 =>
      have H := HA.out; clear HA
      simp only [zob_Next.j1] at H
      by_cases c73 : x68_41 = true
      ·subst c73
       rw [if_pos rfl] at H
       obtain ⟨t274, A74, H⟩ := xH H
       (try dsimp only at H); obtain ⟨t275, A75, H⟩ := xH H
       (try dsimp only at H); obtain ⟨t276, A76, H⟩ := xH H
       (try dsimp only at H); obtain ⟨t277, A77, H⟩ := xH H
       (try dsimp only at H)
       obtain rfl := Option.some.inj H
       have hcz80_0 := blkc5 BK259.out
       go_wp2_with (first | (go_at_call 54; (with_reducible refine (moves_Kind.calls (rd l1_0 a2_1) t274 _ A74.out).mono ?_); rintro e w' ⟨rfl, ⟨nd, rfl⟩⟩; (try exact xE)) | (go_at_call 50; (with_reducible refine (zob_held.calls a1_3 t274 1 t275 _ A75.out).mono ?_); rintro e w' ⟨rfl, ⟨nd, rfl⟩⟩; (try exact xE); have hcz82_0 := blkc3 BK260.out) | (go_at_call 59; (with_reducible refine (moves_Cell.calls a2_2 a1_3 t276 _ A76.out).mono ?_); rintro e w' ⟨rfl, ⟨nd, rfl⟩⟩; (try exact xE)) | (go_at_call 49; (with_reducible refine (zob_square.calls a2_1 t276 t277 _ A77.out).mono ?_); rintro e w' ⟨rfl, ⟨nd, rfl⟩⟩; (try exact xE)))
       repeat (go_quiet (first | (go_at_call 54; (with_reducible refine (moves_Kind.calls (rd l1_0 a2_1) t274 _ A74.out).mono ?_); rintro e w' ⟨rfl, ⟨nd, rfl⟩⟩; (try exact xE)) | (go_at_call 50; (with_reducible refine (zob_held.calls a1_3 t274 1 t275 _ A75.out).mono ?_); rintro e w' ⟨rfl, ⟨nd, rfl⟩⟩; (try exact xE); have hcz82_0 := blkc3 BK260.out) | (go_at_call 59; (with_reducible refine (moves_Cell.calls a2_2 a1_3 t276 _ A76.out).mono ?_); rintro e w' ⟨rfl, ⟨nd, rfl⟩⟩; (try exact xE)) | (go_at_call 49; (with_reducible refine (zob_square.calls a2_1 t276 t277 _ A77.out).mono ?_); rintro e w' ⟨rfl, ⟨nd, rfl⟩⟩; (try exact xE))); try go_wp2_with (first | (go_at_call 54; (with_reducible refine (moves_Kind.calls (rd l1_0 a2_1) t274 _ A74.out).mono ?_); rintro e w' ⟨rfl, ⟨nd, rfl⟩⟩; (try exact xE)) | (go_at_call 50; (with_reducible refine (zob_held.calls a1_3 t274 1 t275 _ A75.out).mono ?_); rintro e w' ⟨rfl, ⟨nd, rfl⟩⟩; (try exact xE); have hcz82_0 := blkc3 BK260.out) | (go_at_call 59; (with_reducible refine (moves_Cell.calls a2_2 a1_3 t276 _ A76.out).mono ?_); rintro e w' ⟨rfl, ⟨nd, rfl⟩⟩; (try exact xE)) | (go_at_call 49; (with_reducible refine (zob_square.calls a2_1 t276 t277 _ A77.out).mono ?_); rintro e w' ⟨rfl, ⟨nd, rfl⟩⟩; (try exact xE))))
       go_ret
       exact ⟨xer, xW HB⟩
      ·obtain rfl := Bool.eq_false_iff.mpr c73
       rw [if_neg xF] at H
       obtain ⟨t278, A83, H⟩ := xH H
       (try dsimp only at H); replace H := Option.bind_eq_some_iff.mp H
       obtain ⟨t279, A840, H⟩ := H
       replace H : (some (IntKind.u64.wrap ((IntKind.u64.wrap (x3_6 - t269)) + t279))) = some r := H
       have A84 := xm A840; clear A840
       obtain rfl := Option.some.inj H
       have hcz87_0 := blkc3 BK260.out; have hcz89_0 := blkc5 BK259.out
       go_wp2_with (first | (go_at_call 59; (with_reducible refine (moves_Cell.calls a2_2 a1_3 t278 _ A83.out).mono ?_); rintro e w' ⟨rfl, ⟨nd, rfl⟩⟩; (try exact xE)) | (go_at_call 49; (with_reducible refine (zob_square.calls a2_1 t278 t279 _ A84.out).mono ?_); rintro e w' ⟨rfl, ⟨nd, rfl⟩⟩; (try exact xE)))
       repeat (go_quiet (first | (go_at_call 59; (with_reducible refine (moves_Cell.calls a2_2 a1_3 t278 _ A83.out).mono ?_); rintro e w' ⟨rfl, ⟨nd, rfl⟩⟩; (try exact xE)) | (go_at_call 49; (with_reducible refine (zob_square.calls a2_1 t278 t279 _ A84.out).mono ?_); rintro e w' ⟨rfl, ⟨nd, rfl⟩⟩; (try exact xE))); try go_wp2_with (first | (go_at_call 59; (with_reducible refine (moves_Cell.calls a2_2 a1_3 t278 _ A83.out).mono ?_); rintro e w' ⟨rfl, ⟨nd, rfl⟩⟩; (try exact xE)) | (go_at_call 49; (with_reducible refine (zob_square.calls a2_1 t278 t279 _ A84.out).mono ?_); rintro e w' ⟨rfl, ⟨nd, rfl⟩⟩; (try exact xE))))
       go_ret
       exact ⟨xer, xW HB⟩

end Go.Proofs.Ytloadbbndnmdlaa.PZobKeys
