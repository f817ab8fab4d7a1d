-- Printed by a program of this claim's writer (wip/ext): an extension of the kit's print.
import Derived.Test.YtloadbbndnmdlaaPEndsOfx0
import Derived.Test.YtloadbbndnmdlaaPEndsOfx4
import Derived.Test.YtloadbbndnmdlaaPEndsOfx5
import Derived.Test.YtloadbbndnmdlaaMoveTail
namespace Go.Proofs.Ytloadbbndnmdlaa.PEndsOf
open Go.RowKit Go.Proofs.YtloadbbndnmdlaaW.PrintWords Go.Proofs.YtloadbbndnmdlaaW.PrintLast Go.Proofs.YtloadbbndnmdlaaW.PrintMore
set_option maxHeartbeats 8000000
set_option maxRecDepth 100000
attribute [local go_sem] max2_int min2_int max_two min_two max_three min_three max_four min_four   -- for this text's walks alone
set_option linter.unusedVariables false
set_option linter.unusedSimpArgs false

/-! ### moves_Gen: function 34 -/
mutual
def moves_Gen.j0 : Nat → List (S39) → List Int → Int → Int → ByteArray → Int → Int → List (S62) → List Int → Bool → Bool → List (S64) → Int → Int → Int → List Int → List Int → List Int → Int → Int → Option ((List (S39)))
  | 0, _, _, _, _, _, _, _, _, _, _, _, _, _, _, _, _, _, _, _, _ => none
  | k + 1, x5, x17, x18, x19, z158a, z158b, z158c, z158d, z158e, z158f, z158g, z158h, z158i, z158j, z158k, z159a, z159b, z159c, z159d, z159e => moves_Gen.l0 k x5 x17 x18 x19 z158a z158b z158c z158d z158e z158f z158g z158h z158i z158j z158k z159a z159b z159c z159d z159e
def moves_Gen.l0 : Nat → List (S39) → List Int → Int → Int → ByteArray → Int → Int → List (S62) → List Int → Bool → Bool → List (S64) → Int → Int → Int → List Int → List Int → List Int → Int → Int → Option ((List (S39)))
  | 0, _, _, _, _, _, _, _, _, _, _, _, _, _, _, _, _, _, _, _, _ => none
  | k + 1, x5, x17, x18, x19, z158a, z158b, z158c, z158d, z158e, z158f, z158g, z158h, z158i, z158j, z158k, z159a, z159b, z159c, z159d, z159e => if x19 < x18 then (if 0 ≤ x19 then (if x19 < (x17.length : Int) then (moves_Gen.l1 k x5 x19 (rd x17 x19) x17 x18 x19 (z159a.length : Int) 0 z158a z158b z158c z158d z158e z158f z158g z158h z158i z158j z158k z159a z159b z159c z159d z159e) else (none)) else (none)) else (moves_Gen.l2 k x5 z159a (z159a.length : Int) 0 z158a z158b z158c z158d z158e z158f z158g z158h z158i z158j z158k z159a z159b z159c z159d z159e)
def moves_Gen.l1 : Nat → List (S39) → Int → Int → List Int → Int → Int → Int → Int → ByteArray → Int → Int → List (S62) → List Int → Bool → Bool → List (S64) → Int → Int → Int → List Int → List Int → List Int → Int → Int → Option ((List (S39)))
  | 0, _, _, _, _, _, _, _, _, _, _, _, _, _, _, _, _, _, _, _, _, _, _, _, _ => none
  | k + 1, x5, x6, x7, x17, x18, x19, x26, x27, z158a, z158b, z158c, z158d, z158e, z158f, z158g, z158h, z158i, z158j, z158k, z159a, z159b, z159c, z159d, z159e => if x27 < x26 then (if x7 > 0 then ((moves_open.f k z158a z158b z158c z158d z158e z158f z158g z158h z158i z158j z158k z159a z159b z159c z159d z159e x27).bind fun t160 => (if t160 = true then (if x5.length < 5864062014805 then (moves_Gen.l1 k (x5 ++ [(⟨(-1), x27, x6⟩ : S39)]) x6 x7 x17 x18 x19 x26 (wrap64 (x27 + 1)) z158a z158b z158c z158d z158e z158f z158g z158h z158i z158j z158k z159a z159b z159c z159d z159e) else (none)) else (moves_Gen.l1 k x5 x6 x7 x17 x18 x19 x26 (wrap64 (x27 + 1)) z158a z158b z158c z158d z158e z158f z158g z158h z158i z158j z158k z159a z159b z159c z159d z159e))) else (moves_Gen.l1 k x5 x6 x7 x17 x18 x19 x26 (wrap64 (x27 + 1)) z158a z158b z158c z158d z158e z158f z158g z158h z158i z158j z158k z159a z159b z159c z159d z159e)) else (moves_Gen.l0 k x5 x17 x18 (wrap64 (x19 + 1)) z158a z158b z158c z158d z158e z158f z158g z158h z158i z158j z158k z159a z159b z159c z159d z159e)
def moves_Gen.l2 : Nat → List (S39) → List Int → Int → Int → ByteArray → Int → Int → List (S62) → List Int → Bool → Bool → List (S64) → Int → Int → Int → List Int → List Int → List Int → Int → Int → Option ((List (S39)))
  | 0, _, _, _, _, _, _, _, _, _, _, _, _, _, _, _, _, _, _, _, _ => none
  | k + 1, x5, x47, x48, x49, z158a, z158b, z158c, z158d, z158e, z158f, z158g, z158h, z158i, z158j, z158k, z159a, z159b, z159c, z159d, z159e => if x49 < x48 then (if 0 ≤ x49 then (if x49 < (x47.length : Int) then ((moves_Owner.f (rd x47 x49)).bind fun t165 => (if t165 = z159d then ((moves_Kind.f (rd x47 x49)).bind fun t166 => (if 0 ≤ t166 then (if t166 < (z158d.length : Int) then (moves_Gen.l3 k x5 x49 x47 x48 x49 ((rd_T62 z158d t166).f3) (((rd_T62 z158d t166).f3).length : Int) 0 z158a z158b z158c z158d z158e z158f z158g z158h z158i z158j z158k z159a z159b z159c z159d z159e) else (none)) else (none))) else (moves_Gen.l2 k x5 x47 x48 (wrap64 (x49 + 1)) z158a z158b z158c z158d z158e z158f z158g z158h z158i z158j z158k z159a z159b z159c z159d z159e))) else (none)) else (none)) else (if x5.length < 4611686018427387904 then (some (onceM x5)) else (none))
def moves_Gen.l3 : Nat → List (S39) → Int → List Int → Int → Int → List (S74) → Int → Int → ByteArray → Int → Int → List (S62) → List Int → Bool → Bool → List (S64) → Int → Int → Int → List Int → List Int → List Int → Int → Int → Option ((List (S39)))
  | 0, _, _, _, _, _, _, _, _, _, _, _, _, _, _, _, _, _, _, _, _, _, _, _, _ => none
  | k + 1, x5, x9, x47, x48, x49, x65, x66, x67, z158a, z158b, z158c, z158d, z158e, z158f, z158g, z158h, z158i, z158j, z158k, z159a, z159b, z159c, z159d, z159e => if x67 < x66 then (if 0 ≤ x67 then (if x67 < (x65.length : Int) then ((moves_along.f k x5 z158a z158b z158c z158d z158e z158f z158g z158h z158i z158j z158k z159a z159b z159c z159d z159e x9 ((rd_T74 x65 x67).f0) ((rd_T74 x65 x67).f1) ((rd_T74 x65 x67).f2) ((rd_T74 x65 x67).f3)).bind fun t170 => (moves_Gen.l3 k t170 x9 x47 x48 x49 x65 x66 (wrap64 (x67 + 1)) z158a z158b z158c z158d z158e z158f z158g z158h z158i z158j z158k z159a z159b z159c z159d z159e)) else (none)) else (none)) else (moves_Gen.l2 k x5 x47 x48 (wrap64 (x49 + 1)) z158a z158b z158c z158d z158e z158f z158g z158h z158i z158j z158k z159a z159b z159c z159d z159e)
end
def moves_Gen.f (k : Nat) (a0_0 : ByteArray) (a0_1 : Int) (a0_2 : Int) (l0_3 : List (S62)) (l0_4 : List Int) (a0_5 : Bool) (a0_6 : Bool) (l0_7 : List (S64)) (a0_8 : Int) (a0_9 : Int) (a0_10 : Int) (l1_0 : List Int) (l1_1 : List Int) (l1_2 : List Int) (a1_3 : Int) (a1_4 : Int) : Option ((List (S39))) := if 0 ≤ a1_3 then (if a1_3 < 2 then (if a1_3 = 0 then (moves_Gen.j0 k ([] : List (S39)) l1_1 (l1_1.length : Int) 0 a0_0 a0_1 a0_2 l0_3 l0_4 a0_5 a0_6 l0_7 a0_8 a0_9 a0_10 l1_0 l1_1 l1_2 a1_3 a1_4) else (moves_Gen.j0 k ([] : List (S39)) l1_2 (l1_2.length : Int) 0 a0_0 a0_1 a0_2 l0_3 l0_4 a0_5 a0_6 l0_7 a0_8 a0_9 a0_10 l1_0 l1_1 l1_2 a1_3 a1_4)) else (none)) else (none)
theorem moves_Gen.mono_l : ∀ k, L10 (L10 (LeO)) (moves_Gen.j0 k) (moves_Gen.j0 (k + 1)) ∧ L10 (L10 (LeO)) (moves_Gen.l0 k) (moves_Gen.l0 (k + 1)) ∧ L10 (L10 (LM (LM (LM (LM (LeO)))))) (moves_Gen.l1 k) (moves_Gen.l1 (k + 1)) ∧ L10 (L10 (LeO)) (moves_Gen.l2 k) (moves_Gen.l2 (k + 1)) ∧ L10 (L10 (LM (LM (LM (LM (LeO)))))) (moves_Gen.l3 k) (moves_Gen.l3 (k + 1))
  | 0 => by refine ⟨?_, ?_, ?_, ?_, ?_⟩ <;> (repeat (first | exact LeO.none _ | intro _))
  | k + 1 => by
    obtain ⟨ih0, ih1, ih2, ih3, ih4⟩ := moves_Gen.mono_l k
    refine ⟨?_, ?_, ?_, ?_, ?_⟩ <;> ((repeat (first | (with_reducible refine LeO.st ?_) | intro _)); constructor; (first | unfold moves_Gen.j0 | unfold moves_Gen.l0 | unfold moves_Gen.l1 | unfold moves_Gen.l2 | unfold moves_Gen.l3); repeat' first | (with_reducible first | apply ih0 | apply ih1 | apply ih2 | apply ih3 | apply ih4 | apply moves_along.mono | apply moves_open.mono | exact LeO.refl _ | exact LeO.none _ | refine LeO.ite ?_ ?_ | refine LeO.bind ?_ (fun _ => ?_)) | apply ih0 | apply ih1 | apply ih2 | apply ih3 | apply ih4 | apply moves_along.mono | apply moves_open.mono | exact LeO.none _ | refine LeO.ite ?_ ?_ | refine LeO.bind ?_ (fun _ => ?_))
theorem moves_Gen.mono : ∀ a0 a1 a2 a3 a4 a5 a6 a7 a8 a9 a10 a11 a12 a13 a14 a15 k, LeO (moves_Gen.f k a0 a1 a2 a3 a4 a5 a6 a7 a8 a9 a10 a11 a12 a13 a14 a15) (moves_Gen.f (k + 1) a0 a1 a2 a3 a4 a5 a6 a7 a8 a9 a10 a11 a12 a13 a14 a15) := by
  intros; rename_i k
  obtain ⟨ih0, ih1, ih2, ih3, ih4⟩ := moves_Gen.mono_l k
  unfold moves_Gen.f
  repeat' first | (with_reducible first | apply ih0 | apply ih1 | apply ih2 | apply ih3 | apply ih4 | apply moves_along.mono | apply moves_open.mono | exact LeO.refl _ | exact LeO.none _ | refine LeO.ite ?_ ?_ | refine LeO.bind ?_ (fun _ => ?_)) | apply ih0 | apply ih1 | apply ih2 | apply ih3 | apply ih4 | apply moves_along.mono | apply moves_open.mono | exact LeO.none _ | refine LeO.ite ?_ ?_ | refine LeO.bind ?_ (fun _ => ?_)
theorem moves_Gen.calls (k : Nat) (a0_0 : ByteArray) (a0_1 : Int) (a0_2 : Int) (A0_3 : Option Addr) (c0_3 : Nat) (l0_3 : List (S62)) (A0_4 : Option Addr) (c0_4 : Nat) (l0_4 : List Int) (a0_5 : Bool) (a0_6 : Bool) (A0_7 : Option Addr) (c0_7 : Nat) (l0_7 : List (S64)) (a0_8 : Int) (a0_9 : Int) (a0_10 : Int) (A1_0 : Option Addr) (c1_0 : Nat) (l1_0 : List Int) (A1_1 : Option Addr) (c1_1 : Nat) (l1_1 : List Int) (A1_2 : Option Addr) (c1_2 : Nat) (l1_2 : List Int) (a1_3 : Int) (a1_4 : Int) (r : List (S39)) (w : World) (hr0_3 : Kd.C k62 w A0_3 l0_3.length l0_3) (hc0_3 : l0_3.length ≤ c0_3) (hr0_4 : Kd.C (Kd.int .i64) w A0_4 l0_4.length l0_4) (hc0_4 : l0_4.length ≤ c0_4) (hr0_7 : Kd.C k64 w A0_7 l0_7.length l0_7) (hc0_7 : l0_7.length ≤ c0_7) (hr1_0 : Kd.C (Kd.int .i64) w A1_0 l1_0.length l1_0) (hc1_0 : l1_0.length ≤ c1_0) (hr1_1 : Kd.C (Kd.int .i64) w A1_1 l1_1.length l1_1) (hc1_1 : l1_1.length ≤ c1_1) (hr1_2 : Kd.C (Kd.int .i64) w A1_2 l1_2.length l1_2) (hc1_2 : l1_2.length ≤ c1_2) (h : moves_Gen.f k a0_0 a0_1 a0_2 l0_3 l0_4 a0_5 a0_6 l0_7 a0_8 a0_9 a0_10 l1_0 l1_1 l1_2 a1_3 a1_4 = some r) :
    Calls Try.prog 34 #[.agg #[.string a0_0, .int .i64 a0_1, .int .i64 a0_2, .slice A0_3 l0_3.length c0_3, .slice A0_4 l0_4.length c0_4, .bool a0_5, .bool a0_6, .slice A0_7 l0_7.length c0_7, .int .i64 a0_8, .int .i64 a0_9, .int .i64 a0_10], .agg #[.slice A1_0 l1_0.length c1_0, .slice A1_1 l1_1.length c1_1, .slice A1_2 l1_2.length c1_2, .int .i64 a1_3, .int .i64 a1_4]] w fun e w' => ∃ v0_ : Value, e = .returned (v0_) ∧ Kd.R k39 39 w' w.heap.size (fun _ => True) v0_ r ∧ Below w.heap.size w w' := by
 have hu26 := Try.underlying26; have hu29 := Try.underlying29; have hu39 := Try.underlying39; have hu74 := Try.underlying74; have HR0_3 := xm hr0_3; have HC0_3 := xm hc0_3; clear hr0_3 hc0_3; have HR0_4 := xm hr0_4; have HC0_4 := xm hc0_4; clear hr0_4 hc0_4; have HR0_7 := xm hr0_7; have HC0_7 := xm hc0_7; clear hr0_7 hc0_7; have HR1_0 := xm hr1_0; have HC1_0 := xm hc1_0; clear hr1_0 hc1_0; have HR1_1 := xm hr1_1; have HC1_1 := xm hc1_1; clear hr1_1 hc1_1; have HR1_2 := xm hr1_2; have HC1_2 := xm hc1_2; clear hr1_2 hc1_2; have HB := xm (Below.refl w.heap.size w); have hss_ := @isSome_setCell
 have H : (if 0 ≤ a1_3 then (if a1_3 < 2 then (if a1_3 = 0 then (moves_Gen.j0 k ([] : List (S39)) l1_1 (l1_1.length : Int) 0 a0_0 a0_1 a0_2 l0_3 l0_4 a0_5 a0_6 l0_7 a0_8 a0_9 a0_10 l1_0 l1_1 l1_2 a1_3 a1_4) else (moves_Gen.j0 k ([] : List (S39)) l1_2 (l1_2.length : Int) 0 a0_0 a0_1 a0_2 l0_3 l0_4 a0_5 a0_6 l0_7 a0_8 a0_9 a0_10 l1_0 l1_1 l1_2 a1_3 a1_4)) else (none)) else (none)) = some r := h
 clear h; have HC3 := xm H; clear H
 go_enter Try.func34, Try.ntmps34
 go_upto_region 2 with (first | ((with_reducible refine gate_dst (N := 2) rfl ?_); refine xG (cs := #[.string a0_0, .int .i64 a0_1, .int .i64 a0_2, .slice A0_3 l0_3.length c0_3, .slice A0_4 l0_4.length c0_4, .bool a0_5, .bool a0_6, .slice A0_7 l0_7.length c0_7, .int .i64 a0_8, .int .i64 a0_9, .int .i64 a0_10]) (t := 26) ?_; intro gb157 hg w4 hbox hb; have BK157 := xm (hbox); have GW157 := xm (xZ HB hg); have GE157 := xm (xZ HB hg); replace HB := xm (xS HB hb); clear hb hbox hg) | ((with_reducible refine gate_dst (N := 3) rfl ?_); refine xG (cs := #[.slice A1_0 l1_0.length c1_0, .slice A1_1 l1_1.length c1_1, .slice A1_2 l1_2.length c1_2, .int .i64 a1_3, .int .i64 a1_4]) (t := 29) ?_; intro gb158 hg w5 hbox hb; have BK158 := xm (hbox); have GW158 := xm (xZ HB hg); have GE158 := xm (xZ HB hg); have NB157_158 := xm (xN BK157 hg); have NB158_157 := xm (xM BK157 hg); replace BK157 := xm (xB BK157 hb); replace HB := xm (xS HB hb); clear hb hbox hg))
 (try have hq158_157 := NB158_157.out); (try have hq157_158 := NB157_158.out)
 (try simp only [Act.put, List.setIfInBounds_toArray, List.set_cons_zero, List.set_cons_succ])
 go_cut [17, 18, 19] (fun vs17 vs18 vs19 wc => ∃ (kq : Nat) (x17_2 : List Int) (x18_2 : Int) (x19_2 : Int) (Ar17 : Option Addr) (cr17 : Nat), vs17 = .slice Ar17 x17_2.length cr17 ∧ Aside0 (Kd.C (Kd.int .i64) w Ar17 x17_2.length x17_2) ∧ Aside0 (x17_2.length ≤ cr17) ∧ vs18 = .int .i64 x18_2 ∧ vs19 = .int .i64 x19_2 ∧ Aside0 (moves_Gen.j0 kq ([] : List (S39)) x17_2 x18_2 x19_2 a0_0 a0_1 a0_2 l0_3 l0_4 a0_5 a0_6 l0_7 a0_8 a0_9 a0_10 l1_0 l1_1 l1_2 a1_3 a1_4 = some r) ∧ Aside0 (kq ≤ k) ∧ Aside0 (Kd.R k39 39 wc w.heap.size (fun _ => True) (.slice none 0 0) ([] : List (S39))) ∧ Aside0 (wc.heap[gb157]? = some (.cells #[.string a0_0, .int .i64 a0_1, .int .i64 a0_2, (.slice A0_3 l0_3.length c0_3), (.slice A0_4 l0_4.length c0_4), .bool a0_5, .bool a0_6, (.slice A0_7 l0_7.length c0_7), .int .i64 a0_8, .int .i64 a0_9, .int .i64 a0_10] 26 (0, 0))) ∧ Aside0 (wc.heap[gb158]? = some (.cells #[(.slice A1_0 l1_0.length c1_0), (.slice A1_1 l1_1.length c1_1), (.slice A1_2 l1_2.length c1_2), .int .i64 a1_3, .int .i64 a1_4] 29 (0, 0))) ∧ Aside0 (Below w.heap.size w wc))
 case first =>
  have H := HC3.out; clear HC3
  by_cases c6 : 0 ≤ a1_3
  ·rw [if_pos c6] at H
   have c6b0 := decide_eq_true c6
   clear c6
   (first | rw [c6b0] | (simp only [i64_w, i32_w]; rw [c6b0]) | skip)
   by_cases c7 : a1_3 < 2
   ·rw [if_pos c7] at H
    have c7b0 := decide_eq_true c7
    clear c7
    by_cases c8 : a1_3 = 0
    ·rw [if_pos c8] at H
     have c8b0 := beq_iff_eq.mpr c8
     have c8b1 := bne_eq_false_iff_eq.mpr c8
     clear c8; obtain ⟨c9b, c9g, c9c, c9d⟩ := xar (a1_3 : Int) 0 0 2
     have H' := xm H
     clear H; have hcz11_0 := blkc5 BK158.out
     go_wp2
     go_meet
     case rel => exact ⟨_, (l1_1), ((l1_1.length : Int)), (0), (A1_1), (c1_1), rfl, ⟨HR1_1.out⟩, ⟨HC1_1.out⟩, (xrf), (xrf), H', ⟨by first | omega | exact Nat.le_refl _⟩, ⟨by first | exact Kd.R_nil _ _ _ _ _ | exact Kd.N_nil _ _ _ _ _ | exact Kd.V_nil _ _ _ _ _ | exact Kd.Q_nil _ _ _ _ _ | exact Kd.S_nil _ _ _ _ _⟩, ⟨xK BK157⟩, ⟨xK BK158⟩, ⟨xW HB⟩⟩
    ·rw [if_neg c8] at H
     have c8b0 := beq_eq_false_iff_ne.mpr c8
     have c8b1 := bne_iff_ne.mpr c8
     obtain ⟨c12b, c12g, c12c, c12d⟩ := xar (a1_3 : Int) 1 1 2
     have H' := xm H
     clear H; have hcz14_0 := blkc5 BK158.out
     go_wp2
     go_meet
     case rel => exact ⟨_, (l1_2), ((l1_2.length : Int)), (0), (A1_2), (c1_2), rfl, ⟨HR1_2.out⟩, ⟨HC1_2.out⟩, (xrf), (xrf), H', ⟨by first | omega | exact Nat.le_refl _⟩, ⟨by first | exact Kd.R_nil _ _ _ _ _ | exact Kd.N_nil _ _ _ _ _ | exact Kd.V_nil _ _ _ _ _ | exact Kd.Q_nil _ _ _ _ _ | exact Kd.S_nil _ _ _ _ _⟩, ⟨xK BK157⟩, ⟨xK BK158⟩, ⟨xW HB⟩⟩
   ·rw [if_neg c7] at H
    exact absurd H (by simp)
  ·rw [if_neg c6] at H
   exact absurd H (by simp)
 case rest =>
  clear HC3; (try clear p2)
  obtain ⟨kq, x17_2, x18_2, x19_2, Ar17, cr17, rfl, HR_17, HC_17, rfl, rfl, HA, HJ2, HO_5, BK157, BK158, HB⟩ := hcut
  cases kq with
  | zero => exact absurd HA.out (by simp [moves_Gen.j0])
  | succ kj2 =>
   have H := HA.out; clear HA
   simp only [moves_Gen.j0] at H
   have H' := xm H
   clear H
   go_wp2
   go_loopg [5, 19] kj2 (fun kq vs5 vs19 w' => ∃ (x5_2 : List (S39)) (x19_2 : Int), vs19 = .int .i64 x19_2 ∧ Aside0 (moves_Gen.l0 kq x5_2 x17_2 x18_2 x19_2 a0_0 a0_1 a0_2 l0_3 l0_4 a0_5 a0_6 l0_7 a0_8 a0_9 a0_10 l1_0 l1_1 l1_2 a1_3 a1_4 = some r) ∧ Aside0 (kq ≤ kj2) ∧ Aside0 (Kd.R k39 39 w' w.heap.size (fun _ => True) vs5 x5_2) ∧ Aside0 (w'.heap[gb157]? = some (.cells #[.string a0_0, .int .i64 a0_1, .int .i64 a0_2, (.slice A0_3 l0_3.length c0_3), (.slice A0_4 l0_4.length c0_4), .bool a0_5, .bool a0_6, (.slice A0_7 l0_7.length c0_7), .int .i64 a0_8, .int .i64 a0_9, .int .i64 a0_10] 26 (0, 0))) ∧ Aside0 (w'.heap[gb158]? = some (.cells #[(.slice A1_0 l1_0.length c1_0), (.slice A1_1 l1_1.length c1_1), (.slice A1_2 l1_2.length c1_2), .int .i64 a1_3, .int .i64 a1_4] 29 (0, 0))) ∧ Aside0 (Below w.heap.size w w'))
   case atStart => exact ⟨(([] : List (S39))), (x19_2), (xrf), H', ⟨Nat.le_refl _⟩, ⟨by (with_reducible repeat (first | apply Kd.R_alloc | apply Kd.R_drewN | apply Kd.R_drew)); exact HO_5.out⟩, ⟨xK BK157⟩, ⟨xK BK158⟩, ⟨xW HB⟩⟩
   case round =>
    clear H'; (try clear p2); (try clear p2)
    obtain ⟨x5_2, x19_2, rfl, HA, HK2, HO_5, BK157, BK158, HB⟩ := hrel
    cases gk with
    | zero => exact absurd HA.out (by simp [moves_Gen.l0])
    | succ k2 =>
     have H := HA.out; clear HA
     simp only [moves_Gen.l0] at H
     by_cases c15 : x19_2 < x18_2
     ·rw [if_pos c15] at H
      have c15b0 := decide_eq_true c15
      clear c15
      by_cases c16 : 0 ≤ x19_2
      ·rw [if_pos c16] at H
       have c16b0 := decide_eq_true c16
       clear c16
       by_cases c17 : x19_2 < (x17_2.length : Int)
       ·rw [if_pos c17] at H
        have c17b0 := decide_eq_true c17
        clear c17
        have H' := xm H
        clear H
        have p159 : 0 ≤ (x19_2 : Int) := xO
        have q159 : x19_2 < (x17_2.length : Int) := xO
        obtain ⟨ad159, e159, hx159_0⟩ := Kd.at_int HR_17.out x19_2 p159 q159
        cases e159
        replace hx159_0 := xR HB hx159_0; replace p159 := eq_true p159; replace q159 := eq_true q159; have hcz19_0 := blkc5 BK158.out
        go_wp2
        go_loopg [5, 27] k2 (fun kq vs5 vs27 w' => ∃ (x5_3 : List (S39)) (x27_3 : Int), vs27 = .int .i64 x27_3 ∧ Aside0 (moves_Gen.l1 kq x5_3 x19_2 (rd x17_2 x19_2) x17_2 x18_2 x19_2 (l1_0.length : Int) x27_3 a0_0 a0_1 a0_2 l0_3 l0_4 a0_5 a0_6 l0_7 a0_8 a0_9 a0_10 l1_0 l1_1 l1_2 a1_3 a1_4 = some r) ∧ Aside0 (kq ≤ k2) ∧ Aside0 (Kd.R k39 39 w' w.heap.size (fun _ => True) vs5 x5_3) ∧ Aside0 (w'.heap[gb157]? = some (.cells #[.string a0_0, .int .i64 a0_1, .int .i64 a0_2, (.slice A0_3 l0_3.length c0_3), (.slice A0_4 l0_4.length c0_4), .bool a0_5, .bool a0_6, (.slice A0_7 l0_7.length c0_7), .int .i64 a0_8, .int .i64 a0_9, .int .i64 a0_10] 26 (0, 0))) ∧ Aside0 (w'.heap[gb158]? = some (.cells #[(.slice A1_0 l1_0.length c1_0), (.slice A1_1 l1_1.length c1_1), (.slice A1_2 l1_2.length c1_2), .int .i64 a1_3, .int .i64 a1_4] 29 (0, 0))) ∧ Aside0 (Below w.heap.size w w'))
        case atStart => exact ⟨(x5_2), (0), (xrf), H', ⟨Nat.le_refl _⟩, ⟨by (with_reducible repeat (first | apply Kd.R_alloc | apply Kd.R_drewN | apply Kd.R_drew)); exact HO_5.out⟩, ⟨xK BK157⟩, ⟨xK BK158⟩, ⟨xW HB⟩⟩
        case round =>
         clear H'; (try clear p1); (try clear q1); (try clear hx1); (try clear p2); (try clear p15); (try clear q15); (try clear hx15); (try clear hx159_0); (try clear p159); (try clear p2); (try clear q159)
         obtain ⟨x5_3, x27_3, rfl, HA, HK3, HO_5, BK157, BK158, HB⟩ := hrel
         cases gk with
         | zero => exact absurd HA.out (by simp [moves_Gen.l1])
         | succ k3 =>
          have H := HA.out; clear HA
          simp only [moves_Gen.l1] at H
          by_cases c20 : x27_3 < (l1_0.length : Int)
          ·rw [if_pos c20] at H
           have c20b0 := decide_eq_true c20
           clear c20
           by_cases c21 : (rd x17_2 x19_2) > 0
           ·rw [if_pos c21] at H
            have c21b0 := decide_eq_true c21
            clear c21; replace H := Option.bind_eq_some_iff.mp H
            obtain ⟨t160, A220, H⟩ := H
            try dsimp only at H
            have A22 := xm A220; clear A220
            by_cases c23 : t160 = true
            ·subst c23
             rw [if_pos rfl] at H
             by_cases c24 : x5_3.length < 5864062014805
             ·rw [if_pos c24] at H
              have LMc24 := xm c24; clear c24
              obtain ⟨y161, hy161⟩ : ∃ y_ : List (S39), y_ = (x5_3 ++ [(⟨(-1), x27_3, x19_2⟩ : S39)]) := ⟨_, rfl⟩
              replace H : (moves_Gen.l1 k3 y161 x19_2 (rd x17_2 x19_2) x17_2 x18_2 x19_2 (l1_0.length : Int) (wrap64 (x27_3 + 1)) a0_0 a0_1 a0_2 l0_3 l0_4 a0_5 a0_6 l0_7 a0_8 a0_9 a0_10 l1_0 l1_1 l1_2 a1_3 a1_4) = some r := by first | (rw [hy161]; with_reducible exact H) | (have H2_ := (Option.bind_some _ _).symm.trans H; rw [hy161]; with_reducible exact H2_) | (have H2_ := (Option.bind_some _ _).symm.trans H; with_reducible exact H2_) | with_reducible exact H | (rw [hy161]; exact H) | exact H
              have Ny161 := xm hy161; clear hy161
              have H' := xm H
              clear H; have hcz26_0 := blkc11 BK157.out; have hcz27_0 := blkc5 BK158.out
              go_wp2_with (first | (go_at_call 52; (with_reducible refine (moves_open.calls k3 a0_0 a0_1 a0_2 _ _ l0_3 _ _ l0_4 a0_5 a0_6 _ _ l0_7 a0_8 a0_9 a0_10 _ _ l1_0 _ _ l1_1 _ _ l1_2 a1_3 a1_4 x27_3 true _ ?side1 ?side2 ?side3 ?side4 ?side5 ?side6 ?side7 ?side8 ?side9 ?side10 ?side11 ?side12 A22.out).mono ?_); (case side1 => exact xC (Kd.C_below HR0_3.out HB.out)); (case side2 => exact HC0_3.out); (case side3 => exact xC (Kd.C_below HR0_4.out HB.out)); (case side4 => exact HC0_4.out); (case side5 => exact xC (Kd.C_below HR0_7.out HB.out)); (case side6 => exact HC0_7.out); (case side7 => exact xC (Kd.C_below HR1_0.out HB.out)); (case side8 => exact HC1_0.out); (case side9 => exact xC (Kd.C_below HR1_1.out HB.out)); (case side10 => exact HC1_1.out); (case side11 => exact xC (Kd.C_below HR1_2.out HB.out)); (case side12 => exact HC1_2.out); rintro e w28 ⟨rfl, hb⟩; replace HO_5 := xm (Kd.R_below (by (with_reducible repeat (first | apply Kd.R_alloc | apply Kd.R_drewN | apply Kd.R_drew)); exact HO_5.out) hb); replace BK157 := xm (xB BK157 hb); replace BK158 := xm (xB BK158 hb); replace HB := xm (xS HB hb); (try clear hb); (try clear hb2); (try clear hk); (try clear hi)) | ((with_reducible refine gate_builtin (b := .append) (xs := #[.tmp 38, .tmp 42]) rfl ?_); at_builtin; refine Kd.R_append k39 (w0 := w) w.heap.size rfl (.tmp 38) (.tmp 42) 50 39 (.agg #[(.int .i64 0), (.int .i64 0), (.int .i64 0)]) 24 rfl Try.underlying50 info39 rfl (by decide) (by omega) u5 x5_3 (⟨(-1), x27_3, x19_2⟩ : S39) [.int .i64 (-1), .int .i64 x27_3, .int .i64 x19_2] (fun _ => True) (fun _ => False) rfl rfl ?aP (fun _ hk => hk.elim) ?aF ?aO ?aB ?aS ?aL ?_; (case aP => exact k39_mkM _ _ _ (⟨(-1), x27_3, x19_2⟩ : S39)); (case aB => exact (xW HB)); (case aF => exact (fun _ _ => trivial)); (case aO => exact (by (with_reducible repeat (first | apply Kd.R_alloc | apply Kd.R_drewN | apply Kd.R_drew)); exact HO_5.out)); (case aS => exact (below_size (xW HB))); (case aL => have := LMc24.out; omega); intro v162 w29 ho hb hg hat; rw [← Ny161.out] at ho; have HO163 := xm (ho); replace BK157 := xm (blk_grown (g := gb157) (o := .cells #[.string a0_0, .int .i64 a0_1, .int .i64 a0_2, .slice A0_3 l0_3.length c0_3, .slice A0_4 l0_4.length c0_4, .bool a0_5, .bool a0_6, .slice A0_7 l0_7.length c0_7, .int .i64 a0_8, .int .i64 a0_9, .int .i64 a0_10] 26 (0, 0)) (xK BK157) hg (Kd.R_ne HO_5.out BK157.out (by decide))); replace BK158 := xm (blk_grown (g := gb158) (o := .cells #[.slice A1_0 l1_0.length c1_0, .slice A1_1 l1_1.length c1_1, .slice A1_2 l1_2.length c1_2, .int .i64 a1_3, .int .i64 a1_4] 29 (0, 0)) (xK BK158) hg (Kd.R_ne HO_5.out BK158.out (by decide))); replace HB := xm (hb); clear HO_5; clear ho hb hg hat))
              go_roundg k3
              case measure => have := HJ2.out; have := HK2.out; have := HK3.out; omega
              case rel => exact ⟨(y161), (wrap64 (x27_3 + 1)), (xrf), H', ⟨by have := HJ2.out; have := HK2.out; have := HK3.out; omega⟩, ⟨by (with_reducible repeat (first | apply Kd.R_alloc | apply Kd.R_drewN | apply Kd.R_drew)); exact HO163.out⟩, ⟨xK BK157⟩, ⟨xK BK158⟩, ⟨xW HB⟩⟩
             ·rw [if_neg c24] at H
              exact absurd H (by simp)
            ·replace c23 := Bool.eq_false_iff.mpr c23
             subst c23
             rw [if_neg xF] at H
             have H' := xm H
             clear H; have hcz31_0 := blkc11 BK157.out; have hcz32_0 := blkc5 BK158.out
             go_wp2_with (first | (go_at_call 52; (with_reducible refine (moves_open.calls k3 a0_0 a0_1 a0_2 _ _ l0_3 _ _ l0_4 a0_5 a0_6 _ _ l0_7 a0_8 a0_9 a0_10 _ _ l1_0 _ _ l1_1 _ _ l1_2 a1_3 a1_4 x27_3 false _ ?side1 ?side2 ?side3 ?side4 ?side5 ?side6 ?side7 ?side8 ?side9 ?side10 ?side11 ?side12 A22.out).mono ?_); (case side1 => exact xC (Kd.C_below HR0_3.out HB.out)); (case side2 => exact HC0_3.out); (case side3 => exact xC (Kd.C_below HR0_4.out HB.out)); (case side4 => exact HC0_4.out); (case side5 => exact xC (Kd.C_below HR0_7.out HB.out)); (case side6 => exact HC0_7.out); (case side7 => exact xC (Kd.C_below HR1_0.out HB.out)); (case side8 => exact HC1_0.out); (case side9 => exact xC (Kd.C_below HR1_1.out HB.out)); (case side10 => exact HC1_1.out); (case side11 => exact xC (Kd.C_below HR1_2.out HB.out)); (case side12 => exact HC1_2.out); rintro e w33 ⟨rfl, hb⟩; replace HO_5 := xm (Kd.R_below (by (with_reducible repeat (first | apply Kd.R_alloc | apply Kd.R_drewN | apply Kd.R_drew)); exact HO_5.out) hb); replace BK157 := xm (xB BK157 hb); replace BK158 := xm (xB BK158 hb); replace HB := xm (xS HB hb); (try clear hb); (try clear hb2); (try clear hk); (try clear hi)))
             go_roundg k3
             case measure => have := HJ2.out; have := HK2.out; have := HK3.out; omega
             case rel => exact ⟨(x5_3), (wrap64 (x27_3 + 1)), (xrf), H', ⟨by have := HJ2.out; have := HK2.out; have := HK3.out; omega⟩, ⟨by (with_reducible repeat (first | apply Kd.R_alloc | apply Kd.R_drewN | apply Kd.R_drew)); exact HO_5.out⟩, ⟨xK BK157⟩, ⟨xK BK158⟩, ⟨xW HB⟩⟩
           ·rw [if_neg c21] at H
            have c21b0 := decide_eq_false c21
            clear c21
            have H' := xm H
            clear H
            go_wp2
            go_roundg k3
            case measure => have := HJ2.out; have := HK2.out; have := HK3.out; omega
            case rel => exact ⟨(x5_3), (wrap64 (x27_3 + 1)), (xrf), H', ⟨by have := HJ2.out; have := HK2.out; have := HK3.out; omega⟩, ⟨by (with_reducible repeat (first | apply Kd.R_alloc | apply Kd.R_drewN | apply Kd.R_drew)); exact HO_5.out⟩, ⟨xK BK157⟩, ⟨xK BK158⟩, ⟨xW HB⟩⟩
          ·rw [if_neg c20] at H
           have c20b0 := decide_eq_false c20
           clear c20
           have H' := xm H
           clear H
           go_wp2
           go_roundg k3
           case measure => have := HJ2.out; have := HK2.out; have := HK3.out; omega
           case rel => exact ⟨(x5_3), (wrap64 (x19_2 + 1)), (xrf), H', ⟨by have := HJ2.out; have := HK2.out; have := HK3.out; omega⟩, ⟨by (with_reducible repeat (first | apply Kd.R_alloc | apply Kd.R_drewN | apply Kd.R_drew)); exact HO_5.out⟩, ⟨xK BK157⟩, ⟨xK BK158⟩, ⟨xW HB⟩⟩
       ·rw [if_neg c17] at H
        exact absurd H (by simp)
      ·rw [if_neg c16] at H
       exact absurd H (by simp)
     ·rw [if_neg c15] at H
      have c15b0 := decide_eq_false c15
      clear c15
      have H' := xm H
      clear H; have hcz35_0 := blkc5 BK158.out
      go_wp2
      go_loopg [5, 49] k2 (fun kq vs5 vs49 w' => ∃ (x5_3 : List (S39)) (x49_3 : Int), vs49 = .int .i64 x49_3 ∧ Aside0 (moves_Gen.l2 kq x5_3 l1_0 (l1_0.length : Int) x49_3 a0_0 a0_1 a0_2 l0_3 l0_4 a0_5 a0_6 l0_7 a0_8 a0_9 a0_10 l1_0 l1_1 l1_2 a1_3 a1_4 = some r) ∧ Aside0 (kq ≤ k2) ∧ Aside0 (Kd.R k39 39 w' w.heap.size (fun _ => True) vs5 x5_3) ∧ Aside0 (w'.heap[gb157]? = some (.cells #[.string a0_0, .int .i64 a0_1, .int .i64 a0_2, (.slice A0_3 l0_3.length c0_3), (.slice A0_4 l0_4.length c0_4), .bool a0_5, .bool a0_6, (.slice A0_7 l0_7.length c0_7), .int .i64 a0_8, .int .i64 a0_9, .int .i64 a0_10] 26 (0, 0))) ∧ Aside0 (w'.heap[gb158]? = some (.cells #[(.slice A1_0 l1_0.length c1_0), (.slice A1_1 l1_1.length c1_1), (.slice A1_2 l1_2.length c1_2), .int .i64 a1_3, .int .i64 a1_4] 29 (0, 0))) ∧ Aside0 (Below w.heap.size w w'))
      case atStart => exact ⟨(x5_2), (0), (xrf), H', ⟨Nat.le_refl _⟩, ⟨by (with_reducible repeat (first | apply Kd.R_alloc | apply Kd.R_drewN | apply Kd.R_drew)); exact HO_5.out⟩, ⟨xK BK157⟩, ⟨xK BK158⟩, ⟨xW HB⟩⟩
      case round =>
       clear H'; (try clear p1); (try clear q1); (try clear hx1); (try clear p2); (try clear p6); (try clear p15); (try clear q15); (try clear hx15); (try clear hx159_0); (try clear p1); (try clear p15); (try clear p159); (try clear p2); (try clear q1); (try clear q15); (try clear q159)
       obtain ⟨x5_3, x49_3, rfl, HA, HK3, HO_5, BK157, BK158, HB⟩ := hrel
       cases gk with
       | zero => exact absurd HA.out (by simp [moves_Gen.l2])
       | succ k3 =>
        have H := HA.out; clear HA
        simp only [moves_Gen.l2] at H
        by_cases c36 : x49_3 < (l1_0.length : Int)
        ·rw [if_pos c36] at H
         have c36b0 := decide_eq_true c36
         clear c36
         by_cases c37 : 0 ≤ x49_3
         ·rw [if_pos c37] at H
          have c37b0 := decide_eq_true c37
          clear c37
          by_cases c38 : x49_3 < (l1_0.length : Int)
          ·rw [if_pos c38] at H
           have c38b0 := decide_eq_true c38
           clear c38; replace H := Option.bind_eq_some_iff.mp H
           obtain ⟨t165, A390, H⟩ := H
           try dsimp only at H
           have A39 := xm A390; clear A390
           by_cases c40 : t165 = a1_3
           ·rw [if_pos c40] at H
            have c40b0 := beq_iff_eq.mpr c40
            have c40b1 := bne_eq_false_iff_eq.mpr c40
            clear c40; replace H := Option.bind_eq_some_iff.mp H
            obtain ⟨t166, A410, H⟩ := H
            try dsimp only at H
            have A41 := xm A410; clear A410
            by_cases c42 : 0 ≤ t166
            ·rw [if_pos c42] at H
             have c42b0 := decide_eq_true c42
             clear c42
             by_cases c43 : t166 < (l0_3.length : Int)
             ·rw [if_pos c43] at H
              have c43b0 := decide_eq_true c43
              clear c43
              have H' := xm H
              clear H
              have p164 : 0 ≤ (x49_3 : Int) := xO
              have q164 : x49_3 < (l1_0.length : Int) := xO
              obtain ⟨ad164, e164, hx164_0⟩ := Kd.at_int HR1_0.out x49_3 p164 q164
              cases e164
              replace hx164_0 := xR HB hx164_0; replace p164 := eq_true p164; replace q164 := eq_true q164
              go_wp2_with (first | (go_at_call 53; (with_reducible refine (moves_Owner.calls (rd l1_0 x49_3) t165 _ A39.out).mono ?_); rintro e w' ⟨rfl, ⟨nd, rfl⟩⟩; (try first | exact ⟨rfl, _, World.drewN_drewN _ _ _⟩ | exact ⟨rfl, _, Eq.trans (World.drewN_drewN _ _ _) (congrArg (World.drewN _) (Nat.add_assoc _ _ _))⟩); have hcz45_0 := blkc5 BK158.out; have hcz46_0 := blkc11 BK157.out) | (go_at_call 54; (with_reducible refine (moves_Kind.calls (rd l1_0 x49_3) t166 _ A41.out).mono ?_); rintro e w' ⟨rfl, ⟨nd, rfl⟩⟩; (try first | exact ⟨rfl, _, World.drewN_drewN _ _ _⟩ | exact ⟨rfl, _, Eq.trans (World.drewN_drewN _ _ _) (congrArg (World.drewN _) (Nat.add_assoc _ _ _))⟩); have p167 : 0 ≤ (t166 : Int) := xO; have q167 : t166 < (l0_3.length : Int) := xO; obtain ⟨ad167, A167_3, c167_3, e167, hx167_0, hx167_1, hx167_2, hx167_3, hl167_3, hi167_3⟩ := at_T62 HR0_3.out t166 p167 q167; cases e167; replace hx167_0 := xR HB hx167_0; replace hx167_1 := xR HB hx167_1; replace hx167_2 := xR HB hx167_2; replace hx167_3 := xR HB hx167_3; have HR167_3 := xm hi167_3; have HC167_3 := xm hl167_3; clear hi167_3 hl167_3; replace p167 := eq_true p167; replace q167 := eq_true q167))
              repeat (go_quiet (first | (go_at_call 53; (with_reducible refine (moves_Owner.calls (rd l1_0 x49_3) t165 _ A39.out).mono ?_); rintro e w' ⟨rfl, ⟨nd, rfl⟩⟩; (try first | exact ⟨rfl, _, World.drewN_drewN _ _ _⟩ | exact ⟨rfl, _, Eq.trans (World.drewN_drewN _ _ _) (congrArg (World.drewN _) (Nat.add_assoc _ _ _))⟩); have hcz45_0 := blkc5 BK158.out; have hcz46_0 := blkc11 BK157.out) | (go_at_call 54; (with_reducible refine (moves_Kind.calls (rd l1_0 x49_3) t166 _ A41.out).mono ?_); rintro e w' ⟨rfl, ⟨nd, rfl⟩⟩; (try first | exact ⟨rfl, _, World.drewN_drewN _ _ _⟩ | exact ⟨rfl, _, Eq.trans (World.drewN_drewN _ _ _) (congrArg (World.drewN _) (Nat.add_assoc _ _ _))⟩); have p167 : 0 ≤ (t166 : Int) := xO; have q167 : t166 < (l0_3.length : Int) := xO; obtain ⟨ad167, A167_3, c167_3, e167, hx167_0, hx167_1, hx167_2, hx167_3, hl167_3, hi167_3⟩ := at_T62 HR0_3.out t166 p167 q167; cases e167; replace hx167_0 := xR HB hx167_0; replace hx167_1 := xR HB hx167_1; replace hx167_2 := xR HB hx167_2; replace hx167_3 := xR HB hx167_3; have HR167_3 := xm hi167_3; have HC167_3 := xm hl167_3; clear hi167_3 hl167_3; replace p167 := eq_true p167; replace q167 := eq_true q167)); try go_wp2_with (first | (go_at_call 53; (with_reducible refine (moves_Owner.calls (rd l1_0 x49_3) t165 _ A39.out).mono ?_); rintro e w' ⟨rfl, ⟨nd, rfl⟩⟩; (try first | exact ⟨rfl, _, World.drewN_drewN _ _ _⟩ | exact ⟨rfl, _, Eq.trans (World.drewN_drewN _ _ _) (congrArg (World.drewN _) (Nat.add_assoc _ _ _))⟩); have hcz45_0 := blkc5 BK158.out; have hcz46_0 := blkc11 BK157.out) | (go_at_call 54; (with_reducible refine (moves_Kind.calls (rd l1_0 x49_3) t166 _ A41.out).mono ?_); rintro e w' ⟨rfl, ⟨nd, rfl⟩⟩; (try first | exact ⟨rfl, _, World.drewN_drewN _ _ _⟩ | exact ⟨rfl, _, Eq.trans (World.drewN_drewN _ _ _) (congrArg (World.drewN _) (Nat.add_assoc _ _ _))⟩); have p167 : 0 ≤ (t166 : Int) := xO; have q167 : t166 < (l0_3.length : Int) := xO; obtain ⟨ad167, A167_3, c167_3, e167, hx167_0, hx167_1, hx167_2, hx167_3, hl167_3, hi167_3⟩ := at_T62 HR0_3.out t166 p167 q167; cases e167; replace hx167_0 := xR HB hx167_0; replace hx167_1 := xR HB hx167_1; replace hx167_2 := xR HB hx167_2; replace hx167_3 := xR HB hx167_3; have HR167_3 := xm hi167_3; have HC167_3 := xm hl167_3; clear hi167_3 hl167_3; replace p167 := eq_true p167; replace q167 := eq_true q167)))
              go_loopg [5, 67] k3 (fun kq vs5 vs67 w' => ∃ (x5_4 : List (S39)) (x67_4 : Int), vs67 = .int .i64 x67_4 ∧ Aside0 (moves_Gen.l3 kq x5_4 x49_3 l1_0 (l1_0.length : Int) x49_3 ((rd_T62 l0_3 t166).f3) (((rd_T62 l0_3 t166).f3).length : Int) x67_4 a0_0 a0_1 a0_2 l0_3 l0_4 a0_5 a0_6 l0_7 a0_8 a0_9 a0_10 l1_0 l1_1 l1_2 a1_3 a1_4 = some r) ∧ Aside0 (kq ≤ k3) ∧ Aside0 (Kd.R k39 39 w' w.heap.size (fun _ => True) vs5 x5_4) ∧ Aside0 (w'.heap[gb157]? = some (.cells #[.string a0_0, .int .i64 a0_1, .int .i64 a0_2, (.slice (some ad167) l0_3.length c0_3), (.slice A0_4 l0_4.length c0_4), .bool a0_5, .bool a0_6, (.slice A0_7 l0_7.length c0_7), .int .i64 a0_8, .int .i64 a0_9, .int .i64 a0_10] 26 (0, 0))) ∧ Aside0 (w'.heap[gb158]? = some (.cells #[(.slice (some ad164) l1_0.length c1_0), (.slice A1_1 l1_1.length c1_1), (.slice A1_2 l1_2.length c1_2), .int .i64 a1_3, .int .i64 a1_4] 29 (0, 0))) ∧ Aside0 (Below w.heap.size w w'))
              case atStart => exact ⟨(x5_3), (0), (xrf), H', ⟨Nat.le_refl _⟩, ⟨by (with_reducible repeat (first | apply Kd.R_alloc | apply Kd.R_drewN | apply Kd.R_drew)); exact HO_5.out⟩, ⟨xK BK157⟩, ⟨xK BK158⟩, ⟨xW HB⟩⟩
              case round =>
               clear H'; (try clear p1); (try clear q1); (try clear hx1); (try clear p2); (try clear p6); (try clear p15); (try clear q15); (try clear hx15); (try clear p16); (try clear q16); (try clear hx16); (try clear hx159_0); (try clear hx164_0); (try clear hx167_0); (try clear hx167_1); (try clear hx167_2); (try clear hx167_3); (try clear p1); (try clear p15); (try clear p159); (try clear p164); (try clear p167); (try clear p2); (try clear p6); (try clear q1); (try clear q15); (try clear q159); (try clear q164); (try clear q167)
               obtain ⟨x5_4, x67_4, rfl, HA, HK4, HO_5, BK157, BK158, HB⟩ := hrel
               cases gk with
               | zero => exact absurd HA.out (by simp [moves_Gen.l3])
               | succ k4 =>
                have H := HA.out; clear HA
                simp only [moves_Gen.l3] at H
                by_cases c47 : x67_4 < (((rd_T62 l0_3 t166).f3).length : Int)
                ·rw [if_pos c47] at H
                 have c47b0 := decide_eq_true c47
                 clear c47
                 by_cases c48 : 0 ≤ x67_4
                 ·rw [if_pos c48] at H
                  have c48b0 := decide_eq_true c48
                  clear c48
                  by_cases c49 : x67_4 < (((rd_T62 l0_3 t166).f3).length : Int)
                  ·rw [if_pos c49] at H
                   have c49b0 := decide_eq_true c49
                   clear c49; replace H := Option.bind_eq_some_iff.mp H
                   obtain ⟨t170, A500, H⟩ := H
                   try dsimp only at H
                   have A50 := xm A500; clear A500
                   have H' := xm H
                   clear H
                   have p168 : 0 ≤ (x67_4 : Int) := xO
                   have q168 : x67_4 < (((rd_T62 l0_3 t166).f3).length : Int) := xO
                   obtain ⟨ad168, e168, hx168_0, hx168_1, hx168_2, hx168_3⟩ := at_T74 HR167_3.out x67_4 p168 q168
                   cases e168
                   replace hx168_0 := xR HB hx168_0; replace hx168_1 := xR HB hx168_1; replace hx168_2 := xR HB hx168_2; replace hx168_3 := xR HB hx168_3; replace p168 := eq_true p168; replace q168 := eq_true q168
                   go_wp2_with (first | ((with_reducible refine gate_dst (N := 12) rfl ?_); refine xG (cs := #[.int .i64 0, .int .i64 0, .int .i64 0, .int .i64 0]) (t := 74) ?_; intro gb169 hg w51 hbox hb; have BK169 := xm (hbox); have GW169 := xm (xZ HB hg); have GE169 := xm (xZ HB hg); have NB157_169 := xm (xN BK157 hg); have NB169_157 := xm (xM BK157 hg); have NB158_169 := xm (xN BK158 hg); have NB169_158 := xm (xM BK158 hg); replace HO_5 := xm (Kd.R_below (by (with_reducible repeat (first | apply Kd.R_alloc | apply Kd.R_drewN | apply Kd.R_drew)); exact HO_5.out) hb); replace BK157 := xm (xB BK157 hb); replace BK158 := xm (xB BK158 hb); replace HB := xm (xS HB hb); clear hb hbox hg; have hnb52 := NB169_157.out; have hnc52 := NB157_169.out; have hnb53 := NB169_158.out; have hnc53 := NB158_169.out; have hcz54_0 := blkc4 BK169.out) | ((with_reducible refine gate_store (t := 74) (p := 12) rfl ?_); (try (rw [drewN_self w51]; generalize hq_ : World.drewN w51 _ = w51; have n0_ := Aside0.mk (Kd.R_at hq_ HO_5.out); have n1_ := Aside0.mk (blk_at hq_ BK157.out); have n2_ := Aside0.mk (blk_at hq_ BK158.out); have n3_ := Aside0.mk (blk_at hq_ BK169.out); have n4_ := Aside0.mk (below_at hq_ HB.out); clear hq_ HO_5 BK157 BK158 BK169 HB; have HO_5 := n0_; have BK157 := n1_; have BK158 := n2_; have BK169 := n3_; have HB := n4_; clear n0_ n1_ n2_ n3_ n4_)); refine store_event (t := 74) (p := 12) (v := ?vo_w55) (w1 := ((((w51.setCell ⟨gb169, 0, none⟩ (.int .i64 ((rd_T74 ((rd_T62 l0_3 t166).f3) x67_4).f0))).setCell ⟨gb169, 1, none⟩ (.int .i64 ((rd_T74 ((rd_T62 l0_3 t166).f3) x67_4).f1))).setCell ⟨gb169, 2, none⟩ (.int .i64 ((rd_T74 ((rd_T62 l0_3 t166).f3) x67_4).f2))).setCell ⟨gb169, 3, none⟩ (.int .i64 ((rd_T74 ((rd_T62 l0_3 t166).f3) x67_4).f3)))) ?hg ?ho ?hn ?hr ?_; (case ho => rfl); (case hg => rfl); (case hn => rfl); (case hr => first | (go_simp; done) | (go_simp; rfl)); intro w55 hw; have n0_ : Aside0 (Kd.R k39 39 w55 w.heap.size (fun _ => True) u5 x5_4) := ⟨(by rw [hw]; exact (by (with_reducible repeat (first | apply Kd.R_alloc | apply Kd.R_drewN | apply Kd.R_drew)); exact Kd.R_mono (Kd.R_far (p := ⟨gb169, 3, none⟩) (Kd.R_far (p := ⟨gb169, 2, none⟩) (Kd.R_far (p := ⟨gb169, 1, none⟩) (Kd.R_far (p := ⟨gb169, 0, none⟩) (Kd.R_types HO_5.out BK169.out (by decide)) (fun _ hk => hk.2) (.int .i64 ((rd_T74 ((rd_T62 l0_3 t166).f3) x67_4).f0))) (fun _ hk => hk.2) (.int .i64 ((rd_T74 ((rd_T62 l0_3 t166).f3) x67_4).f1))) (fun _ hk => hk.2) (.int .i64 ((rd_T74 ((rd_T62 l0_3 t166).f3) x67_4).f2))) (fun _ hk => hk.2) (.int .i64 ((rd_T74 ((rd_T62 l0_3 t166).f3) x67_4).f3))) (fun _ hk => trivial)))⟩; have n1_ : Aside0 (w55.heap[gb157]? = some (.cells #[.string a0_0, .int .i64 a0_1, .int .i64 a0_2, .slice (some ad167) l0_3.length c0_3, .slice A0_4 l0_4.length c0_4, .bool a0_5, .bool a0_6, .slice A0_7 l0_7.length c0_7, .int .i64 a0_8, .int .i64 a0_9, .int .i64 a0_10] 26 (0, 0))) := ⟨(by rw [hw]; exact (xK BK157))⟩; have n2_ : Aside0 (w55.heap[gb158]? = some (.cells #[.slice (some ad164) l1_0.length c1_0, .slice A1_1 l1_1.length c1_1, .slice A1_2 l1_2.length c1_2, .int .i64 a1_3, .int .i64 a1_4] 29 (0, 0))) := ⟨(by rw [hw]; exact (xK BK158))⟩; have n3_ : Aside0 (w55.heap[gb169]? = some (.cells #[.int .i64 ((rd_T74 ((rd_T62 l0_3 t166).f3) x67_4).f0), .int .i64 ((rd_T74 ((rd_T62 l0_3 t166).f3) x67_4).f1), .int .i64 ((rd_T74 ((rd_T62 l0_3 t166).f3) x67_4).f2), .int .i64 ((rd_T74 ((rd_T62 l0_3 t166).f3) x67_4).f3)] 74 (0, 0))) := ⟨(by rw [hw]; exact (xQ BK169))⟩; have n4_ : Aside0 (Below w.heap.size w w55) := ⟨(by rw [hw]; exact (xW HB))⟩; clear hw; clear HO_5; clear BK157; clear BK158; clear BK169; clear HB; have HO_5 := n0_; have BK157 := n1_; have BK158 := n2_; have BK169 := n3_; have HB := n4_; clear n0_ n1_ n2_ n3_ n4_; have hcz57_0 := blkc11 BK157.out; have hcz58_0 := blkc5 BK158.out; have hcz59_0 := blkc4 BK169.out; obtain ⟨Ao60, co60, eo60⟩ := Kd.R_slice HO_5.out; subst eo60) | (go_at_call 55; (with_reducible refine (moves_along.calls k4 (fun k_ => some k_ = (.slice Ao60 x5_4.length co60 : Value).ownBlock) (.slice Ao60 x5_4.length co60) x5_4 a0_0 a0_1 a0_2 _ _ l0_3 _ _ l0_4 a0_5 a0_6 _ _ l0_7 a0_8 a0_9 a0_10 _ _ l1_0 _ _ l1_1 _ _ l1_2 a1_3 a1_4 x49_3 ((rd_T74 ((rd_T62 l0_3 t166).f3) x67_4).f0) ((rd_T74 ((rd_T62 l0_3 t166).f3) x67_4).f1) ((rd_T74 ((rd_T62 l0_3 t166).f3) x67_4).f2) ((rd_T74 ((rd_T62 l0_3 t166).f3) x67_4).f3) t170 w _ ?side1 ?side2 ?side3 ?side4 ?side5 ?side6 ?side7 ?side8 ?side9 ?side10 ?side11 ?side12 ?side13 ?side14 A50.out).mono ?_); (case side1 => repeat (first | (with_reducible first | exact HB.out | apply below_alloc | apply pw_below_drewN | apply below_drew1 | refine below_set ?_ GE157.out | refine below_set ?_ GE158.out | refine below_set ?_ GE169.out) | exact HB.out)); (case side2 => exact Kd.R_tight rfl HO_5.out); (case side3 => exact Kd.C_kept_came k62_heap HR0_3.out (xW HB) (fun k_ hs_ => (fun e_ => Kd.R_base HO_5.out k_ e_.symm) hs_)); (case side4 => exact HC0_3.out); (case side5 => exact Kd.C_kept_came (Kd.heap_int .i64) HR0_4.out (xW HB) (fun k_ hs_ => (fun e_ => Kd.R_base HO_5.out k_ e_.symm) hs_)); (case side6 => exact HC0_4.out); (case side7 => exact Kd.C_kept_came k64_heap HR0_7.out (xW HB) (fun k_ hs_ => (fun e_ => Kd.R_base HO_5.out k_ e_.symm) hs_)); (case side8 => exact HC0_7.out); (case side9 => exact Kd.C_kept_came (Kd.heap_int .i64) HR1_0.out (xW HB) (fun k_ hs_ => (fun e_ => Kd.R_base HO_5.out k_ e_.symm) hs_)); (case side10 => exact HC1_0.out); (case side11 => exact Kd.C_kept_came (Kd.heap_int .i64) HR1_1.out (xW HB) (fun k_ hs_ => (fun e_ => Kd.R_base HO_5.out k_ e_.symm) hs_)); (case side12 => exact HC1_1.out); (case side13 => exact Kd.C_kept_came (Kd.heap_int .i64) HR1_2.out (xW HB) (fun k_ hs_ => (fun e_ => Kd.R_base HO_5.out k_ e_.symm) hs_)); (case side14 => exact HC1_2.out); rintro e w61 ⟨v171, rfl, ho0, hb, hkp⟩; have HO172 := xm (Kd.R_mono (ok' := fun k_ => True) ho0 (fun k_ hk_ => trivial)); replace BK157 := xm (blk_kept (xK BK157) hkp (fun hs_ => (fun e_ => (Kd.R_ne HO_5.out BK157.out (by decide)) e_) hs_)); replace BK158 := xm (blk_kept (xK BK158) hkp (fun hs_ => (fun e_ => (Kd.R_ne HO_5.out BK158.out (by decide)) e_) hs_)); replace BK169 := xm (blk_kept (xK BK169) hkp (fun hs_ => (fun e_ => (Kd.R_ne HO_5.out BK169.out (by decide)) e_) hs_)); replace HB := xm (hb); clear HO_5; (try clear hb); (try clear hkp); (try clear ho0)))
                   go_roundg k4
                   case measure => have := HJ2.out; have := HK2.out; have := HK3.out; have := HK4.out; omega
                   case rel => exact ⟨(t170), (wrap64 (x67_4 + 1)), (xrf), H', ⟨by have := HJ2.out; have := HK2.out; have := HK3.out; have := HK4.out; omega⟩, ⟨by (with_reducible repeat (first | apply Kd.R_alloc | apply Kd.R_drewN | apply Kd.R_drew)); exact HO172.out⟩, ⟨xK BK157⟩, ⟨xK BK158⟩, ⟨xW HB⟩⟩
                  ·rw [if_neg c49] at H
                   exact absurd H (by simp)
                 ·rw [if_neg c48] at H
                  exact absurd H (by simp)
                ·rw [if_neg c47] at H
                 have c47b0 := decide_eq_false c47
                 clear c47
                 have H' := xm H
                 clear H
                 go_wp2
                 go_roundg k4
                 case measure => have := HJ2.out; have := HK2.out; have := HK3.out; have := HK4.out; omega
                 case rel => exact ⟨(x5_4), (wrap64 (x49_3 + 1)), (xrf), H', ⟨by have := HJ2.out; have := HK2.out; have := HK3.out; have := HK4.out; omega⟩, ⟨by (with_reducible repeat (first | apply Kd.R_alloc | apply Kd.R_drewN | apply Kd.R_drew)); exact HO_5.out⟩, ⟨xK BK157⟩, ⟨xK BK158⟩, ⟨xW HB⟩⟩
             ·rw [if_neg c43] at H
              exact absurd H (by simp)
            ·rw [if_neg c42] at H
             exact absurd H (by simp)
           ·rw [if_neg c40] at H
            have c40b0 := beq_eq_false_iff_ne.mpr c40
            have c40b1 := bne_iff_ne.mpr c40
            have H' := xm H
            clear H
            have p164 : 0 ≤ (x49_3 : Int) := xO
            have q164 : x49_3 < (l1_0.length : Int) := xO
            obtain ⟨ad164, e164, hx164_0⟩ := Kd.at_int HR1_0.out x49_3 p164 q164
            cases e164
            replace hx164_0 := xR HB hx164_0; replace p164 := eq_true p164; replace q164 := eq_true q164
            go_wp2_with (first | (go_at_call 53; (with_reducible refine (moves_Owner.calls (rd l1_0 x49_3) t165 _ A39.out).mono ?_); rintro e w' ⟨rfl, ⟨nd, rfl⟩⟩; (try first | exact ⟨rfl, _, World.drewN_drewN _ _ _⟩ | exact ⟨rfl, _, Eq.trans (World.drewN_drewN _ _ _) (congrArg (World.drewN _) (Nat.add_assoc _ _ _))⟩); have hcz63_0 := blkc5 BK158.out))
            repeat (go_quiet (first | (go_at_call 53; (with_reducible refine (moves_Owner.calls (rd l1_0 x49_3) t165 _ A39.out).mono ?_); rintro e w' ⟨rfl, ⟨nd, rfl⟩⟩; (try first | exact ⟨rfl, _, World.drewN_drewN _ _ _⟩ | exact ⟨rfl, _, Eq.trans (World.drewN_drewN _ _ _) (congrArg (World.drewN _) (Nat.add_assoc _ _ _))⟩); have hcz63_0 := blkc5 BK158.out)); try go_wp2_with (first | (go_at_call 53; (with_reducible refine (moves_Owner.calls (rd l1_0 x49_3) t165 _ A39.out).mono ?_); rintro e w' ⟨rfl, ⟨nd, rfl⟩⟩; (try first | exact ⟨rfl, _, World.drewN_drewN _ _ _⟩ | exact ⟨rfl, _, Eq.trans (World.drewN_drewN _ _ _) (congrArg (World.drewN _) (Nat.add_assoc _ _ _))⟩); have hcz63_0 := blkc5 BK158.out)))
            go_roundg k3
            case measure => have := HJ2.out; have := HK2.out; have := HK3.out; omega
            case rel => exact ⟨(x5_3), (wrap64 (x49_3 + 1)), (xrf), H', ⟨by have := HJ2.out; have := HK2.out; have := HK3.out; omega⟩, ⟨by (with_reducible repeat (first | apply Kd.R_alloc | apply Kd.R_drewN | apply Kd.R_drew)); exact HO_5.out⟩, ⟨xK BK157⟩, ⟨xK BK158⟩, ⟨xW HB⟩⟩
          ·rw [if_neg c38] at H
           exact absurd H (by simp)
         ·rw [if_neg c37] at H
          exact absurd H (by simp)
        ·rw [if_neg c36] at H
         have c36b0 := decide_eq_false c36
         clear c36
         by_cases hz2 : x5_3.length < 4611686018427387904
         ·rw [if_pos hz2] at H
          obtain rfl := Option.some.inj H
          have hs_ := xm hz2; clear hz2
          go_wp2_with (first | (go_at_call 56; refine (sort_any HO_5.out HB.out HB.out.size hs_.out).mono ?_; rintro e w2 ⟨rfl, ho2, hb2, _⟩; have HO2 := xm ho2; have HB2 := xm hb2; clear ho2 hb2) | (go_at_call 58; refine (compact_any HO2.out HB2.out (by rw [sortM_len]; exact hs_.out)).mono ?_; rintro e w3 ⟨v3, rfl, ho3, hb3⟩; have HO3 := xm ho3; have HB3 := xm hb3; clear ho3 hb3))
          go_ret
          exact ⟨_, xer, Kd.R_mono HO3.out (fun _ _ => trivial), HB3.out⟩
         ·rw [if_neg hz2] at H
          exact absurd H (by simp)

/-! ### moves_Cell: function 59 -/
def moves_Cell.f (a0 : Int) (a1 : Int) : Option (Int) := some (wrap64 ((wrap64 ((wrap64 (2 * a0)) + a1)) + 1))
theorem moves_Cell.calls (a0 : Int) (a1 : Int) (r : Int) (w : World) (h : moves_Cell.f a0 a1 = some r) :
    Calls Try.prog 59 #[.int .i64 a0, .int .i64 a1] w fun e w' => e = .returned (.int .i64 r) ∧ Drawn0 w w' := by
 have H : (some (wrap64 ((wrap64 ((wrap64 (2 * a0)) + a1)) + 1))) = some r := h
 clear h
 obtain rfl := Option.some.inj H
 go_enter Try.func59, Try.ntmps59
 go_wp2
 go_ret
 exact ⟨xrf, by repeat (first | exact Drawn0.refl _ | apply Drawn0.step)⟩

/-! ### ends_row: function 65 -/
mutual
def ends_row.l0 : Nat → Int → Int → Int → Int → ByteArray → Int → Int → List (S62) → List Int → Bool → Bool → List (S64) → Int → Int → Int → List Int → List Int → List Int → Int → Int → Option (Bool)
  | 0, _, _, _, _, _, _, _, _, _, _, _, _, _, _, _, _, _, _, _, _ => none
  | k + 1, x2, x3, x17, x18, z174a, z174b, z174c, z174d, z174e, z174f, z174g, z174h, z174i, z174j, z174k, z175a, z175b, z175c, z175d, z175e => if x18 < x17 then (ends_row.l1 k x2 x3 x18 x17 x18 0 1 0 0 1 1 1 1 (-1) z174a z174b z174c z174d z174e z174f z174g z174h z174i z174j z174k z175a z175b z175c z175d z175e) else (some false)
def ends_row.l1 : Nat → Int → Int → Int → Int → Int → Int → Int → Int → Int → Int → Int → Int → Int → Int → ByteArray → Int → Int → List (S62) → List Int → Bool → Bool → List (S64) → Int → Int → Int → List Int → List Int → List Int → Int → Int → Option (Bool)
  | 0, _, _, _, _, _, _, _, _, _, _, _, _, _, _, _, _, _, _, _, _, _, _, _, _, _, _, _, _, _, _ => none
  | k + 1, x2, x3, x9, x17, x18, x26, x90, x91, x92, x93, x94, x95, x96, x97, z174a, z174b, z174c, z174d, z174e, z174f, z174g, z174h, z174i, z174j, z174k, z175a, z175b, z175c, z175d, z175e => if x26 < 4 then (if 0 ≤ x26 then (if z174b = 0 then (none) else (ends_row.l2 k x2 x3 x9 (Int.tmod x9 z174b) (wrap64 (Int.tdiv x9 z174b)) 0 x17 x18 x26 x90 x91 x92 x93 x94 x95 x96 x97 z174a z174b z174c z174d z174e z174f z174g z174h z174i z174j z174k z175a z175b z175c z175d z175e (rd ([x90, x92, x94, x96] : List Int) x26) (rd ([x91, x93, x95, x97] : List Int) x26))) else (none)) else (ends_row.l0 k x2 x3 x17 (wrap64 (x18 + 1)) z174a z174b z174c z174d z174e z174f z174g z174h z174i z174j z174k z175a z175b z175c z175d z175e)
def ends_row.l2 : Nat → Int → Int → Int → Int → Int → Int → Int → Int → Int → Int → Int → Int → Int → Int → Int → Int → Int → ByteArray → Int → Int → List (S62) → List Int → Bool → Bool → List (S64) → Int → Int → Int → List Int → List Int → List Int → Int → Int → Int → Int → Option (Bool)
  | 0, _, _, _, _, _, _, _, _, _, _, _, _, _, _, _, _, _, _, _, _, _, _, _, _, _, _, _, _, _, _, _, _, _, _, _ => none
  | k + 1, x2, x3, x9, x12, x13, x14, x17, x18, x26, x90, x91, x92, x93, x94, x95, x96, x97, z174a, z174b, z174c, z174d, z174e, z174f, z174g, z174h, z174i, z174j, z174k, z175a, z175b, z175c, z175d, z175e, z176a, z176b => if x12 ≥ 0 then (if x12 < z174b then (if x13 ≥ 0 then (if x13 < z174c then (if x14 < x3 then (if 0 ≤ (wrap64 ((wrap64 (x13 * z174b)) + x12)) then (if (wrap64 ((wrap64 (x13 * z174b)) + x12)) < (z175a.length : Int) then ((moves_Owner.f (rd z175a (wrap64 ((wrap64 (x13 * z174b)) + x12)))).bind fun t177 => (if t177 = x2 then (ends_row.l2 k x2 x3 x9 (wrap64 (x12 + z176a)) (wrap64 (x13 + z176b)) (wrap64 (x14 + 1)) x17 x18 x26 x90 x91 x92 x93 x94 x95 x96 x97 z174a z174b z174c z174d z174e z174f z174g z174h z174i z174j z174k z175a z175b z175c z175d z175e z176a z176b) else (if x14 = x3 then (some true) else (ends_row.l1 k x2 x3 x9 x17 x18 (wrap64 (x26 + 1)) x90 x91 x92 x93 x94 x95 x96 x97 z174a z174b z174c z174d z174e z174f z174g z174h z174i z174j z174k z175a z175b z175c z175d z175e)))) else (none)) else (none)) else (if x14 = x3 then (some true) else (ends_row.l1 k x2 x3 x9 x17 x18 (wrap64 (x26 + 1)) x90 x91 x92 x93 x94 x95 x96 x97 z174a z174b z174c z174d z174e z174f z174g z174h z174i z174j z174k z175a z175b z175c z175d z175e))) else (if x14 = x3 then (some true) else (ends_row.l1 k x2 x3 x9 x17 x18 (wrap64 (x26 + 1)) x90 x91 x92 x93 x94 x95 x96 x97 z174a z174b z174c z174d z174e z174f z174g z174h z174i z174j z174k z175a z175b z175c z175d z175e))) else (if x14 = x3 then (some true) else (ends_row.l1 k x2 x3 x9 x17 x18 (wrap64 (x26 + 1)) x90 x91 x92 x93 x94 x95 x96 x97 z174a z174b z174c z174d z174e z174f z174g z174h z174i z174j z174k z175a z175b z175c z175d z175e))) else (if x14 = x3 then (some true) else (ends_row.l1 k x2 x3 x9 x17 x18 (wrap64 (x26 + 1)) x90 x91 x92 x93 x94 x95 x96 x97 z174a z174b z174c z174d z174e z174f z174g z174h z174i z174j z174k z175a z175b z175c z175d z175e))) else (if x14 = x3 then (some true) else (ends_row.l1 k x2 x3 x9 x17 x18 (wrap64 (x26 + 1)) x90 x91 x92 x93 x94 x95 x96 x97 z174a z174b z174c z174d z174e z174f z174g z174h z174i z174j z174k z175a z175b z175c z175d z175e))
end
def ends_row.f (k : Nat) (a0_0 : ByteArray) (a0_1 : Int) (a0_2 : Int) (l0_3 : List (S62)) (l0_4 : List Int) (a0_5 : Bool) (a0_6 : Bool) (l0_7 : List (S64)) (a0_8 : Int) (a0_9 : Int) (a0_10 : Int) (l1_0 : List Int) (l1_1 : List Int) (l1_2 : List Int) (a1_3 : Int) (a1_4 : Int) (a2 : Int) (a3 : Int) : Option (Bool) := ends_row.l0 k a2 a3 (l1_0.length : Int) 0 a0_0 a0_1 a0_2 l0_3 l0_4 a0_5 a0_6 l0_7 a0_8 a0_9 a0_10 l1_0 l1_1 l1_2 a1_3 a1_4
theorem ends_row.mono_l : ∀ k, L10 (L10 (LeO)) (ends_row.l0 k) (ends_row.l0 (k + 1)) ∧ L10 (L10 (L10 (LeO))) (ends_row.l1 k) (ends_row.l1 (k + 1)) ∧ L10 (L10 (L10 (L5 (LeO)))) (ends_row.l2 k) (ends_row.l2 (k + 1))
  | 0 => by refine ⟨?_, ?_, ?_⟩ <;> (repeat (first | exact LeO.none _ | intro _))
  | k + 1 => by
    obtain ⟨ih0, ih1, ih2⟩ := ends_row.mono_l k
    refine ⟨?_, ?_, ?_⟩ <;> ((repeat (first | (with_reducible refine LeO.st ?_) | intro _)); constructor; (first | unfold ends_row.l0 | unfold ends_row.l1 | unfold ends_row.l2); repeat' first | (with_reducible first | apply ih0 | apply ih1 | apply ih2 | exact LeO.refl _ | exact LeO.none _ | refine LeO.ite ?_ ?_ | refine LeO.bind ?_ (fun _ => ?_)) | apply ih0 | apply ih1 | apply ih2 | exact LeO.none _ | refine LeO.ite ?_ ?_ | refine LeO.bind ?_ (fun _ => ?_))
theorem ends_row.mono : ∀ a0 a1 a2 a3 a4 a5 a6 a7 a8 a9 a10 a11 a12 a13 a14 a15 a16 a17 k, LeO (ends_row.f k a0 a1 a2 a3 a4 a5 a6 a7 a8 a9 a10 a11 a12 a13 a14 a15 a16 a17) (ends_row.f (k + 1) a0 a1 a2 a3 a4 a5 a6 a7 a8 a9 a10 a11 a12 a13 a14 a15 a16 a17) := by
  intros; rename_i k
  obtain ⟨ih0, ih1, ih2⟩ := ends_row.mono_l k
  unfold ends_row.f
  repeat' first | (with_reducible first | apply ih0 | apply ih1 | apply ih2 | exact LeO.refl _ | exact LeO.none _ | refine LeO.ite ?_ ?_ | refine LeO.bind ?_ (fun _ => ?_)) | apply ih0 | apply ih1 | apply ih2 | exact LeO.none _ | refine LeO.ite ?_ ?_ | refine LeO.bind ?_ (fun _ => ?_)
theorem ends_row.calls (k : Nat) (a0_0 : ByteArray) (a0_1 : Int) (a0_2 : Int) (A0_3 : Option Addr) (c0_3 : Nat) (l0_3 : List (S62)) (A0_4 : Option Addr) (c0_4 : Nat) (l0_4 : List Int) (a0_5 : Bool) (a0_6 : Bool) (A0_7 : Option Addr) (c0_7 : Nat) (l0_7 : List (S64)) (a0_8 : Int) (a0_9 : Int) (a0_10 : Int) (A1_0 : Option Addr) (c1_0 : Nat) (l1_0 : List Int) (A1_1 : Option Addr) (c1_1 : Nat) (l1_1 : List Int) (A1_2 : Option Addr) (c1_2 : Nat) (l1_2 : List Int) (a1_3 : Int) (a1_4 : Int) (a2 : Int) (a3 : Int) (r : Bool) (w : World) (hr0_3 : Kd.C k62 w A0_3 l0_3.length l0_3) (hc0_3 : l0_3.length ≤ c0_3) (hr0_4 : Kd.C (Kd.int .i64) w A0_4 l0_4.length l0_4) (hc0_4 : l0_4.length ≤ c0_4) (hr0_7 : Kd.C k64 w A0_7 l0_7.length l0_7) (hc0_7 : l0_7.length ≤ c0_7) (hr1_0 : Kd.C (Kd.int .i64) w A1_0 l1_0.length l1_0) (hc1_0 : l1_0.length ≤ c1_0) (hr1_1 : Kd.C (Kd.int .i64) w A1_1 l1_1.length l1_1) (hc1_1 : l1_1.length ≤ c1_1) (hr1_2 : Kd.C (Kd.int .i64) w A1_2 l1_2.length l1_2) (hc1_2 : l1_2.length ≤ c1_2) (h : ends_row.f k a0_0 a0_1 a0_2 l0_3 l0_4 a0_5 a0_6 l0_7 a0_8 a0_9 a0_10 l1_0 l1_1 l1_2 a1_3 a1_4 a2 a3 = some r) :
    Calls Try.prog 65 #[.agg #[.string a0_0, .int .i64 a0_1, .int .i64 a0_2, .slice A0_3 l0_3.length c0_3, .slice A0_4 l0_4.length c0_4, .bool a0_5, .bool a0_6, .slice A0_7 l0_7.length c0_7, .int .i64 a0_8, .int .i64 a0_9, .int .i64 a0_10], .agg #[.slice A1_0 l1_0.length c1_0, .slice A1_1 l1_1.length c1_1, .slice A1_2 l1_2.length c1_2, .int .i64 a1_3, .int .i64 a1_4], .int .i64 a2, .int .i64 a3] w fun e w' => e = .returned (.bool r) ∧ Below w.heap.size w w' := by
 have hu26 := Try.underlying26; have hu29 := Try.underlying29; have hu103 := Try.underlying103; have hu104 := Try.underlying104; have HR0_3 := xm hr0_3; have HC0_3 := xm hc0_3; clear hr0_3 hc0_3; have HR0_4 := xm hr0_4; have HC0_4 := xm hc0_4; clear hr0_4 hc0_4; have HR0_7 := xm hr0_7; have HC0_7 := xm hc0_7; clear hr0_7 hc0_7; have HR1_0 := xm hr1_0; have HC1_0 := xm hc1_0; clear hr1_0 hc1_0; have HR1_1 := xm hr1_1; have HC1_1 := xm hc1_1; clear hr1_1 hc1_1; have HR1_2 := xm hr1_2; have HC1_2 := xm hc1_2; clear hr1_2 hc1_2; have HB := xm (Below.refl w.heap.size w); have hss_ := @isSome_setCell
 have H : (ends_row.l0 k a2 a3 (l1_0.length : Int) 0 a0_0 a0_1 a0_2 l0_3 l0_4 a0_5 a0_6 l0_7 a0_8 a0_9 a0_10 l1_0 l1_1 l1_2 a1_3 a1_4) = some r := h
 clear h
 have H' := xm H
 clear H
 go_enter Try.func65, Try.ntmps65
 go_wp2_with (first | ((with_reducible refine gate_dst (N := 4) rfl ?_); refine xG (cs := #[.string a0_0, .int .i64 a0_1, .int .i64 a0_2, .slice A0_3 l0_3.length c0_3, .slice A0_4 l0_4.length c0_4, .bool a0_5, .bool a0_6, .slice A0_7 l0_7.length c0_7, .int .i64 a0_8, .int .i64 a0_9, .int .i64 a0_10]) (t := 26) ?_; intro gb173 hg w5 hbox hb; have BK173 := xm (hbox); have GW173 := xm (xZ HB hg); have GE173 := xm (xZ HB hg); replace HB := xm (xS HB hb); clear hb hbox hg) | ((with_reducible refine gate_dst (N := 5) rfl ?_); refine xG (cs := #[.slice A1_0 l1_0.length c1_0, .slice A1_1 l1_1.length c1_1, .slice A1_2 l1_2.length c1_2, .int .i64 a1_3, .int .i64 a1_4]) (t := 29) ?_; intro gb174 hg w6 hbox hb; have BK174 := xm (hbox); have GW174 := xm (xZ HB hg); have GE174 := xm (xZ HB hg); have NB173_174 := xm (xN BK173 hg); have NB174_173 := xm (xM BK173 hg); replace BK173 := xm (xB BK173 hb); replace HB := xm (xS HB hb); clear hb hbox hg; have hnb7 := NB174_173.out; have hnc7 := NB173_174.out; have hcz8_0 := blkc5 BK174.out))
 (try have hq173_174 := NB173_174.out); (try have hq174_173 := NB174_173.out)
 go_loopg [18] k (fun kq vs18 w' => ∃ (x18_1 : Int), vs18 = .int .i64 x18_1 ∧ Aside0 (ends_row.l0 kq a2 a3 (l1_0.length : Int) x18_1 a0_0 a0_1 a0_2 l0_3 l0_4 a0_5 a0_6 l0_7 a0_8 a0_9 a0_10 l1_0 l1_1 l1_2 a1_3 a1_4 = some r) ∧ Aside0 (kq ≤ k) ∧ Aside0 (w'.heap[gb173]? = some (.cells #[.string a0_0, .int .i64 a0_1, .int .i64 a0_2, (.slice A0_3 l0_3.length c0_3), (.slice A0_4 l0_4.length c0_4), .bool a0_5, .bool a0_6, (.slice A0_7 l0_7.length c0_7), .int .i64 a0_8, .int .i64 a0_9, .int .i64 a0_10] 26 (0, 0))) ∧ Aside0 (w'.heap[gb174]? = some (.cells #[(.slice A1_0 l1_0.length c1_0), (.slice A1_1 l1_1.length c1_1), (.slice A1_2 l1_2.length c1_2), .int .i64 a1_3, .int .i64 a1_4] 29 (0, 0))) ∧ Aside0 (Below w.heap.size w w'))
 case atStart => exact ⟨(0), (xrf), H', ⟨Nat.le_refl _⟩, ⟨xK BK173⟩, ⟨xK BK174⟩, ⟨xW HB⟩⟩
 case round =>
  clear H'; (try clear p2)
  obtain ⟨x18_1, rfl, HA, HK1, BK173, BK174, HB⟩ := hrel
  cases gk with
  | zero => exact absurd HA.out (by simp [ends_row.l0])
  | succ k1 =>
   have H := HA.out; clear HA
   simp only [ends_row.l0] at H
   by_cases c9 : x18_1 < (l1_0.length : Int)
   ·rw [if_pos c9] at H
    have c9b0 := decide_eq_true c9
    clear c9
    have H' := xm H
    clear H
    go_wp2
    go_loopg [26] k1 (fun kq vs26 w' => ∃ (x26_2 : Int), vs26 = .int .i64 x26_2 ∧ Aside0 (ends_row.l1 kq a2 a3 x18_1 (l1_0.length : Int) x18_1 x26_2 1 0 0 1 1 1 1 (-1) a0_0 a0_1 a0_2 l0_3 l0_4 a0_5 a0_6 l0_7 a0_8 a0_9 a0_10 l1_0 l1_1 l1_2 a1_3 a1_4 = some r) ∧ Aside0 (kq ≤ k1) ∧ Aside0 (w'.heap[gb173]? = some (.cells #[.string a0_0, .int .i64 a0_1, .int .i64 a0_2, (.slice A0_3 l0_3.length c0_3), (.slice A0_4 l0_4.length c0_4), .bool a0_5, .bool a0_6, (.slice A0_7 l0_7.length c0_7), .int .i64 a0_8, .int .i64 a0_9, .int .i64 a0_10] 26 (0, 0))) ∧ Aside0 (w'.heap[gb174]? = some (.cells #[(.slice A1_0 l1_0.length c1_0), (.slice A1_1 l1_1.length c1_1), (.slice A1_2 l1_2.length c1_2), .int .i64 a1_3, .int .i64 a1_4] 29 (0, 0))) ∧ Aside0 (Below w.heap.size w w'))
    case atStart => exact ⟨(0), (xrf), H', ⟨Nat.le_refl _⟩, ⟨xK BK173⟩, ⟨xK BK174⟩, ⟨xW HB⟩⟩
    case round =>
     clear H'; (try clear p2); (try clear p2)
     obtain ⟨x26_2, rfl, HA, HK2, BK173, BK174, HB⟩ := hrel
     cases gk with
     | zero => exact absurd HA.out (by simp [ends_row.l1])
     | succ k2 =>
      have H := HA.out; clear HA
      simp only [ends_row.l1] at H
      by_cases c10 : x26_2 < 4
      ·rw [if_pos c10] at H
       have c10b0 := decide_eq_true c10
       clear c10
       by_cases c11 : 0 ≤ x26_2
       ·rw [if_pos c11] at H
        have c11b0 := decide_eq_true c11
        clear c11
        have c12p : 0 ≤ (x26_2 : Int) := of_decide_eq_true (by assumption)
        have c12q : (x26_2 : Int) < 4 := of_decide_eq_true (by assumption)
        have c12i : ∀ w_ : World, (Instr.index 104 (.agg #[.int .i64 1, .int .i64 0, .int .i64 0, .int .i64 1, .int .i64 1, .int .i64 1, .int .i64 1, .int .i64 (-1)]) (.int .i64 x26_2)).run Try.prog w_ = .ok (.agg #[.int .i64 (rd ([1, 0, 1, 1] : List Int) x26_2), .int .i64 (rd ([0, 1, 1, (-1)] : List Int) x26_2)]) w_ := by intro w_; have hj_ : (x26_2 : Int) = 0 ∨ (x26_2 : Int) = 1 ∨ (x26_2 : Int) = 2 ∨ (x26_2 : Int) = 3 := (by omega); rcases hj_ with hj_ | hj_ | hj_ | hj_ <;> (rw [hj_]; simp [Instr.index, asIntOf, part, Try.underlying104, Try.isAgg103, Try.sizeOf103, rd, rdOf])
        clear c12p c12q
        by_cases c13 : a0_1 = 0
        ·rw [if_pos c13] at H
         exact absurd H (by simp)
        ·rw [if_neg c13] at H
         have c13b0 := beq_eq_false_iff_ne.mpr c13
         have c13b1 := bne_iff_ne.mpr c13
         have H' := xm H
         clear H
         go_wp2_with (first | ((with_reducible refine gate_dst (N := 11) rfl ?_); refine xG (cs := #[.int .i64 0, .int .i64 0]) (t := 103) ?_; intro gb175 hg w14 hbox hb; have BK175 := xm (hbox); have GW175 := xm (xZ HB hg); have GE175 := xm (xZ HB hg); have NB173_175 := xm (xN BK173 hg); have NB175_173 := xm (xM BK173 hg); have NB174_175 := xm (xN BK174 hg); have NB175_174 := xm (xM BK174 hg); replace BK173 := xm (xB BK173 hb); replace BK174 := xm (xB BK174 hb); replace HB := xm (xS HB hb); clear hb hbox hg; have hnb15 := NB175_173.out; have hnc15 := NB173_175.out; have hnb16 := NB175_174.out; have hnc16 := NB174_175.out; have hcz17_0 := blkc2 BK175.out; have hcz19_0 := blkc11 BK173.out))
         repeat (go_quiet (first | ((with_reducible refine gate_dst (N := 11) rfl ?_); refine xG (cs := #[.int .i64 0, .int .i64 0]) (t := 103) ?_; intro gb175 hg w14 hbox hb; have BK175 := xm (hbox); have GW175 := xm (xZ HB hg); have GE175 := xm (xZ HB hg); have NB173_175 := xm (xN BK173 hg); have NB175_173 := xm (xM BK173 hg); have NB174_175 := xm (xN BK174 hg); have NB175_174 := xm (xM BK174 hg); replace BK173 := xm (xB BK173 hb); replace BK174 := xm (xB BK174 hb); replace HB := xm (xS HB hb); clear hb hbox hg; have hcz17_0 := blkc2 BK175.out; have hcz19_0 := blkc11 BK173.out)); try go_wp2_with (first | ((with_reducible refine gate_dst (N := 11) rfl ?_); refine xG (cs := #[.int .i64 0, .int .i64 0]) (t := 103) ?_; intro gb175 hg w14 hbox hb; have BK175 := xm (hbox); have GW175 := xm (xZ HB hg); have GE175 := xm (xZ HB hg); have NB173_175 := xm (xN BK173 hg); have NB175_173 := xm (xM BK173 hg); have NB174_175 := xm (xN BK174 hg); have NB175_174 := xm (xM BK174 hg); replace BK173 := xm (xB BK173 hb); replace BK174 := xm (xB BK174 hb); replace HB := xm (xS HB hb); clear hb hbox hg; have hcz17_0 := blkc2 BK175.out; have hcz19_0 := blkc11 BK173.out)))
         (try have hq173_175 := NB173_175.out); (try have hq175_173 := NB175_173.out); (try have hq174_175 := NB174_175.out); (try have hq175_174 := NB175_174.out)
         go_loopg [12, 13, 14] k2 (fun kq vs12 vs13 vs14 w' => ∃ (x12_3 : Int) (x13_3 : Int) (x14_3 : Int), vs12 = .int .i64 x12_3 ∧ vs13 = .int .i64 x13_3 ∧ vs14 = .int .i64 x14_3 ∧ Aside0 (ends_row.l2 kq a2 a3 x18_1 x12_3 x13_3 x14_3 (l1_0.length : Int) x18_1 x26_2 1 0 0 1 1 1 1 (-1) a0_0 a0_1 a0_2 l0_3 l0_4 a0_5 a0_6 l0_7 a0_8 a0_9 a0_10 l1_0 l1_1 l1_2 a1_3 a1_4 (rd ([1, 0, 1, 1] : List Int) x26_2) (rd ([0, 1, 1, (-1)] : List Int) x26_2) = some r) ∧ Aside0 (kq ≤ k2) ∧ Aside0 (w'.heap[gb173]? = some (.cells #[.string a0_0, .int .i64 a0_1, .int .i64 a0_2, (.slice A0_3 l0_3.length c0_3), (.slice A0_4 l0_4.length c0_4), .bool a0_5, .bool a0_6, (.slice A0_7 l0_7.length c0_7), .int .i64 a0_8, .int .i64 a0_9, .int .i64 a0_10] 26 (0, 0))) ∧ Aside0 (w'.heap[gb174]? = some (.cells #[(.slice A1_0 l1_0.length c1_0), (.slice A1_1 l1_1.length c1_1), (.slice A1_2 l1_2.length c1_2), .int .i64 a1_3, .int .i64 a1_4] 29 (0, 0))) ∧ Aside0 (w'.heap[gb175]? = some (.cells #[.int .i64 (rd ([1, 0, 1, 1] : List Int) x26_2), .int .i64 (rd ([0, 1, 1, (-1)] : List Int) x26_2)] 103 (0, 0))) ∧ Aside0 (Below w.heap.size w w'))
         case atStart => exact ⟨(Int.tmod x18_1 a0_1), (wrap64 (Int.tdiv x18_1 a0_1)), (0), (xrf), (xrf), (xrf), H', ⟨Nat.le_refl _⟩, ⟨xK BK173⟩, ⟨xK BK174⟩, ⟨xQ BK175⟩, ⟨xW HB⟩⟩
         case round =>
          clear H'; (try clear p2); (try clear p6); (try clear p2)
          obtain ⟨x12_3, x13_3, x14_3, rfl, rfl, rfl, HA, HK3, BK173, BK174, BK175, HB⟩ := hrel
          cases gk with
          | zero => exact absurd HA.out (by simp [ends_row.l2])
          | succ k3 =>
           have H := HA.out; clear HA
           simp only [ends_row.l2] at H
           by_cases c20 : x12_3 ≥ 0
           ·rw [if_pos c20] at H
            have c20b0 := decide_eq_true c20
            clear c20
            by_cases c21 : x12_3 < a0_1
            ·rw [if_pos c21] at H
             have c21b0 := decide_eq_true c21
             clear c21
             by_cases c22 : x13_3 ≥ 0
             ·rw [if_pos c22] at H
              have c22b0 := decide_eq_true c22
              clear c22
              by_cases c23 : x13_3 < a0_2
              ·rw [if_pos c23] at H
               have c23b0 := decide_eq_true c23
               clear c23
               by_cases c24 : x14_3 < a3
               ·rw [if_pos c24] at H
                have c24b0 := decide_eq_true c24
                clear c24
                obtain ⟨ji25, hji25⟩ : ∃ j_ : Int, (wrap64 ((wrap64 (x13_3 * a0_1)) + x12_3)) = j_ := ⟨_, rfl⟩
                (first | rw [hji25] at H | simp only [hji25] at H)
                have hji25w : (IntKind.i64.wrap ((wrap64 (x13_3 * a0_1)) + x12_3)) = ji25 := (i64_w _).trans hji25
                by_cases c26 : 0 ≤ (ji25)
                ·rw [if_pos c26] at H
                 have c26b0 := decide_eq_true c26
                 clear c26
                 by_cases c27 : (ji25) < (l1_0.length : Int)
                 ·rw [if_pos c27] at H
                  have c27b0 := decide_eq_true c27
                  clear c27; replace H := Option.bind_eq_some_iff.mp H
                  obtain ⟨t177, A280, H⟩ := H
                  try dsimp only at H
                  have A28 := xm A280; clear A280
                  by_cases c29 : t177 = a2
                  ·rw [if_pos c29] at H
                   have c29b0 := beq_iff_eq.mpr c29
                   have c29b1 := bne_eq_false_iff_eq.mpr c29
                   clear c29
                   have H' := xm H
                   clear H; have hcz32_0 := blkc11 BK173.out; have hcz34_0 := blkc5 BK174.out
                   have p176 : 0 ≤ ((ji25) : Int) := xO
                   have q176 : (ji25) < (l1_0.length : Int) := xO
                   obtain ⟨ad176, e176, hx176_0⟩ := Kd.at_int HR1_0.out (ji25) p176 q176
                   cases e176
                   replace hx176_0 := xR HB hx176_0; replace p176 := eq_true p176; replace q176 := eq_true q176
                   go_wp2_with (first | (go_at_call 53; (with_reducible refine (moves_Owner.calls (rd l1_0 (ji25)) t177 _ A28.out).mono ?_); rintro e w' ⟨rfl, ⟨nd, rfl⟩⟩; (try first | exact ⟨rfl, _, World.drewN_drewN _ _ _⟩ | exact ⟨rfl, _, Eq.trans (World.drewN_drewN _ _ _) (congrArg (World.drewN _) (Nat.add_assoc _ _ _))⟩); have hcz35_0 := blkc2 BK175.out))
                   repeat (go_quiet (first | (go_at_call 53; (with_reducible refine (moves_Owner.calls (rd l1_0 (ji25)) t177 _ A28.out).mono ?_); rintro e w' ⟨rfl, ⟨nd, rfl⟩⟩; (try first | exact ⟨rfl, _, World.drewN_drewN _ _ _⟩ | exact ⟨rfl, _, Eq.trans (World.drewN_drewN _ _ _) (congrArg (World.drewN _) (Nat.add_assoc _ _ _))⟩); have hcz35_0 := blkc2 BK175.out)); try go_wp2_with (first | (go_at_call 53; (with_reducible refine (moves_Owner.calls (rd l1_0 (ji25)) t177 _ A28.out).mono ?_); rintro e w' ⟨rfl, ⟨nd, rfl⟩⟩; (try first | exact ⟨rfl, _, World.drewN_drewN _ _ _⟩ | exact ⟨rfl, _, Eq.trans (World.drewN_drewN _ _ _) (congrArg (World.drewN _) (Nat.add_assoc _ _ _))⟩); have hcz35_0 := blkc2 BK175.out)))
                   (first | go_roundg k3 | (simp only [← hji25]; go_roundg k3))
                   case measure => have := HK1.out; have := HK2.out; have := HK3.out; omega
                   case rel => exact ⟨(wrap64 (x12_3 + (rd ([1, 0, 1, 1] : List Int) x26_2))), (wrap64 (x13_3 + (rd ([0, 1, 1, (-1)] : List Int) x26_2))), (wrap64 (x14_3 + 1)), (xrf), (xrf), (xrf), H', ⟨by have := HK1.out; have := HK2.out; have := HK3.out; omega⟩, ⟨xK BK173⟩, ⟨xK BK174⟩, ⟨xK BK175⟩, ⟨xW HB⟩⟩
                  ·rw [if_neg c29] at H
                   have c29b0 := beq_eq_false_iff_ne.mpr c29
                   have c29b1 := bne_iff_ne.mpr c29
                   by_cases c36 : x14_3 = a3
                   ·rw [if_pos c36] at H
                    have c36b0 := beq_iff_eq.mpr c36
                    have c36b1 := bne_eq_false_iff_eq.mpr c36
                    clear c36
                    obtain rfl := Option.some.inj H
                    have hcz39_0 := blkc11 BK173.out; have hcz41_0 := blkc5 BK174.out
                    have p176 : 0 ≤ ((ji25) : Int) := xO
                    have q176 : (ji25) < (l1_0.length : Int) := xO
                    obtain ⟨ad176, e176, hx176_0⟩ := Kd.at_int HR1_0.out (ji25) p176 q176
                    cases e176
                    replace hx176_0 := xR HB hx176_0; replace p176 := eq_true p176; replace q176 := eq_true q176
                    go_wp2_with (first | (go_at_call 53; (with_reducible refine (moves_Owner.calls (rd l1_0 (ji25)) t177 _ A28.out).mono ?_); rintro e w' ⟨rfl, ⟨nd, rfl⟩⟩; (try first | exact ⟨rfl, _, World.drewN_drewN _ _ _⟩ | exact ⟨rfl, _, Eq.trans (World.drewN_drewN _ _ _) (congrArg (World.drewN _) (Nat.add_assoc _ _ _))⟩)))
                    go_ret
                    exact ⟨by first | rfl | (simp [errW_none, errW_some] <;> rfl) | (simp only [← hji25]; first | rfl | (simp [errW_none, errW_some] <;> rfl)) | (simp [*, errW_none, errW_some] <;> rfl), xW HB⟩
                   ·rw [if_neg c36] at H
                    have c36b0 := beq_eq_false_iff_ne.mpr c36
                    have c36b1 := bne_iff_ne.mpr c36
                    have H' := xm H
                    clear H; have hcz44_0 := blkc11 BK173.out; have hcz46_0 := blkc5 BK174.out
                    have p176 : 0 ≤ ((ji25) : Int) := xO
                    have q176 : (ji25) < (l1_0.length : Int) := xO
                    obtain ⟨ad176, e176, hx176_0⟩ := Kd.at_int HR1_0.out (ji25) p176 q176
                    cases e176
                    replace hx176_0 := xR HB hx176_0; replace p176 := eq_true p176; replace q176 := eq_true q176
                    go_wp2_with (first | (go_at_call 53; (with_reducible refine (moves_Owner.calls (rd l1_0 (ji25)) t177 _ A28.out).mono ?_); rintro e w' ⟨rfl, ⟨nd, rfl⟩⟩; (try first | exact ⟨rfl, _, World.drewN_drewN _ _ _⟩ | exact ⟨rfl, _, Eq.trans (World.drewN_drewN _ _ _) (congrArg (World.drewN _) (Nat.add_assoc _ _ _))⟩)))
                    (first | go_roundg k3 | (simp only [← hji25]; go_roundg k3))
                    case measure => have := HK1.out; have := HK2.out; have := HK3.out; omega
                    case rel => exact ⟨(wrap64 (x26_2 + 1)), (xrf), H', ⟨by have := HK1.out; have := HK2.out; have := HK3.out; omega⟩, ⟨xK BK173⟩, ⟨xK BK174⟩, ⟨xW HB⟩⟩
                 ·rw [if_neg c27] at H
                  exact absurd H (by simp)
                ·rw [if_neg c26] at H
                 exact absurd H (by simp)
               ·rw [if_neg c24] at H
                have c24b0 := decide_eq_false c24
                clear c24
                by_cases c47 : x14_3 = a3
                ·rw [if_pos c47] at H
                 have c47b0 := beq_iff_eq.mpr c47
                 have c47b1 := bne_eq_false_iff_eq.mpr c47
                 clear c47
                 obtain rfl := Option.some.inj H
                 have hcz50_0 := blkc11 BK173.out
                 go_wp2
                 go_ret
                 exact ⟨xer, xW HB⟩
                ·rw [if_neg c47] at H
                 have c47b0 := beq_eq_false_iff_ne.mpr c47
                 have c47b1 := bne_iff_ne.mpr c47
                 have H' := xm H
                 clear H; have hcz53_0 := blkc11 BK173.out
                 go_wp2
                 go_roundg k3
                 case measure => have := HK1.out; have := HK2.out; have := HK3.out; omega
                 case rel => exact ⟨(wrap64 (x26_2 + 1)), (xrf), H', ⟨by have := HK1.out; have := HK2.out; have := HK3.out; omega⟩, ⟨xK BK173⟩, ⟨xK BK174⟩, ⟨xW HB⟩⟩
              ·rw [if_neg c23] at H
               have c23b0 := decide_eq_false c23
               clear c23
               by_cases c54 : x14_3 = a3
               ·rw [if_pos c54] at H
                have c54b0 := beq_iff_eq.mpr c54
                have c54b1 := bne_eq_false_iff_eq.mpr c54
                clear c54
                obtain rfl := Option.some.inj H
                have hcz57_0 := blkc11 BK173.out
                go_wp2
                go_ret
                exact ⟨xer, xW HB⟩
               ·rw [if_neg c54] at H
                have c54b0 := beq_eq_false_iff_ne.mpr c54
                have c54b1 := bne_iff_ne.mpr c54
                have H' := xm H
                clear H; have hcz60_0 := blkc11 BK173.out
                go_wp2
                go_roundg k3
                case measure => have := HK1.out; have := HK2.out; have := HK3.out; omega
                case rel => exact ⟨(wrap64 (x26_2 + 1)), (xrf), H', ⟨by have := HK1.out; have := HK2.out; have := HK3.out; omega⟩, ⟨xK BK173⟩, ⟨xK BK174⟩, ⟨xW HB⟩⟩
             ·rw [if_neg c22] at H
              have c22b0 := decide_eq_false c22
              clear c22
              by_cases c61 : x14_3 = a3
              ·rw [if_pos c61] at H
               have c61b0 := beq_iff_eq.mpr c61
               have c61b1 := bne_eq_false_iff_eq.mpr c61
               clear c61
               obtain rfl := Option.some.inj H
               have hcz64_0 := blkc11 BK173.out
               go_wp2
               go_ret
               exact ⟨xer, xW HB⟩
              ·rw [if_neg c61] at H
               have c61b0 := beq_eq_false_iff_ne.mpr c61
               have c61b1 := bne_iff_ne.mpr c61
               have H' := xm H
               clear H; have hcz67_0 := blkc11 BK173.out
               go_wp2
               go_roundg k3
               case measure => have := HK1.out; have := HK2.out; have := HK3.out; omega
               case rel => exact ⟨(wrap64 (x26_2 + 1)), (xrf), H', ⟨by have := HK1.out; have := HK2.out; have := HK3.out; omega⟩, ⟨xK BK173⟩, ⟨xK BK174⟩, ⟨xW HB⟩⟩
            ·rw [if_neg c21] at H
             have c21b0 := decide_eq_false c21
             clear c21
             by_cases c68 : x14_3 = a3
             ·rw [if_pos c68] at H
              have c68b0 := beq_iff_eq.mpr c68
              have c68b1 := bne_eq_false_iff_eq.mpr c68
              clear c68
              obtain rfl := Option.some.inj H
              have hcz71_0 := blkc11 BK173.out
              go_wp2
              go_ret
              exact ⟨xer, xW HB⟩
             ·rw [if_neg c68] at H
              have c68b0 := beq_eq_false_iff_ne.mpr c68
              have c68b1 := bne_iff_ne.mpr c68
              have H' := xm H
              clear H; have hcz74_0 := blkc11 BK173.out
              go_wp2
              go_roundg k3
              case measure => have := HK1.out; have := HK2.out; have := HK3.out; omega
              case rel => exact ⟨(wrap64 (x26_2 + 1)), (xrf), H', ⟨by have := HK1.out; have := HK2.out; have := HK3.out; omega⟩, ⟨xK BK173⟩, ⟨xK BK174⟩, ⟨xW HB⟩⟩
           ·rw [if_neg c20] at H
            have c20b0 := decide_eq_false c20
            clear c20
            by_cases c75 : x14_3 = a3
            ·rw [if_pos c75] at H
             have c75b0 := beq_iff_eq.mpr c75
             have c75b1 := bne_eq_false_iff_eq.mpr c75
             clear c75
             obtain rfl := Option.some.inj H
             go_wp2
             go_ret
             exact ⟨xer, xW HB⟩
            ·rw [if_neg c75] at H
             have c75b0 := beq_eq_false_iff_ne.mpr c75
             have c75b1 := bne_iff_ne.mpr c75
             have H' := xm H
             clear H
             go_wp2
             go_roundg k3
             case measure => have := HK1.out; have := HK2.out; have := HK3.out; omega
             case rel => exact ⟨(wrap64 (x26_2 + 1)), (xrf), H', ⟨by have := HK1.out; have := HK2.out; have := HK3.out; omega⟩, ⟨xK BK173⟩, ⟨xK BK174⟩, ⟨xW HB⟩⟩
       ·rw [if_neg c11] at H
        exact absurd H (by simp)
      ·rw [if_neg c10] at H
       have c10b0 := decide_eq_false c10
       clear c10
       have H' := xm H
       clear H
       go_wp2
       go_roundg k2
       case measure => have := HK1.out; have := HK2.out; omega
       case rel => exact ⟨(wrap64 (x18_1 + 1)), (xrf), H', ⟨by have := HK1.out; have := HK2.out; omega⟩, ⟨xK BK173⟩, ⟨xK BK174⟩, ⟨xW HB⟩⟩
   ·rw [if_neg c9] at H
    have c9b0 := decide_eq_false c9
    clear c9
    obtain rfl := Option.some.inj H
    go_wp2
    go_ret
    exact ⟨xer, xW HB⟩

end Go.Proofs.Ytloadbbndnmdlaa.PEndsOf
