-- Printed by a program of this claim's writer (wip/ext): an extension of the kit's print.
import Derived.Test.YtloadbbndnmdlaaPZobKeysx0
import Derived.Test.YtloadbbndnmdlaaPZobKeysx6
namespace Go.Proofs.Ytloadbbndnmdlaa.PZobKeys
open Go.RowKit Go.Proofs.YtloadbbndnmdlaaW.PrintWords Go.Proofs.YtloadbbndnmdlaaW.PrintLast Go.Proofs.YtloadbbndnmdlaaW.PrintMore
set_option maxHeartbeats 8000000
set_option maxRecDepth 100000
attribute [local go_sem] max2_int min2_int max_two min_two max_three min_three max_four min_four   -- for this text's walks alone
set_option linter.unusedVariables false
set_option linter.unusedSimpArgs false

/-! ### place_Check: function 26 -/
mutual
def place_Check.j0 : Nat → Bool → ByteArray → Int → Int → List (S62) → List Int → Bool → Bool → List (S64) → Int → Int → Int → List Int → List Int → List Int → Int → Int → Option (Int)
  | 0, _, _, _, _, _, _, _, _, _, _, _, _, _, _, _, _, _ => none
  | k + 1, x45, z183a, z183b, z183c, z183d, z183e, z183f, z183g, z183h, z183i, z183j, z183k, z184a, z184b, z184c, z184d, z184e => if x45 = true then (some 3) else (place_Check.l0 k z184a (z184a.length : Int) 0 z183a z183b z183c z183d z183e z183f z183g z183h z183i z183j z183k z184a z184b z184c z184d z184e)
def place_Check.l0 : Nat → List Int → Int → Int → ByteArray → Int → Int → List (S62) → List Int → Bool → Bool → List (S64) → Int → Int → Int → List Int → List Int → List Int → Int → Int → Option (Int)
  | 0, _, _, _, _, _, _, _, _, _, _, _, _, _, _, _, _, _, _, _ => none
  | k + 1, x47, x48, x49, z183a, z183b, z183c, z183d, z183e, z183f, z183g, z183h, z183i, z183j, z183k, z184a, z184b, z184c, z184d, z184e => if x49 < x48 then (if 0 ≤ x49 then (if x49 < (x47.length : Int) then (if (rd x47 x49) < 0 then (some 4) else (if (rd x47 x49) > (wrap64 (2 * (z183d.length : Int))) then (some 4) else (place_Check.l0 k x47 x48 (wrap64 (x49 + 1)) z183a z183b z183c z183d z183e z183f z183g z183h z183i z183j z183k z184a z184b z184c z184d z184e))) else (none)) else (none)) else (place_Check.l1 k 0 z184b z184c z184a z184b z184c z184d z184e)
def place_Check.l1 : Nat → Int → List Int → List Int → List Int → List Int → List Int → Int → Int → Option (Int)
  | 0, _, _, _, _, _, _, _, _ => none
  | k + 1, x66, x101, x102, z184a, z184b, z184c, z184d, z184e => if x66 < 2 then (if 0 ≤ x66 then (if x66 = 0 then (place_Check.j3 k x101 x66 x101 x102 z184a z184b z184c z184d z184e) else (place_Check.j3 k x102 x66 x101 x102 z184a z184b z184c z184d z184e)) else (none)) else (if z184d = 0 then (if z184e < 0 then (some 4) else (if z184e > 200 then (some 4) else (some 0))) else (if z184d = 1 then (if z184e < 0 then (some 4) else (if z184e > 200 then (some 4) else (some 0))) else (some 4)))
def place_Check.j3 : Nat → List Int → Int → List Int → List Int → List Int → List Int → List Int → Int → Int → Option (Int)
  | 0, _, _, _, _, _, _, _, _, _ => none
  | k + 1, x9, x66, x101, x102, z184a, z184b, z184c, z184d, z184e => place_Check.l2 k x66 x9 (x9.length : Int) 0 x101 x102 z184a z184b z184c z184d z184e
def place_Check.l2 : Nat → Int → List Int → Int → Int → List Int → List Int → List Int → List Int → List Int → Int → Int → Option (Int)
  | 0, _, _, _, _, _, _, _, _, _, _, _ => none
  | k + 1, x66, x69, x70, x71, x101, x102, z184a, z184b, z184c, z184d, z184e => if x71 < x70 then (if 0 ≤ x71 then (if x71 < (x69.length : Int) then (if (rd x69 x71) < 0 then (some 4) else (if (rd x69 x71) > 1000 then (some 4) else (place_Check.l2 k x66 x69 x70 (wrap64 (x71 + 1)) x101 x102 z184a z184b z184c z184d z184e))) else (none)) else (none)) else (place_Check.l1 k (wrap64 (x66 + 1)) x101 x102 z184a z184b z184c z184d z184e)
end
def place_Check.f (k : Nat) (a0_0 : ByteArray) (a0_1 : Int) (a0_2 : Int) (l0_3 : List (S62)) (l0_4 : List Int) (a0_5 : Bool) (a0_6 : Bool) (l0_7 : List (S64)) (a0_8 : Int) (a0_9 : Int) (a0_10 : Int) (l1_0 : List Int) (l1_1 : List Int) (l1_2 : List Int) (a1_3 : Int) (a1_4 : Int) : Option (Int) := (rules_Check.f k a0_0 a0_1 a0_2 l0_3 l0_4 a0_5 a0_6 l0_7 a0_8 a0_9 a0_10).bind fun t184 => (if t184 = 0 then (if (l1_0.length : Int) = (wrap64 (a0_1 * a0_2)) then (if (l1_1.length : Int) = (l0_3.length : Int) then (place_Check.j0 k ((l1_2.length : Int) != (l0_3.length : Int)) a0_0 a0_1 a0_2 l0_3 l0_4 a0_5 a0_6 l0_7 a0_8 a0_9 a0_10 l1_0 l1_1 l1_2 a1_3 a1_4) else (place_Check.j0 k true a0_0 a0_1 a0_2 l0_3 l0_4 a0_5 a0_6 l0_7 a0_8 a0_9 a0_10 l1_0 l1_1 l1_2 a1_3 a1_4)) else (place_Check.j0 k true a0_0 a0_1 a0_2 l0_3 l0_4 a0_5 a0_6 l0_7 a0_8 a0_9 a0_10 l1_0 l1_1 l1_2 a1_3 a1_4)) else (some t184))
theorem place_Check.mono_l : ∀ k, L10 (L5 (LM (LM (LeO)))) (place_Check.j0 k) (place_Check.j0 (k + 1)) ∧ L10 (L5 (LM (LM (LM (LM (LeO)))))) (place_Check.l0 k) (place_Check.l0 (k + 1)) ∧ L5 (LM (LM (LM (LeO)))) (place_Check.l1 k) (place_Check.l1 (k + 1)) ∧ L5 (LM (LM (LM (LM (LeO))))) (place_Check.j3 k) (place_Check.j3 (k + 1)) ∧ L10 (LM (LeO)) (place_Check.l2 k) (place_Check.l2 (k + 1))
  | 0 => by refine ⟨?_, ?_, ?_, ?_, ?_⟩ <;> (repeat (first | exact LeO.none _ | intro _))
  | k + 1 => by
    obtain ⟨ih0, ih1, ih2, ih3, ih4⟩ := place_Check.mono_l k
    refine ⟨?_, ?_, ?_, ?_, ?_⟩ <;> ((repeat (first | (with_reducible refine LeO.st ?_) | intro _)); constructor; (first | unfold place_Check.j0 | unfold place_Check.l0 | unfold place_Check.l1 | unfold place_Check.j3 | unfold place_Check.l2); repeat' first | (with_reducible first | apply ih0 | apply ih1 | apply ih2 | apply ih3 | apply ih4 | apply rules_Check.mono | exact LeO.refl _ | exact LeO.none _ | refine LeO.ite ?_ ?_ | refine LeO.bind ?_ (fun _ => ?_)) | apply ih0 | apply ih1 | apply ih2 | apply ih3 | apply ih4 | apply rules_Check.mono | exact LeO.none _ | refine LeO.ite ?_ ?_ | refine LeO.bind ?_ (fun _ => ?_))
theorem place_Check.mono : ∀ a0 a1 a2 a3 a4 a5 a6 a7 a8 a9 a10 a11 a12 a13 a14 a15 k, LeO (place_Check.f k a0 a1 a2 a3 a4 a5 a6 a7 a8 a9 a10 a11 a12 a13 a14 a15) (place_Check.f (k + 1) a0 a1 a2 a3 a4 a5 a6 a7 a8 a9 a10 a11 a12 a13 a14 a15) := by
  intros; rename_i k
  obtain ⟨ih0, ih1, ih2, ih3, ih4⟩ := place_Check.mono_l k
  unfold place_Check.f
  repeat' first | (with_reducible first | apply ih0 | apply ih1 | apply ih2 | apply ih3 | apply ih4 | apply rules_Check.mono | exact LeO.refl _ | exact LeO.none _ | refine LeO.ite ?_ ?_ | refine LeO.bind ?_ (fun _ => ?_)) | apply ih0 | apply ih1 | apply ih2 | apply ih3 | apply ih4 | apply rules_Check.mono | exact LeO.none _ | refine LeO.ite ?_ ?_ | refine LeO.bind ?_ (fun _ => ?_)
theorem place_Check.calls (k : Nat) (a0_0 : ByteArray) (a0_1 : Int) (a0_2 : Int) (A0_3 : Option Addr) (c0_3 : Nat) (l0_3 : List (S62)) (A0_4 : Option Addr) (c0_4 : Nat) (l0_4 : List Int) (a0_5 : Bool) (a0_6 : Bool) (A0_7 : Option Addr) (c0_7 : Nat) (l0_7 : List (S64)) (a0_8 : Int) (a0_9 : Int) (a0_10 : Int) (A1_0 : Option Addr) (c1_0 : Nat) (l1_0 : List Int) (A1_1 : Option Addr) (c1_1 : Nat) (l1_1 : List Int) (A1_2 : Option Addr) (c1_2 : Nat) (l1_2 : List Int) (a1_3 : Int) (a1_4 : Int) (r : Int) (w : World) (hr0_3 : Kd.C k62 w A0_3 l0_3.length l0_3) (hc0_3 : l0_3.length ≤ c0_3) (hr0_4 : Kd.C (Kd.int .i64) w A0_4 l0_4.length l0_4) (hc0_4 : l0_4.length ≤ c0_4) (hr0_7 : Kd.C k64 w A0_7 l0_7.length l0_7) (hc0_7 : l0_7.length ≤ c0_7) (hr1_0 : Kd.C (Kd.int .i64) w A1_0 l1_0.length l1_0) (hc1_0 : l1_0.length ≤ c1_0) (hr1_1 : Kd.C (Kd.int .i64) w A1_1 l1_1.length l1_1) (hc1_1 : l1_1.length ≤ c1_1) (hr1_2 : Kd.C (Kd.int .i64) w A1_2 l1_2.length l1_2) (hc1_2 : l1_2.length ≤ c1_2) (h : place_Check.f k a0_0 a0_1 a0_2 l0_3 l0_4 a0_5 a0_6 l0_7 a0_8 a0_9 a0_10 l1_0 l1_1 l1_2 a1_3 a1_4 = some r) :
    Calls Try.prog 26 #[.agg #[.string a0_0, .int .i64 a0_1, .int .i64 a0_2, .slice A0_3 l0_3.length c0_3, .slice A0_4 l0_4.length c0_4, .bool a0_5, .bool a0_6, .slice A0_7 l0_7.length c0_7, .int .i64 a0_8, .int .i64 a0_9, .int .i64 a0_10], .agg #[.slice A1_0 l1_0.length c1_0, .slice A1_1 l1_1.length c1_1, .slice A1_2 l1_2.length c1_2, .int .i64 a1_3, .int .i64 a1_4]] w fun e w' => e = .returned (.int .i64 r) ∧ Below w.heap.size w w' := by
 have hu26 := Try.underlying26; have hu29 := Try.underlying29; have hu27 := Try.underlying27; have HR0_3 := xm hr0_3; have HC0_3 := xm hc0_3; clear hr0_3 hc0_3; have HR0_4 := xm hr0_4; have HC0_4 := xm hc0_4; clear hr0_4 hc0_4; have HR0_7 := xm hr0_7; have HC0_7 := xm hc0_7; clear hr0_7 hc0_7; have HR1_0 := xm hr1_0; have HC1_0 := xm hc1_0; clear hr1_0 hc1_0; have HR1_1 := xm hr1_1; have HC1_1 := xm hc1_1; clear hr1_1 hc1_1; have HR1_2 := xm hr1_2; have HC1_2 := xm hc1_2; clear hr1_2 hc1_2; have HB := xm (Below.refl w.heap.size w); have hss_ := @isSome_setCell
 have H : ((rules_Check.f k a0_0 a0_1 a0_2 l0_3 l0_4 a0_5 a0_6 l0_7 a0_8 a0_9 a0_10).bind fun t184 => (if t184 = 0 then (if (l1_0.length : Int) = (wrap64 (a0_1 * a0_2)) then (if (l1_1.length : Int) = (l0_3.length : Int) then (place_Check.j0 k ((l1_2.length : Int) != (l0_3.length : Int)) a0_0 a0_1 a0_2 l0_3 l0_4 a0_5 a0_6 l0_7 a0_8 a0_9 a0_10 l1_0 l1_1 l1_2 a1_3 a1_4) else (place_Check.j0 k true a0_0 a0_1 a0_2 l0_3 l0_4 a0_5 a0_6 l0_7 a0_8 a0_9 a0_10 l1_0 l1_1 l1_2 a1_3 a1_4)) else (place_Check.j0 k true a0_0 a0_1 a0_2 l0_3 l0_4 a0_5 a0_6 l0_7 a0_8 a0_9 a0_10 l1_0 l1_1 l1_2 a1_3 a1_4)) else (some t184))) = some r := h
 clear h; obtain ⟨t184, A3, H⟩ := xH H
 (try dsimp only at H); have DA3 := xm fun (W_ : World) (hb_ : Below w.heap.size w W_) => rules_Check.calls k a0_0 a0_1 a0_2 _ _ l0_3 _ _ l0_4 a0_5 a0_6 _ _ l0_7 a0_8 a0_9 a0_10 t184 W_ (Kd.C_below HR0_3.out hb_) HC0_3.out (Kd.C_below HR0_4.out hb_) HC0_4.out (Kd.C_below HR0_7.out hb_) HC0_7.out A3.out
 by_cases c4 : t184 = 0
 ·rw [if_pos c4] at H
  have c4b0 := beq_iff_eq.mpr c4
  have c4b1 := bne_eq_false_iff_eq.mpr c4
  clear c4; have HC5 := xm H; clear H
  go_enter Try.func26, Try.ntmps26
  go_upto_region 4 with (first | ((with_reducible refine gate_dst (N := 2) rfl ?_); (try (refine gate_guard (by rfl) ?_; dsimp only)); refine xG (cs := #[.string a0_0, .int .i64 a0_1, .int .i64 a0_2, .slice A0_3 l0_3.length c0_3, .slice A0_4 l0_4.length c0_4, .bool a0_5, .bool a0_6, .slice A0_7 l0_7.length c0_7, .int .i64 a0_8, .int .i64 a0_9, .int .i64 a0_10]) (t := 26) ?_; intro gb182 hg w6 hbox hb; have BK182 := xm (hbox); have GW182 := xm (xZ HB hg); have GE182 := xm (xZ HB hg); replace HB := xm (xS HB hb); clear hb hbox hg) | ((with_reducible refine gate_dst (N := 3) rfl ?_); (try (refine gate_guard (by rfl) ?_; dsimp only)); refine xG (cs := #[.slice A1_0 l1_0.length c1_0, .slice A1_1 l1_1.length c1_1, .slice A1_2 l1_2.length c1_2, .int .i64 a1_3, .int .i64 a1_4]) (t := 29) ?_; intro gb183 hg w7 hbox hb; have BK183 := xm (hbox); have GW183 := xm (xZ HB hg); have GE183 := xm (xZ HB hg); have NB182_183 := xm (xN BK182 hg); have NB183_182 := xm (xM BK182 hg); replace BK182 := xm (xB BK182 hb); replace HB := xm (xS HB hb); clear hb hbox hg; have hnb8 := NB182_183.out; have hnc8 := NB183_182.out; have hcz9_0 := blkc11 BK182.out) | ((with_reducible refine gate_callee (f := 42) rfl ?_); refine xL (some 13) Try.func42 #[.agg #[.string a0_0, .int .i64 a0_1, .int .i64 a0_2, .slice A0_3 l0_3.length c0_3, .slice A0_4 l0_4.length c0_4, .bool a0_5, .bool a0_6, .slice A0_7 l0_7.length c0_7, .int .i64 a0_8, .int .i64 a0_9, .int .i64 a0_10]] rfl ?_; (with_reducible refine (DA3.out _ ?sB).mono ?_); (case sB => exact xW HB); rintro e w10 ⟨rfl, hb⟩; refine ⟨_, rfl, ?_⟩; replace BK182 := xm (xB BK182 hb); replace BK183 := xm (xB BK183 hb); replace HB := xm (xS HB hb); (try clear hb); (try clear hb2); (try clear hk); (try clear hi)))
  (try have hq183_182 := NB183_182.out); (try have hq182_183 := NB182_183.out)
  (try simp only [Act.put, List.setIfInBounds_toArray, List.set_cons_zero, List.set_cons_succ])
  go_cut [45] (fun vs45 wc => ∃ (kq : Nat) (x45_4 : Bool), vs45 = .bool x45_4 ∧ Aside0 (place_Check.j0 kq x45_4 a0_0 a0_1 a0_2 l0_3 l0_4 a0_5 a0_6 l0_7 a0_8 a0_9 a0_10 l1_0 l1_1 l1_2 a1_3 a1_4 = some r) ∧ Aside0 (kq ≤ k) ∧ Aside0 (wc.heap[gb182]? = some (.cells #[.string a0_0, .int .i64 a0_1, .int .i64 a0_2, (.slice A0_3 l0_3.length c0_3), (.slice A0_4 l0_4.length c0_4), .bool a0_5, .bool a0_6, (.slice A0_7 l0_7.length c0_7), .int .i64 a0_8, .int .i64 a0_9, .int .i64 a0_10] 26 (0, 0))) ∧ Aside0 (wc.heap[gb183]? = some (.cells #[(.slice A1_0 l1_0.length c1_0), (.slice A1_1 l1_1.length c1_1), (.slice A1_2 l1_2.length c1_2), .int .i64 a1_3, .int .i64 a1_4] 29 (0, 0))) ∧ Aside0 (Below w.heap.size w wc))
  case first =>
   have H := HC5.out; clear HC5
   by_cases c11 : (l1_0.length : Int) = (wrap64 (a0_1 * a0_2))
   ·rw [if_pos c11] at H
    have c11b0 := beq_iff_eq.mpr c11
    have c11b1 := bne_eq_false_iff_eq.mpr c11
    clear c11
    (first | rw [c11b0] | (simp only [i64_w, i32_w]; rw [c11b0]) | skip)
    by_cases c12 : (l1_1.length : Int) = (l0_3.length : Int)
    ·rw [if_pos c12] at H
     have c12b0 := beq_iff_eq.mpr c12
     have c12b1 := bne_eq_false_iff_eq.mpr c12
     have c12b2 : (l1_1.length == l0_3.length) = true := by first | simpa using c12 | (simp at c12 ⊢; omega)
     clear c12
     have H' := xm H
     clear H; have hcz14_0 := blkc5 BK183.out; have hcz15_0 := blkc11 BK182.out
     go_wp2
     go_meet
     case rel => exact ⟨_, (((l1_2.length : Int) != (l0_3.length : Int))), (xrf), H', ⟨by first | omega | exact Nat.le_refl _⟩, ⟨xK BK182⟩, ⟨xK BK183⟩, ⟨xW HB⟩⟩
    ·rw [if_neg c12] at H
     have c12b0 := beq_eq_false_iff_ne.mpr c12
     have c12b1 := bne_iff_ne.mpr c12
     have c12b2 : (l1_1.length == l0_3.length) = false := by first | simpa using c12 | (simp at c12 ⊢; omega)
     have H' := xm H
     clear H; have hcz17_0 := blkc5 BK183.out; have hcz18_0 := blkc11 BK182.out
     go_wp2
     go_meet
     case rel => exact ⟨_, (true), (xrf), H', ⟨by first | omega | exact Nat.le_refl _⟩, ⟨xK BK182⟩, ⟨xK BK183⟩, ⟨xW HB⟩⟩
   ·rw [if_neg c11] at H
    have c11b0 := beq_eq_false_iff_ne.mpr c11
    have c11b1 := bne_iff_ne.mpr c11
    (first | rw [c11b0] | (simp only [i64_w, i32_w]; rw [c11b0]) | skip)
    have H' := xm H
    clear H; have hcz20_0 := blkc5 BK183.out; have hcz21_0 := blkc11 BK182.out
    go_wp2
    go_meet
    case rel => exact ⟨_, (true), (xrf), H', ⟨by first | omega | exact Nat.le_refl _⟩, ⟨xK BK182⟩, ⟨xK BK183⟩, ⟨xW HB⟩⟩
  case rest =>
   clear HC5; (try clear p2); (try clear p6)
   obtain ⟨kq, x45_4, rfl, HA, HJ4, BK182, BK183, HB⟩ := hcut
   cases kq with
   | zero => exact absurd HA.out (by simp [place_Check.j0])
   | succ kj4 =>
    have H := HA.out; clear HA
    simp only [place_Check.j0] at H
    by_cases c22 : x45_4 = true
    ·subst c22
     rw [if_pos rfl] at H
     obtain rfl := Option.some.inj H
     go_wp2
     go_ret
     exact ⟨xer, xW HB⟩
    ·obtain rfl := Bool.eq_false_iff.mpr c22
     rw [if_neg xF] at H
     have H' := xm H
     clear H; have hcz24_0 := blkc5 BK183.out
     go_wp2
     go_loopg [49] kj4 (fun kq vs49 w' => ∃ (x49_2 : Int), vs49 = .int .i64 x49_2 ∧ Aside0 (place_Check.l0 kq l1_0 (l1_0.length : Int) x49_2 a0_0 a0_1 a0_2 l0_3 l0_4 a0_5 a0_6 l0_7 a0_8 a0_9 a0_10 l1_0 l1_1 l1_2 a1_3 a1_4 = some r) ∧ Aside0 (kq ≤ kj4) ∧ Aside0 (w'.heap[gb182]? = some (.cells #[.string a0_0, .int .i64 a0_1, .int .i64 a0_2, (.slice A0_3 l0_3.length c0_3), (.slice A0_4 l0_4.length c0_4), .bool a0_5, .bool a0_6, (.slice A0_7 l0_7.length c0_7), .int .i64 a0_8, .int .i64 a0_9, .int .i64 a0_10] 26 (0, 0))) ∧ Aside0 (w'.heap[gb183]? = some (.cells #[(.slice A1_0 l1_0.length c1_0), (.slice A1_1 l1_1.length c1_1), (.slice A1_2 l1_2.length c1_2), .int .i64 a1_3, .int .i64 a1_4] 29 (0, 0))) ∧ Aside0 (Below w.heap.size w w'))
     case atStart => exact ⟨(0), (xrf), H', ⟨Nat.le_refl _⟩, ⟨xK BK182⟩, ⟨xK BK183⟩, ⟨xW HB⟩⟩
     case round =>
      clear H'; (try clear p2); (try clear p6)
      obtain ⟨x49_2, rfl, HA, HK2, BK182, BK183, HB⟩ := hrel
      cases gk with
      | zero => exact absurd HA.out (by simp [place_Check.l0])
      | succ k2 =>
       have H := HA.out; clear HA
       simp only [place_Check.l0] at H
       by_cases c25 : x49_2 < (l1_0.length : Int)
       ·rw [if_pos c25] at H
        have c25b0 := decide_eq_true c25
        clear c25
        obtain ⟨c26b0, H⟩ := xJ H
        obtain ⟨c27b0, H⟩ := xJ H
        by_cases c28 : (rd l1_0 x49_2) < 0
        ·rw [if_pos c28] at H
         have c28b0 := decide_eq_true c28
         clear c28
         obtain rfl := Option.some.inj H
         have p185 : 0 ≤ (x49_2 : Int) := xO
         have q185 : x49_2 < (l1_0.length : Int) := xO
         obtain ⟨ad185, e185, hx185_0⟩ := Kd.at_int HR1_0.out x49_2 p185 q185
         cases e185
         replace hx185_0 := xR HB hx185_0; replace p185 := eq_true p185; replace q185 := eq_true q185
         go_wp2
         go_ret
         exact ⟨xer, xW HB⟩
        ·rw [if_neg c28] at H
         have c28b0 := decide_eq_false c28
         clear c28
         by_cases c29 : (rd l1_0 x49_2) > (wrap64 (2 * (l0_3.length : Int)))
         ·rw [if_pos c29] at H
          have c29b0 := decide_eq_true c29
          clear c29
          obtain rfl := Option.some.inj H
          have p185 : 0 ≤ (x49_2 : Int) := xO
          have q185 : x49_2 < (l1_0.length : Int) := xO
          obtain ⟨ad185, e185, hx185_0⟩ := Kd.at_int HR1_0.out x49_2 p185 q185
          cases e185
          replace hx185_0 := xR HB hx185_0; replace p185 := eq_true p185; replace q185 := eq_true q185; have hcz31_0 := blkc11 BK182.out
          go_wp2
          go_ret
          exact ⟨xer, xW HB⟩
         ·rw [if_neg c29] at H
          have c29b0 := decide_eq_false c29
          clear c29
          have H' := xm H
          clear H
          have p185 : 0 ≤ (x49_2 : Int) := xO
          have q185 : x49_2 < (l1_0.length : Int) := xO
          obtain ⟨ad185, e185, hx185_0⟩ := Kd.at_int HR1_0.out x49_2 p185 q185
          cases e185
          replace hx185_0 := xR HB hx185_0; replace p185 := eq_true p185; replace q185 := eq_true q185; have hcz33_0 := blkc11 BK182.out
          go_wp2
          go_roundg k2
          case measure => have := HJ4.out; have := HK2.out; omega
          case rel => exact ⟨(wrap64 (x49_2 + 1)), (xrf), H', ⟨by have := HJ4.out; have := HK2.out; omega⟩, ⟨xK BK182⟩, ⟨xK BK183⟩, ⟨xW HB⟩⟩
       ·rw [if_neg c25] at H
        have c25b0 := decide_eq_false c25
        clear c25
        have H' := xm H
        clear H; have hcz35_0 := blkc5 BK183.out
        go_wp2
        go_loopg [66] k2 (fun kq vs66 w' => ∃ (x66_3 : Int), vs66 = .int .i64 x66_3 ∧ Aside0 (place_Check.l1 kq x66_3 l1_1 l1_2 l1_0 l1_1 l1_2 a1_3 a1_4 = some r) ∧ Aside0 (kq ≤ k2) ∧ Aside0 (w'.heap[gb182]? = some (.cells #[.string a0_0, .int .i64 a0_1, .int .i64 a0_2, (.slice A0_3 l0_3.length c0_3), (.slice A0_4 l0_4.length c0_4), .bool a0_5, .bool a0_6, (.slice A0_7 l0_7.length c0_7), .int .i64 a0_8, .int .i64 a0_9, .int .i64 a0_10] 26 (0, 0))) ∧ Aside0 (w'.heap[gb183]? = some (.cells #[(.slice A1_0 l1_0.length c1_0), (.slice A1_1 l1_1.length c1_1), (.slice A1_2 l1_2.length c1_2), .int .i64 a1_3, .int .i64 a1_4] 29 (0, 0))) ∧ Aside0 (Below w.heap.size w w'))
        case atStart => exact ⟨(0), (xrf), H', ⟨Nat.le_refl _⟩, ⟨xK BK182⟩, ⟨xK BK183⟩, ⟨xW HB⟩⟩
        case round =>
         clear H'; (try clear p1); (try clear q1); (try clear hx1); (try clear p2); (try clear p6); (try clear p18); (try clear q18); (try clear hx18); (try clear hx185_0); (try clear p185); (try clear q185)
         obtain ⟨x66_3, rfl, HA, HK3, BK182, BK183, HB⟩ := hrel
         cases gk with
         | zero => exact absurd HA.out (by simp [place_Check.l1])
         | succ k3 =>
          have H := HA.out; clear HA
          simp only [place_Check.l1] at H
          by_cases c36 : x66_3 < 2
          ·rw [if_pos c36] at H
           have c36b0 := decide_eq_true c36
           clear c36; have HC37 := xm H; clear H
           go_upto_region 14 with (fail)
           go_cut [9] (fun vs9 wc => ∃ (kq : Nat) (x9_36 : List Int) (Ar9 : Option Addr) (cr9 : Nat), vs9 = .slice Ar9 x9_36.length cr9 ∧ Aside0 (Kd.C (Kd.int .i64) w Ar9 x9_36.length x9_36) ∧ Aside0 (x9_36.length ≤ cr9) ∧ Aside0 (place_Check.j3 kq x9_36 x66_3 l1_1 l1_2 l1_0 l1_1 l1_2 a1_3 a1_4 = some r) ∧ Aside0 (kq ≤ k3) ∧ Aside0 (wc.heap[gb182]? = some (.cells #[.string a0_0, .int .i64 a0_1, .int .i64 a0_2, (.slice A0_3 l0_3.length c0_3), (.slice A0_4 l0_4.length c0_4), .bool a0_5, .bool a0_6, (.slice A0_7 l0_7.length c0_7), .int .i64 a0_8, .int .i64 a0_9, .int .i64 a0_10] 26 (0, 0))) ∧ Aside0 (wc.heap[gb183]? = some (.cells #[(.slice A1_0 l1_0.length c1_0), (.slice A1_1 l1_1.length c1_1), (.slice A1_2 l1_2.length c1_2), .int .i64 a1_3, .int .i64 a1_4] 29 (0, 0))) ∧ Aside0 (Below w.heap.size w wc))
           case first =>
            have H := HC37.out; clear HC37
            obtain ⟨c38b0, H⟩ := xJ H
            (first | rw [c38b0] | (simp only [i64_w, i32_w]; rw [c38b0]) | skip)
            by_cases c39 : x66_3 = 0
            ·rw [if_pos c39] at H
             have c39b0 := beq_iff_eq.mpr c39
             have c39b1 := bne_eq_false_iff_eq.mpr c39
             clear c39; obtain ⟨c40b, c40g, c40c, c40d⟩ := xar (x66_3 : Int) 0 0 2
             have c40i : ∀ (v0_ v1_ : Value) (w_ : World), (Instr.index 27 (.agg #[v0_, v1_]) (.int .i64 x66_3)).run Try.prog w_ = .ok v0_ w_ := by intro v0_ v1_ w_; have h0_ := c40b c40g; simp [Instr.index, asIntOf, part, isAgg, sizeOf, Try.underlying27, c40c, c40d, h0_] <;> simp [show Try.t23.size = 1 from rfl]
             have H' := xm H
             clear H
             go_wp2
             go_meet
             case rel => exact ⟨_, (l1_1), (A1_1), (c1_1), rfl, ⟨HR1_1.out⟩, ⟨HC1_1.out⟩, H', ⟨by have := HJ4.out; have := HK2.out; have := HK3.out; first | omega | exact Nat.le_refl _⟩, ⟨xK BK182⟩, ⟨xK BK183⟩, ⟨xW HB⟩⟩
            ·rw [if_neg c39] at H
             have c39b0 := beq_eq_false_iff_ne.mpr c39
             have c39b1 := bne_iff_ne.mpr c39
             obtain ⟨c41b, c41g, c41c, c41d⟩ := xar (x66_3 : Int) 1 1 2
             have c41i : ∀ (v0_ v1_ : Value) (w_ : World), (Instr.index 27 (.agg #[v0_, v1_]) (.int .i64 x66_3)).run Try.prog w_ = .ok v1_ w_ := by intro v0_ v1_ w_; have h0_ := c41b c41g; simp [Instr.index, asIntOf, part, isAgg, sizeOf, Try.underlying27, c41c, c41d, h0_] <;> simp [show Try.t23.size = 1 from rfl]
             have H' := xm H
             clear H
             go_wp2
             go_meet
             case rel => exact ⟨_, (l1_2), (A1_2), (c1_2), rfl, ⟨HR1_2.out⟩, ⟨HC1_2.out⟩, H', ⟨by have := HJ4.out; have := HK2.out; have := HK3.out; first | omega | exact Nat.le_refl _⟩, ⟨xK BK182⟩, ⟨xK BK183⟩, ⟨xW HB⟩⟩
           case rest =>
            clear HC37; (try clear p1); (try clear q1); (try clear hx1); (try clear p2); (try clear p6); (try clear p18); (try clear q18); (try clear hx18); (try clear hx185_0); (try clear p185); (try clear q185)
            obtain ⟨kq, x9_36, Ar9, cr9, rfl, HR_9, HC_9, HA, HJ36, BK182, BK183, HB⟩ := hcut
            cases kq with
            | zero => exact absurd HA.out (by simp [place_Check.j3])
            | succ kj36 =>
             have H := HA.out; clear HA
             simp only [place_Check.j3] at H
             have H' := xm H
             clear H
             go_wp2
             go_loopg [71] kj36 (fun kq vs71 w' => ∃ (x71_5 : Int), vs71 = .int .i64 x71_5 ∧ Aside0 (place_Check.l2 kq x66_3 x9_36 (x9_36.length : Int) x71_5 l1_1 l1_2 l1_0 l1_1 l1_2 a1_3 a1_4 = some r) ∧ Aside0 (kq ≤ kj36) ∧ Aside0 (w'.heap[gb182]? = some (.cells #[.string a0_0, .int .i64 a0_1, .int .i64 a0_2, (.slice A0_3 l0_3.length c0_3), (.slice A0_4 l0_4.length c0_4), .bool a0_5, .bool a0_6, (.slice A0_7 l0_7.length c0_7), .int .i64 a0_8, .int .i64 a0_9, .int .i64 a0_10] 26 (0, 0))) ∧ Aside0 (w'.heap[gb183]? = some (.cells #[(.slice A1_0 l1_0.length c1_0), (.slice A1_1 l1_1.length c1_1), (.slice A1_2 l1_2.length c1_2), .int .i64 a1_3, .int .i64 a1_4] 29 (0, 0))) ∧ Aside0 (Below w.heap.size w w'))
             case atStart => exact ⟨(0), (xrf), H', ⟨Nat.le_refl _⟩, ⟨xK BK182⟩, ⟨xK BK183⟩, ⟨xW HB⟩⟩
             case round =>
              clear H'; (try clear p1); (try clear q1); (try clear hx1); (try clear p2); (try clear p6); (try clear p18); (try clear q18); (try clear hx18); (try clear hx185_0); (try clear p185); (try clear q185)
              obtain ⟨x71_5, rfl, HA, HK5, BK182, BK183, HB⟩ := hrel
              cases gk with
              | zero => exact absurd HA.out (by simp [place_Check.l2])
              | succ k5 =>
               have H := HA.out; clear HA
               simp only [place_Check.l2] at H
               by_cases c42 : x71_5 < (x9_36.length : Int)
               ·rw [if_pos c42] at H
                have c42b0 := decide_eq_true c42
                clear c42
                obtain ⟨c43b0, H⟩ := xJ H
                obtain ⟨c44b0, H⟩ := xJ H
                by_cases c45 : (rd x9_36 x71_5) < 0
                ·rw [if_pos c45] at H
                 have c45b0 := decide_eq_true c45
                 clear c45
                 obtain rfl := Option.some.inj H
                 have p186 : 0 ≤ (x71_5 : Int) := xO
                 have q186 : x71_5 < (x9_36.length : Int) := xO
                 obtain ⟨ad186, e186, hx186_0⟩ := Kd.at_int HR_9.out x71_5 p186 q186
                 cases e186
                 replace hx186_0 := xR HB hx186_0; replace p186 := eq_true p186; replace q186 := eq_true q186
                 go_wp2
                 go_ret
                 exact ⟨xer, xW HB⟩
                ·rw [if_neg c45] at H
                 have c45b0 := decide_eq_false c45
                 clear c45
                 by_cases c46 : (rd x9_36 x71_5) > 1000
                 ·rw [if_pos c46] at H
                  have c46b0 := decide_eq_true c46
                  clear c46
                  obtain rfl := Option.some.inj H
                  have p186 : 0 ≤ (x71_5 : Int) := xO
                  have q186 : x71_5 < (x9_36.length : Int) := xO
                  obtain ⟨ad186, e186, hx186_0⟩ := Kd.at_int HR_9.out x71_5 p186 q186
                  cases e186
                  replace hx186_0 := xR HB hx186_0; replace p186 := eq_true p186; replace q186 := eq_true q186
                  go_wp2
                  go_ret
                  exact ⟨xer, xW HB⟩
                 ·rw [if_neg c46] at H
                  have c46b0 := decide_eq_false c46
                  clear c46
                  have H' := xm H
                  clear H
                  have p186 : 0 ≤ (x71_5 : Int) := xO
                  have q186 : x71_5 < (x9_36.length : Int) := xO
                  obtain ⟨ad186, e186, hx186_0⟩ := Kd.at_int HR_9.out x71_5 p186 q186
                  cases e186
                  replace hx186_0 := xR HB hx186_0; replace p186 := eq_true p186; replace q186 := eq_true q186
                  go_wp2
                  go_roundg k5
                  case measure => have := HJ4.out; have := HK2.out; have := HK3.out; have := HJ36.out; have := HK5.out; omega
                  case rel => exact ⟨(wrap64 (x71_5 + 1)), (xrf), H', ⟨by have := HJ4.out; have := HK2.out; have := HK3.out; have := HJ36.out; have := HK5.out; omega⟩, ⟨xK BK182⟩, ⟨xK BK183⟩, ⟨xW HB⟩⟩
               ·rw [if_neg c42] at H
                have c42b0 := decide_eq_false c42
                clear c42
                have H' := xm H
                clear H
                go_wp2
                go_roundg k5
                case measure => have := HJ4.out; have := HK2.out; have := HK3.out; have := HJ36.out; have := HK5.out; omega
                case rel => exact ⟨(wrap64 (x66_3 + 1)), (xrf), H', ⟨by have := HJ4.out; have := HK2.out; have := HK3.out; have := HJ36.out; have := HK5.out; omega⟩, ⟨xK BK182⟩, ⟨xK BK183⟩, ⟨xW HB⟩⟩
          ·rw [if_neg c36] at H
           have c36b0 := decide_eq_false c36
           clear c36
           by_cases c47 : a1_3 = 0
           ·rw [if_pos c47] at H
            have c47b0 := beq_iff_eq.mpr c47
            have c47b1 := bne_eq_false_iff_eq.mpr c47
            clear c47
            by_cases c48 : a1_4 < 0
            ·rw [if_pos c48] at H
             have c48b0 := decide_eq_true c48
             clear c48
             obtain rfl := Option.some.inj H
             have hcz50_0 := blkc5 BK183.out
             go_wp2
             go_ret
             exact ⟨xer, xW HB⟩
            ·rw [if_neg c48] at H
             have c48b0 := decide_eq_false c48
             clear c48
             by_cases c51 : a1_4 > 200
             ·rw [if_pos c51] at H
              have c51b0 := decide_eq_true c51
              clear c51
              obtain rfl := Option.some.inj H
              have hcz53_0 := blkc5 BK183.out
              go_wp2
              go_ret
              exact ⟨xer, xW HB⟩
             ·rw [if_neg c51] at H
              have c51b0 := decide_eq_false c51
              clear c51
              obtain rfl := Option.some.inj H
              have hcz55_0 := blkc5 BK183.out
              go_wp2
              go_ret
              exact ⟨xer, xW HB⟩
           ·rw [if_neg c47] at H
            have c47b0 := beq_eq_false_iff_ne.mpr c47
            have c47b1 := bne_iff_ne.mpr c47
            by_cases c56 : a1_3 = 1
            ·rw [if_pos c56] at H
             have c56b0 := beq_iff_eq.mpr c56
             have c56b1 := bne_eq_false_iff_eq.mpr c56
             clear c56
             by_cases c57 : a1_4 < 0
             ·rw [if_pos c57] at H
              have c57b0 := decide_eq_true c57
              clear c57
              obtain rfl := Option.some.inj H
              have hcz59_0 := blkc5 BK183.out
              go_wp2
              go_ret
              exact ⟨xer, xW HB⟩
             ·rw [if_neg c57] at H
              have c57b0 := decide_eq_false c57
              clear c57
              by_cases c60 : a1_4 > 200
              ·rw [if_pos c60] at H
               have c60b0 := decide_eq_true c60
               clear c60
               obtain rfl := Option.some.inj H
               have hcz62_0 := blkc5 BK183.out
               go_wp2
               go_ret
               exact ⟨xer, xW HB⟩
              ·rw [if_neg c60] at H
               have c60b0 := decide_eq_false c60
               clear c60
               obtain rfl := Option.some.inj H
               have hcz64_0 := blkc5 BK183.out
               go_wp2
               go_ret
               exact ⟨xer, xW HB⟩
            ·rw [if_neg c56] at H
             have c56b0 := beq_eq_false_iff_ne.mpr c56
             have c56b1 := bne_iff_ne.mpr c56
             obtain rfl := Option.some.inj H
             have hcz66_0 := blkc5 BK183.out
             go_wp2
             go_ret
             exact ⟨xer, xW HB⟩
 ·rw [if_neg c4] at H
  have c4b0 := beq_eq_false_iff_ne.mpr c4
  have c4b1 := bne_iff_ne.mpr c4
  obtain rfl := Option.some.inj H
  go_enter Try.func26, Try.ntmps26
  go_wp2_with (first | ((with_reducible refine gate_dst (N := 2) rfl ?_); (try (refine gate_guard (by rfl) ?_; dsimp only)); refine xG (cs := #[.string a0_0, .int .i64 a0_1, .int .i64 a0_2, .slice A0_3 l0_3.length c0_3, .slice A0_4 l0_4.length c0_4, .bool a0_5, .bool a0_6, .slice A0_7 l0_7.length c0_7, .int .i64 a0_8, .int .i64 a0_9, .int .i64 a0_10]) (t := 26) ?_; intro gb182 hg w67 hbox hb; have BK182 := xm (hbox); have GW182 := xm (xZ HB hg); have GE182 := xm (xZ HB hg); replace HB := xm (xS HB hb); clear hb hbox hg) | ((with_reducible refine gate_dst (N := 3) rfl ?_); (try (refine gate_guard (by rfl) ?_; dsimp only)); refine xG (cs := #[.slice A1_0 l1_0.length c1_0, .slice A1_1 l1_1.length c1_1, .slice A1_2 l1_2.length c1_2, .int .i64 a1_3, .int .i64 a1_4]) (t := 29) ?_; intro gb183 hg w68 hbox hb; have BK183 := xm (hbox); have GW183 := xm (xZ HB hg); have GE183 := xm (xZ HB hg); have NB182_183 := xm (xN BK182 hg); have NB183_182 := xm (xM BK182 hg); replace BK182 := xm (xB BK182 hb); replace HB := xm (xS HB hb); clear hb hbox hg; have hnb69 := NB182_183.out; have hnc69 := NB183_182.out; have hcz70_0 := blkc11 BK182.out) | ((with_reducible refine gate_callee (f := 42) rfl ?_); refine xL (some 13) Try.func42 #[.agg #[.string a0_0, .int .i64 a0_1, .int .i64 a0_2, .slice A0_3 l0_3.length c0_3, .slice A0_4 l0_4.length c0_4, .bool a0_5, .bool a0_6, .slice A0_7 l0_7.length c0_7, .int .i64 a0_8, .int .i64 a0_9, .int .i64 a0_10]] rfl ?_; (with_reducible refine (DA3.out _ ?sB).mono ?_); (case sB => exact xW HB); rintro e w71 ⟨rfl, hb⟩; refine ⟨_, rfl, ?_⟩; replace BK182 := xm (xB BK182 hb); replace BK183 := xm (xB BK183 hb); replace HB := xm (xS HB hb); (try clear hb); (try clear hb2); (try clear hk); (try clear hi)))
  go_ret
  exact ⟨xer, xW HB⟩

/-! ### zob_Mix: function 14 -/
def zob_Mix.f (a0 : Int) : Option (Int) := some (Go.bits .xor .u64 (IntKind.u64.wrap ((Go.bits .xor .u64 (IntKind.u64.wrap ((Go.bits .xor .u64 (IntKind.u64.wrap ((IntKind.u64.wrap ((IntKind.u64.wrap (a0)) + 1)) * 11400714819323198485)) ((IntKind.u64.wrap ((IntKind.u64.wrap ((IntKind.u64.wrap (a0)) + 1)) * 11400714819323198485)) / 1073741824)) * 13787848793156543929)) ((IntKind.u64.wrap ((Go.bits .xor .u64 (IntKind.u64.wrap ((IntKind.u64.wrap ((IntKind.u64.wrap (a0)) + 1)) * 11400714819323198485)) ((IntKind.u64.wrap ((IntKind.u64.wrap ((IntKind.u64.wrap (a0)) + 1)) * 11400714819323198485)) / 1073741824)) * 13787848793156543929)) / 134217728)) * 10723151780598845931)) ((IntKind.u64.wrap ((Go.bits .xor .u64 (IntKind.u64.wrap ((Go.bits .xor .u64 (IntKind.u64.wrap ((IntKind.u64.wrap ((IntKind.u64.wrap (a0)) + 1)) * 11400714819323198485)) ((IntKind.u64.wrap ((IntKind.u64.wrap ((IntKind.u64.wrap (a0)) + 1)) * 11400714819323198485)) / 1073741824)) * 13787848793156543929)) ((IntKind.u64.wrap ((Go.bits .xor .u64 (IntKind.u64.wrap ((IntKind.u64.wrap ((IntKind.u64.wrap (a0)) + 1)) * 11400714819323198485)) ((IntKind.u64.wrap ((IntKind.u64.wrap ((IntKind.u64.wrap (a0)) + 1)) * 11400714819323198485)) / 1073741824)) * 13787848793156543929)) / 134217728)) * 10723151780598845931)) / 2147483648))
theorem zob_Mix.calls (a0 : Int) (r : Int) (w : World) (h : zob_Mix.f a0 = some r) :
    Calls Try.prog 14 #[.int .i64 a0] w fun e w' => e = .returned (.int .u64 r) ∧ Drawn0 w w' := by
 have H : (some (Go.bits .xor .u64 (IntKind.u64.wrap ((Go.bits .xor .u64 (IntKind.u64.wrap ((Go.bits .xor .u64 (IntKind.u64.wrap ((IntKind.u64.wrap ((IntKind.u64.wrap (a0)) + 1)) * 11400714819323198485)) ((IntKind.u64.wrap ((IntKind.u64.wrap ((IntKind.u64.wrap (a0)) + 1)) * 11400714819323198485)) / 1073741824)) * 13787848793156543929)) ((IntKind.u64.wrap ((Go.bits .xor .u64 (IntKind.u64.wrap ((IntKind.u64.wrap ((IntKind.u64.wrap (a0)) + 1)) * 11400714819323198485)) ((IntKind.u64.wrap ((IntKind.u64.wrap ((IntKind.u64.wrap (a0)) + 1)) * 11400714819323198485)) / 1073741824)) * 13787848793156543929)) / 134217728)) * 10723151780598845931)) ((IntKind.u64.wrap ((Go.bits .xor .u64 (IntKind.u64.wrap ((Go.bits .xor .u64 (IntKind.u64.wrap ((IntKind.u64.wrap ((IntKind.u64.wrap (a0)) + 1)) * 11400714819323198485)) ((IntKind.u64.wrap ((IntKind.u64.wrap ((IntKind.u64.wrap (a0)) + 1)) * 11400714819323198485)) / 1073741824)) * 13787848793156543929)) ((IntKind.u64.wrap ((Go.bits .xor .u64 (IntKind.u64.wrap ((IntKind.u64.wrap ((IntKind.u64.wrap (a0)) + 1)) * 11400714819323198485)) ((IntKind.u64.wrap ((IntKind.u64.wrap ((IntKind.u64.wrap (a0)) + 1)) * 11400714819323198485)) / 1073741824)) * 13787848793156543929)) / 134217728)) * 10723151780598845931)) / 2147483648))) = some r := h
 clear h
 obtain rfl := Option.some.inj H
 go_enter Try.func14, Try.ntmps14
 go_wp2
 go_ret
 exact ⟨xrf, by repeat (first | exact Drawn0.refl _ | apply Drawn0.step)⟩

/-! ### zob_turn: function 48 -/
def zob_turn.f (a0 : Int) : Option (Int) := (zob_Mix.f 3000).bind fun t187 => (some (IntKind.u64.wrap ((IntKind.u64.wrap (a0)) * t187)))
theorem zob_turn.calls (a0 : Int) (r : Int) (w : World) (h : zob_turn.f a0 = some r) :
    Calls Try.prog 48 #[.int .i64 a0] w fun e w' => e = .returned (.int .u64 r) ∧ Drawn0 w w' := by
 have H : ((zob_Mix.f 3000).bind fun t187 => (some (IntKind.u64.wrap ((IntKind.u64.wrap (a0)) * t187)))) = some r := h
 clear h; replace H := Option.bind_eq_some_iff.mp H
 obtain ⟨t187, A20, H⟩ := H
 replace H : (some (IntKind.u64.wrap ((IntKind.u64.wrap (a0)) * t187))) = some r := H
 have A2 := xm A20; clear A20
 obtain rfl := Option.some.inj H
 go_enter Try.func48, Try.ntmps48
 go_wp2_with (first | ((with_reducible refine gate_callee (f := 14) rfl ?_); refine xL (some 5) Try.func14 #[.int .i64 3000] rfl ?_; (with_reducible refine (zob_Mix.calls 3000 t187 _ A2.out).mono ?_); rintro e w' ⟨rfl, ⟨nd, rfl⟩⟩; refine ⟨_, rfl, ?_⟩))
 go_ret
 exact ⟨xrf, by repeat (first | exact Drawn0.refl _ | apply Drawn0.step)⟩

/-! ### zob_square: function 49 -/
def zob_square.f (a0 : Int) (a1 : Int) : Option (Int) := if a1 = 0 then (some 0) else ((zob_Mix.f (wrap64 ((wrap64 (16 * a0)) + a1))).bind fun t188 => (some t188))
theorem zob_square.calls (a0 : Int) (a1 : Int) (r : Int) (w : World) (h : zob_square.f a0 a1 = some r) :
    Calls Try.prog 49 #[.int .i64 a0, .int .i64 a1] w fun e w' => e = .returned (.int .u64 r) ∧ Drawn0 w w' := by
 have H : (if a1 = 0 then (some 0) else ((zob_Mix.f (wrap64 ((wrap64 (16 * a0)) + a1))).bind fun t188 => (some t188))) = some r := h
 clear h
 by_cases c3 : a1 = 0
 ·rw [if_pos c3] at H
  have c3b0 := beq_iff_eq.mpr c3
  have c3b1 := bne_eq_false_iff_eq.mpr c3
  clear c3
  obtain rfl := Option.some.inj H
  go_enter Try.func49, Try.ntmps49
  go_wp2
  go_ret
  exact ⟨xrf, by repeat (first | exact Drawn0.refl _ | apply Drawn0.step)⟩
 ·rw [if_neg c3] at H
  have c3b0 := beq_eq_false_iff_ne.mpr c3
  have c3b1 := bne_iff_ne.mpr c3
  replace H := Option.bind_eq_some_iff.mp H
  obtain ⟨t188, A40, H⟩ := H
  replace H : (some t188) = some r := H
  have A4 := xm A40; clear A40
  obtain rfl := Option.some.inj H
  go_enter Try.func49, Try.ntmps49
  go_wp2_with (first | ((with_reducible refine gate_callee (f := 14) rfl ?_); refine xL (some 11) Try.func14 #[.int .i64 (wrap64 ((wrap64 (16 * a0)) + a1))] rfl ?_; (with_reducible refine (zob_Mix.calls (wrap64 ((wrap64 (16 * a0)) + a1)) t188 _ A4.out).mono ?_); rintro e w' ⟨rfl, ⟨nd, rfl⟩⟩; refine ⟨_, rfl, ?_⟩))
  go_ret
  exact ⟨xrf, by repeat (first | exact Drawn0.refl _ | apply Drawn0.step)⟩

/-! ### zob_held: function 50 -/
def zob_held.f (a0 : Int) (a1 : Int) (a2 : Int) : Option (Int) := (zob_Mix.f (wrap64 ((wrap64 (2000 + (wrap64 (8 * a0)))) + a1))).bind fun t189 => (some (IntKind.u64.wrap ((IntKind.u64.wrap (a2)) * t189)))
theorem zob_held.calls (a0 : Int) (a1 : Int) (a2 : Int) (r : Int) (w : World) (h : zob_held.f a0 a1 a2 = some r) :
    Calls Try.prog 50 #[.int .i64 a0, .int .i64 a1, .int .i64 a2] w fun e w' => e = .returned (.int .u64 r) ∧ Drawn0 w w' := by
 have H : ((zob_Mix.f (wrap64 ((wrap64 (2000 + (wrap64 (8 * a0)))) + a1))).bind fun t189 => (some (IntKind.u64.wrap ((IntKind.u64.wrap (a2)) * t189)))) = some r := h
 clear h; replace H := Option.bind_eq_some_iff.mp H
 obtain ⟨t189, A40, H⟩ := H
 replace H : (some (IntKind.u64.wrap ((IntKind.u64.wrap (a2)) * t189))) = some r := H
 have A4 := xm A40; clear A40
 obtain rfl := Option.some.inj H
 go_enter Try.func50, Try.ntmps50
 go_wp2_with (first | ((with_reducible refine gate_callee (f := 14) rfl ?_); refine xL (some 14) Try.func14 #[.int .i64 (wrap64 ((wrap64 (2000 + (wrap64 (8 * a0)))) + a1))] rfl ?_; (with_reducible refine (zob_Mix.calls (wrap64 ((wrap64 (2000 + (wrap64 (8 * a0)))) + a1)) t189 _ A4.out).mono ?_); rintro e w' ⟨rfl, ⟨nd, rfl⟩⟩; refine ⟨_, rfl, ?_⟩))
 go_ret
 exact ⟨xrf, by repeat (first | exact Drawn0.refl _ | apply Drawn0.step)⟩

/-! ### zob_Of: function 32 -/
mutual
def zob_Of.l0 : Nat → Int → List Int → Int → Int → List Int → List Int → List Int → Int → Int → Option (Int)
  | 0, _, _, _, _, _, _, _, _, _ => none
  | k + 1, x3, x14, x15, x16, z191a, z191b, z191c, z191d, z191e => if x16 < x15 then (if 0 ≤ x16 then (if x16 < (x14.length : Int) then ((zob_square.f x16 (rd x14 x16)).bind fun t193 => (zob_Of.l0 k (IntKind.u64.wrap (x3 + t193)) x14 x15 (wrap64 (x16 + 1)) z191a z191b z191c z191d z191e)) else (none)) else (none)) else (zob_Of.l1 k x3 0 z191b z191c)
def zob_Of.l1 : Nat → Int → Int → List Int → List Int → Option (Int)
  | 0, _, _, _, _ => none
  | k + 1, x3, x29, x49, x50 => if x29 < 2 then (if 0 ≤ x29 then (if x29 = 0 then (zob_Of.j2 k x3 x29 x49 x29 x49 x50) else (zob_Of.j2 k x3 x29 x50 x29 x49 x50)) else (none)) else (some x3)
def zob_Of.j2 : Nat → Int → Int → List Int → Int → List Int → List Int → Option (Int)
  | 0, _, _, _, _, _, _ => none
  | k + 1, x3, x6, x7, x29, x49, x50 => zob_Of.l2 k x3 x6 x29 x7 (x7.length : Int) 0 x49 x50
def zob_Of.l2 : Nat → Int → Int → Int → List Int → Int → Int → List Int → List Int → Option (Int)
  | 0, _, _, _, _, _, _, _, _ => none
  | k + 1, x3, x6, x29, x33, x34, x35, x49, x50 => if x35 < x34 then (if 0 ≤ x35 then (if x35 < (x33.length : Int) then ((zob_held.f x6 x35 (rd x33 x35)).bind fun t195 => (zob_Of.l2 k (IntKind.u64.wrap (x3 + t195)) x6 x29 x33 x34 (wrap64 (x35 + 1)) x49 x50)) else (none)) else (none)) else (zob_Of.l1 k x3 (wrap64 (x29 + 1)) x49 x50)
end
def zob_Of.f (k : Nat) (l0_0 : List Int) (l0_1 : List Int) (l0_2 : List Int) (a0_3 : Int) (a0_4 : Int) : Option (Int) := (zob_turn.f a0_3).bind fun t191 => (zob_Of.l0 k t191 l0_0 (l0_0.length : Int) 0 l0_0 l0_1 l0_2 a0_3 a0_4)
theorem zob_Of.mono_l : ∀ k, L5 (LM (LM (LM (LM (LeO))))) (zob_Of.l0 k) (zob_Of.l0 (k + 1)) ∧ LM (LM (LM (LM (LeO)))) (zob_Of.l1 k) (zob_Of.l1 (k + 1)) ∧ L5 (LM (LeO)) (zob_Of.j2 k) (zob_Of.j2 (k + 1)) ∧ L5 (LM (LM (LM (LeO)))) (zob_Of.l2 k) (zob_Of.l2 (k + 1))
  | 0 => by refine ⟨?_, ?_, ?_, ?_⟩ <;> (repeat (first | exact LeO.none _ | intro _))
  | k + 1 => by
    obtain ⟨ih0, ih1, ih2, ih3⟩ := zob_Of.mono_l k
    refine ⟨?_, ?_, ?_, ?_⟩ <;> ((repeat (first | (with_reducible refine LeO.st ?_) | intro _)); constructor; (first | unfold zob_Of.l0 | unfold zob_Of.l1 | unfold zob_Of.j2 | unfold zob_Of.l2); repeat' first | (with_reducible first | apply ih0 | apply ih1 | apply ih2 | apply ih3 | exact LeO.refl _ | exact LeO.none _ | refine LeO.ite ?_ ?_ | refine LeO.bind ?_ (fun _ => ?_)) | apply ih0 | apply ih1 | apply ih2 | apply ih3 | exact LeO.none _ | refine LeO.ite ?_ ?_ | refine LeO.bind ?_ (fun _ => ?_))
theorem zob_Of.mono : ∀ a0 a1 a2 a3 a4 k, LeO (zob_Of.f k a0 a1 a2 a3 a4) (zob_Of.f (k + 1) a0 a1 a2 a3 a4) := by
  intros; rename_i k
  obtain ⟨ih0, ih1, ih2, ih3⟩ := zob_Of.mono_l k
  unfold zob_Of.f
  repeat' first | (with_reducible first | apply ih0 | apply ih1 | apply ih2 | apply ih3 | exact LeO.refl _ | exact LeO.none _ | refine LeO.ite ?_ ?_ | refine LeO.bind ?_ (fun _ => ?_)) | apply ih0 | apply ih1 | apply ih2 | apply ih3 | exact LeO.none _ | refine LeO.ite ?_ ?_ | refine LeO.bind ?_ (fun _ => ?_)
theorem zob_Of.calls (k : Nat) (A0_0 : Option Addr) (c0_0 : Nat) (l0_0 : List Int) (A0_1 : Option Addr) (c0_1 : Nat) (l0_1 : List Int) (A0_2 : Option Addr) (c0_2 : Nat) (l0_2 : List Int) (a0_3 : Int) (a0_4 : Int) (r : Int) (w : World) (hr0_0 : Kd.C (Kd.int .i64) w A0_0 l0_0.length l0_0) (hc0_0 : l0_0.length ≤ c0_0) (hr0_1 : Kd.C (Kd.int .i64) w A0_1 l0_1.length l0_1) (hc0_1 : l0_1.length ≤ c0_1) (hr0_2 : Kd.C (Kd.int .i64) w A0_2 l0_2.length l0_2) (hc0_2 : l0_2.length ≤ c0_2) (h : zob_Of.f k l0_0 l0_1 l0_2 a0_3 a0_4 = some r) :
    Calls Try.prog 32 #[.agg #[.slice A0_0 l0_0.length c0_0, .slice A0_1 l0_1.length c0_1, .slice A0_2 l0_2.length c0_2, .int .i64 a0_3, .int .i64 a0_4]] w fun e w' => e = .returned (.int .u64 r) ∧ Below w.heap.size w w' := by
 have hu29 := Try.underlying29; have hu27 := Try.underlying27; have HR0_0 := xm hr0_0; have HC0_0 := xm hc0_0; clear hr0_0 hc0_0; have HR0_1 := xm hr0_1; have HC0_1 := xm hc0_1; clear hr0_1 hc0_1; have HR0_2 := xm hr0_2; have HC0_2 := xm hc0_2; clear hr0_2 hc0_2; have HB := xm (Below.refl w.heap.size w); have hss_ := @isSome_setCell
 have H : ((zob_turn.f a0_3).bind fun t191 => (zob_Of.l0 k t191 l0_0 (l0_0.length : Int) 0 l0_0 l0_1 l0_2 a0_3 a0_4)) = some r := h
 clear h; replace H := Option.bind_eq_some_iff.mp H
 obtain ⟨t191, A20, H⟩ := H
 replace H : (zob_Of.l0 k t191 l0_0 (l0_0.length : Int) 0 l0_0 l0_1 l0_2 a0_3 a0_4) = some r := H
 have A2 := xm A20; clear A20
 have H' := xm H
 clear H
 go_enter Try.func32, Try.ntmps32
 go_wp2_with (first | ((with_reducible refine gate_dst (N := 1) rfl ?_); refine xG (cs := #[.slice A0_0 l0_0.length c0_0, .slice A0_1 l0_1.length c0_1, .slice A0_2 l0_2.length c0_2, .int .i64 a0_3, .int .i64 a0_4]) (t := 29) ?_; intro gb190 hg w3 hbox hb; have BK190 := xm (hbox); have GW190 := xm (xZ HB hg); have GE190 := xm (xZ HB hg); replace HB := xm (xS HB hb); clear hb hbox hg; have hcz4_0 := blkc5 BK190.out) | ((with_reducible refine gate_callee (f := 48) rfl ?_); refine xL (some 12) Try.func48 #[.int .i64 a0_3] rfl ?_; (with_reducible refine (zob_turn.calls a0_3 t191 _ A2.out).mono ?_); rintro e w' ⟨rfl, ⟨nd, rfl⟩⟩; refine ⟨_, rfl, ?_⟩))
 go_loopg [3, 16] k (fun kq vs3 vs16 w' => ∃ (x3_1 : Int) (x16_1 : Int), vs3 = .int .u64 x3_1 ∧ vs16 = .int .i64 x16_1 ∧ Aside0 (zob_Of.l0 kq x3_1 l0_0 (l0_0.length : Int) x16_1 l0_0 l0_1 l0_2 a0_3 a0_4 = some r) ∧ Aside0 (kq ≤ k) ∧ Aside0 (w'.heap[gb190]? = some (.cells #[(.slice A0_0 l0_0.length c0_0), (.slice A0_1 l0_1.length c0_1), (.slice A0_2 l0_2.length c0_2), .int .i64 a0_3, .int .i64 a0_4] 29 (0, 0))) ∧ Aside0 (Below w.heap.size w w'))
 case atStart => exact ⟨(t191), (0), (xrf), (xrf), H', ⟨Nat.le_refl _⟩, ⟨xK BK190⟩, ⟨xW HB⟩⟩
 case round =>
  clear H'; (try clear p2)
  obtain ⟨x3_1, x16_1, rfl, rfl, HA, HK1, BK190, HB⟩ := hrel
  cases gk with
  | zero => exact absurd HA.out (by simp [zob_Of.l0])
  | succ k1 =>
   have H := HA.out; clear HA
   simp only [zob_Of.l0] at H
   by_cases c5 : x16_1 < (l0_0.length : Int)
   ·rw [if_pos c5] at H
    have c5b0 := decide_eq_true c5
    clear c5
    obtain ⟨c6b0, H⟩ := xJ H
    obtain ⟨c7b0, H⟩ := xJ H
    obtain ⟨t193, A8, H⟩ := xH H
    (try dsimp only at H)
    have H' := xm H
    clear H
    have p192 : 0 ≤ (x16_1 : Int) := xO
    have q192 : x16_1 < (l0_0.length : Int) := xO
    obtain ⟨ad192, e192, hx192_0⟩ := Kd.at_int HR0_0.out x16_1 p192 q192
    cases e192
    replace hx192_0 := xR HB hx192_0; replace p192 := eq_true p192; replace q192 := eq_true q192
    go_wp2_with (first | ((with_reducible refine gate_callee (f := 49) rfl ?_); refine xL (some 24) Try.func49 #[.int .i64 x16_1, .int .i64 (rd l0_0 x16_1)] rfl ?_; (with_reducible refine (zob_square.calls x16_1 (rd l0_0 x16_1) t193 _ A8.out).mono ?_); rintro e w' ⟨rfl, ⟨nd, rfl⟩⟩; refine ⟨_, rfl, ?_⟩))
    go_roundg k1
    case measure => have := HK1.out; omega
    case rel => exact ⟨(IntKind.u64.wrap (x3_1 + t193)), (wrap64 (x16_1 + 1)), (xrf), (xrf), H', ⟨by have := HK1.out; omega⟩, ⟨xK BK190⟩, ⟨xW HB⟩⟩
   ·rw [if_neg c5] at H
    have c5b0 := decide_eq_false c5
    clear c5
    have H' := xm H
    clear H; have hcz9_0 := blkc5 BK190.out
    go_wp2
    go_loopg [3, 29] k1 (fun kq vs3 vs29 w' => ∃ (x3_2 : Int) (x29_2 : Int), vs3 = .int .u64 x3_2 ∧ vs29 = .int .i64 x29_2 ∧ Aside0 (zob_Of.l1 kq x3_2 x29_2 l0_1 l0_2 = some r) ∧ Aside0 (kq ≤ k1) ∧ Aside0 (w'.heap[gb190]? = some (.cells #[(.slice A0_0 l0_0.length c0_0), (.slice A0_1 l0_1.length c0_1), (.slice A0_2 l0_2.length c0_2), .int .i64 a0_3, .int .i64 a0_4] 29 (0, 0))) ∧ Aside0 (Below w.heap.size w w'))
    case atStart => exact ⟨(x3_1), (0), (xrf), (xrf), H', ⟨Nat.le_refl _⟩, ⟨xK BK190⟩, ⟨xW HB⟩⟩
    case round =>
     clear H'; (try clear p1); (try clear q1); (try clear hx1); (try clear p2); (try clear p6); (try clear hx192_0); (try clear p192); (try clear q192)
     obtain ⟨x3_2, x29_2, rfl, rfl, HA, HK2, BK190, HB⟩ := hrel
     cases gk with
     | zero => exact absurd HA.out (by simp [zob_Of.l1])
     | succ k2 =>
      have H := HA.out; clear HA
      simp only [zob_Of.l1] at H
      by_cases c10 : x29_2 < 2
      ·rw [if_pos c10] at H
       have c10b0 := decide_eq_true c10
       clear c10; have HC11 := xm H; clear H
       go_upto_region 9 with (fail)
       go_cut [6, 7] (fun vs6 vs7 wc => ∃ (kq : Nat) (x6_10 : Int) (x7_10 : List Int) (Ar7 : Option Addr) (cr7 : Nat), vs6 = .int .i64 x6_10 ∧ vs7 = .slice Ar7 x7_10.length cr7 ∧ Aside0 (Kd.C (Kd.int .i64) w Ar7 x7_10.length x7_10) ∧ Aside0 (x7_10.length ≤ cr7) ∧ Aside0 (zob_Of.j2 kq x3_2 x6_10 x7_10 x29_2 l0_1 l0_2 = some r) ∧ Aside0 (kq ≤ k2) ∧ Aside0 (wc.heap[gb190]? = some (.cells #[(.slice A0_0 l0_0.length c0_0), (.slice A0_1 l0_1.length c0_1), (.slice A0_2 l0_2.length c0_2), .int .i64 a0_3, .int .i64 a0_4] 29 (0, 0))) ∧ Aside0 (Below w.heap.size w wc))
       case first =>
        have H := HC11.out; clear HC11
        obtain ⟨c12b0, H⟩ := xJ H
        (first | rw [c12b0] | (simp only [i64_w, i32_w]; rw [c12b0]) | skip)
        by_cases c13 : x29_2 = 0
        ·rw [if_pos c13] at H
         have c13b0 := beq_iff_eq.mpr c13
         have c13b1 := bne_eq_false_iff_eq.mpr c13
         clear c13; obtain ⟨c14b, c14g, c14c, c14d⟩ := xar (x29_2 : Int) 0 0 2
         have c14i : ∀ (v0_ v1_ : Value) (w_ : World), (Instr.index 27 (.agg #[v0_, v1_]) (.int .i64 x29_2)).run Try.prog w_ = .ok v0_ w_ := by intro v0_ v1_ w_; have h0_ := c14b c14g; simp [Instr.index, asIntOf, part, isAgg, sizeOf, Try.underlying27, c14c, c14d, h0_] <;> simp [show Try.t23.size = 1 from rfl]
         have H' := xm H
         clear H
         go_wp2
         go_meet
         case rel => exact ⟨_, (x29_2), (l0_1), (A0_1), (c0_1), (xrf), rfl, ⟨HR0_1.out⟩, ⟨HC0_1.out⟩, H', ⟨by have := HK1.out; have := HK2.out; first | omega | exact Nat.le_refl _⟩, ⟨xK BK190⟩, ⟨xW HB⟩⟩
        ·rw [if_neg c13] at H
         have c13b0 := beq_eq_false_iff_ne.mpr c13
         have c13b1 := bne_iff_ne.mpr c13
         obtain ⟨c15b, c15g, c15c, c15d⟩ := xar (x29_2 : Int) 1 1 2
         have c15i : ∀ (v0_ v1_ : Value) (w_ : World), (Instr.index 27 (.agg #[v0_, v1_]) (.int .i64 x29_2)).run Try.prog w_ = .ok v1_ w_ := by intro v0_ v1_ w_; have h0_ := c15b c15g; simp [Instr.index, asIntOf, part, isAgg, sizeOf, Try.underlying27, c15c, c15d, h0_] <;> simp [show Try.t23.size = 1 from rfl]
         have H' := xm H
         clear H
         go_wp2
         go_meet
         case rel => exact ⟨_, (x29_2), (l0_2), (A0_2), (c0_2), (xrf), rfl, ⟨HR0_2.out⟩, ⟨HC0_2.out⟩, H', ⟨by have := HK1.out; have := HK2.out; first | omega | exact Nat.le_refl _⟩, ⟨xK BK190⟩, ⟨xW HB⟩⟩
       case rest =>
        clear HC11; (try clear p1); (try clear q1); (try clear hx1); (try clear p2); (try clear p6); (try clear hx192_0); (try clear p192); (try clear q192)
        obtain ⟨kq, x6_10, x7_10, Ar7, cr7, rfl, rfl, HR_7, HC_7, HA, HJ10, BK190, HB⟩ := hcut
        cases kq with
        | zero => exact absurd HA.out (by simp [zob_Of.j2])
        | succ kj10 =>
         have H := HA.out; clear HA
         simp only [zob_Of.j2] at H
         have H' := xm H
         clear H
         go_wp2
         go_loopg [3, 35] kj10 (fun kq vs3 vs35 w' => ∃ (x3_4 : Int) (x35_4 : Int), vs3 = .int .u64 x3_4 ∧ vs35 = .int .i64 x35_4 ∧ Aside0 (zob_Of.l2 kq x3_4 x6_10 x29_2 x7_10 (x7_10.length : Int) x35_4 l0_1 l0_2 = some r) ∧ Aside0 (kq ≤ kj10) ∧ Aside0 (w'.heap[gb190]? = some (.cells #[(.slice A0_0 l0_0.length c0_0), (.slice A0_1 l0_1.length c0_1), (.slice A0_2 l0_2.length c0_2), .int .i64 a0_3, .int .i64 a0_4] 29 (0, 0))) ∧ Aside0 (Below w.heap.size w w'))
         case atStart => exact ⟨(x3_2), (0), (xrf), (xrf), H', ⟨Nat.le_refl _⟩, ⟨xK BK190⟩, ⟨xW HB⟩⟩
         case round =>
          clear H'; (try clear p1); (try clear q1); (try clear hx1); (try clear p2); (try clear p6); (try clear hx192_0); (try clear p192); (try clear q192)
          obtain ⟨x3_4, x35_4, rfl, rfl, HA, HK4, BK190, HB⟩ := hrel
          cases gk with
          | zero => exact absurd HA.out (by simp [zob_Of.l2])
          | succ k4 =>
           have H := HA.out; clear HA
           simp only [zob_Of.l2] at H
           by_cases c16 : x35_4 < (x7_10.length : Int)
           ·rw [if_pos c16] at H
            have c16b0 := decide_eq_true c16
            clear c16
            obtain ⟨c17b0, H⟩ := xJ H
            obtain ⟨c18b0, H⟩ := xJ H
            obtain ⟨t195, A19, H⟩ := xH H
            (try dsimp only at H)
            have H' := xm H
            clear H
            have p194 : 0 ≤ (x35_4 : Int) := xO
            have q194 : x35_4 < (x7_10.length : Int) := xO
            obtain ⟨ad194, e194, hx194_0⟩ := Kd.at_int HR_7.out x35_4 p194 q194
            cases e194
            replace hx194_0 := xR HB hx194_0; replace p194 := eq_true p194; replace q194 := eq_true q194
            go_wp2_with (first | ((with_reducible refine gate_callee (f := 50) rfl ?_); refine xL (some 44) Try.func50 #[.int .i64 x6_10, .int .i64 x35_4, .int .i64 (rd x7_10 x35_4)] rfl ?_; (with_reducible refine (zob_held.calls x6_10 x35_4 (rd x7_10 x35_4) t195 _ A19.out).mono ?_); rintro e w' ⟨rfl, ⟨nd, rfl⟩⟩; refine ⟨_, rfl, ?_⟩))
            go_roundg k4
            case measure => have := HK1.out; have := HK2.out; have := HJ10.out; have := HK4.out; omega
            case rel => exact ⟨(IntKind.u64.wrap (x3_4 + t195)), (wrap64 (x35_4 + 1)), (xrf), (xrf), H', ⟨by have := HK1.out; have := HK2.out; have := HJ10.out; have := HK4.out; omega⟩, ⟨xK BK190⟩, ⟨xW HB⟩⟩
           ·rw [if_neg c16] at H
            have c16b0 := decide_eq_false c16
            clear c16
            have H' := xm H
            clear H
            go_wp2
            go_roundg k4
            case measure => have := HK1.out; have := HK2.out; have := HJ10.out; have := HK4.out; omega
            case rel => exact ⟨(x3_4), (wrap64 (x29_2 + 1)), (xrf), (xrf), H', ⟨by have := HK1.out; have := HK2.out; have := HJ10.out; have := HK4.out; omega⟩, ⟨xK BK190⟩, ⟨xW HB⟩⟩
      ·rw [if_neg c10] at H
       have c10b0 := decide_eq_false c10
       clear c10
       obtain rfl := Option.some.inj H
       go_wp2
       go_ret
       exact ⟨xer, xW HB⟩

end Go.Proofs.Ytloadbbndnmdlaa.PZobKeys
