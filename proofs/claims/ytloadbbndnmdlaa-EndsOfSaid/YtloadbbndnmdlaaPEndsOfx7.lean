-- Printed by a program of this claim's writer (wip/ext): an extension of the kit's print.
import Derived.Test.YtloadbbndnmdlaaPEndsOfx0
import Derived.Test.YtloadbbndnmdlaaPEndsOfx4
import Derived.Test.YtloadbbndnmdlaaPEndsOfx6
namespace Go.Proofs.Ytloadbbndnmdlaa.PEndsOf
open Go.RowKit Go.Proofs.YtloadbbndnmdlaaW.PrintWords Go.Proofs.YtloadbbndnmdlaaW.PrintLast Go.Proofs.YtloadbbndnmdlaaW.PrintMore
set_option maxHeartbeats 8000000
set_option maxRecDepth 100000
attribute [local go_sem] max2_int min2_int max_two min_two max_three min_three max_four min_four   -- for this text's walks alone
set_option linter.unusedVariables false
set_option linter.unusedSimpArgs false

/-! ### ends_holds: function 43 -/
mutual
def ends_holds.l0 : Nat → Int → List Int → Int → Int → ByteArray → Int → Int → List (S62) → List Int → Bool → Bool → List (S64) → Int → Int → Int → Int → Int → Int → Bool → Option (Bool)
  | 0, _, _, _, _, _, _, _, _, _, _, _, _, _, _, _, _, _, _, _ => none
  | k + 1, x7, x29, x30, x31, z179a, z179b, z179c, z179d, z179e, z179f, z179g, z179h, z179i, z179j, z179k, z181a, z181b, z181c, z181d => if x31 < x30 then (if 0 ≤ x31 then (if x31 < (x29.length : Int) then ((moves_Cell.f z181b x7).bind fun t183 => (if (rd x29 x31) = t183 then ((rules_Far.f z179a z179b z179c z179d z179e z179f z179g z179h z179i z179j z179k x7 x31).bind fun t184 => (if t184 = true then (some true) else (ends_holds.l0 k x7 x29 x30 (wrap64 (x31 + 1)) z179a z179b z179c z179d z179e z179f z179g z179h z179i z179j z179k z181a z181b z181c z181d))) else (ends_holds.l0 k x7 x29 x30 (wrap64 (x31 + 1)) z179a z179b z179c z179d z179e z179f z179g z179h z179i z179j z179k z181a z181b z181c z181d))) else (none)) else (none)) else (some false)
def ends_holds.l1 : Nat → Int → List Int → Int → Int → List Int → List Int → List Int → Int → Int → Int → Int → Int → Bool → Option (Bool)
  | 0, _, _, _, _, _, _, _, _, _, _, _, _, _ => none
  | k + 1, x10, x50, x51, x52, z180a, z180b, z180c, z180d, z180e, z181a, z181b, z181c, z181d => if x52 < x51 then (if 0 ≤ x52 then (if x52 < (x50.length : Int) then ((moves_Cell.f z181b z180d).bind fun t186 => (if (rd x50 x52) = t186 then (ends_holds.l1 k (wrap64 (x10 + 1)) x50 x51 (wrap64 (x52 + 1)) z180a z180b z180c z180d z180e z181a z181b z181c z181d) else (ends_holds.l1 k x10 x50 x51 (wrap64 (x52 + 1)) z180a z180b z180c z180d z180e z181a z181b z181c z181d))) else (none)) else (none)) else (some (decide (x10 < z181c)))
end
def ends_holds.f (k : Nat) (a0_0 : ByteArray) (a0_1 : Int) (a0_2 : Int) (l0_3 : List (S62)) (l0_4 : List Int) (a0_5 : Bool) (a0_6 : Bool) (l0_7 : List (S64)) (a0_8 : Int) (a0_9 : Int) (a0_10 : Int) (l1_0 : List Int) (l1_1 : List Int) (l1_2 : List Int) (a1_3 : Int) (a1_4 : Int) (a2_0 : Int) (a2_1 : Int) (a2_2 : Int) (a2_3 : Bool) : Option (Bool) := if a2_0 = 0 then ((ends_row.f k a0_0 a0_1 a0_2 l0_3 l0_4 a0_5 a0_6 l0_7 a0_8 a0_9 a0_10 l1_0 l1_1 l1_2 a1_3 a1_4 (wrap64 (1 - a1_3)) a2_2).bind fun t181 => (some t181)) else (if a2_0 = 1 then (ends_holds.l0 k (wrap64 (1 - a1_3)) l1_0 (l1_0.length : Int) 0 a0_0 a0_1 a0_2 l0_3 l0_4 a0_5 a0_6 l0_7 a0_8 a0_9 a0_10 a2_0 a2_1 a2_2 a2_3) else (ends_holds.l1 k 0 l1_0 (l1_0.length : Int) 0 l1_0 l1_1 l1_2 a1_3 a1_4 a2_0 a2_1 a2_2 a2_3))
theorem ends_holds.mono_l : ∀ k, L10 (L5 (LM (LM (LM (LM (LeO)))))) (ends_holds.l0 k) (ends_holds.l0 (k + 1)) ∧ L10 (LM (LM (LM (LeO)))) (ends_holds.l1 k) (ends_holds.l1 (k + 1))
  | 0 => by refine ⟨?_, ?_⟩ <;> (repeat (first | exact LeO.none _ | intro _))
  | k + 1 => by
    obtain ⟨ih0, ih1⟩ := ends_holds.mono_l k
    refine ⟨?_, ?_⟩ <;> ((repeat (first | (with_reducible refine LeO.st ?_) | intro _)); constructor; (first | unfold ends_holds.l0 | unfold ends_holds.l1); repeat' first | (with_reducible first | apply ih0 | apply ih1 | apply ends_row.mono | exact LeO.refl _ | exact LeO.none _ | refine LeO.ite ?_ ?_ | refine LeO.bind ?_ (fun _ => ?_)) | apply ih0 | apply ih1 | apply ends_row.mono | exact LeO.none _ | refine LeO.ite ?_ ?_ | refine LeO.bind ?_ (fun _ => ?_))
theorem ends_holds.mono : ∀ a0 a1 a2 a3 a4 a5 a6 a7 a8 a9 a10 a11 a12 a13 a14 a15 a16 a17 a18 a19 k, LeO (ends_holds.f k a0 a1 a2 a3 a4 a5 a6 a7 a8 a9 a10 a11 a12 a13 a14 a15 a16 a17 a18 a19) (ends_holds.f (k + 1) a0 a1 a2 a3 a4 a5 a6 a7 a8 a9 a10 a11 a12 a13 a14 a15 a16 a17 a18 a19) := by
  intros; rename_i k
  obtain ⟨ih0, ih1⟩ := ends_holds.mono_l k
  unfold ends_holds.f
  repeat' first | (with_reducible first | apply ih0 | apply ih1 | apply ends_row.mono | exact LeO.refl _ | exact LeO.none _ | refine LeO.ite ?_ ?_ | refine LeO.bind ?_ (fun _ => ?_)) | apply ih0 | apply ih1 | apply ends_row.mono | exact LeO.none _ | refine LeO.ite ?_ ?_ | refine LeO.bind ?_ (fun _ => ?_)
theorem ends_holds.calls (k : Nat) (a0_0 : ByteArray) (a0_1 : Int) (a0_2 : Int) (A0_3 : Option Addr) (c0_3 : Nat) (l0_3 : List (S62)) (A0_4 : Option Addr) (c0_4 : Nat) (l0_4 : List Int) (a0_5 : Bool) (a0_6 : Bool) (A0_7 : Option Addr) (c0_7 : Nat) (l0_7 : List (S64)) (a0_8 : Int) (a0_9 : Int) (a0_10 : Int) (A1_0 : Option Addr) (c1_0 : Nat) (l1_0 : List Int) (A1_1 : Option Addr) (c1_1 : Nat) (l1_1 : List Int) (A1_2 : Option Addr) (c1_2 : Nat) (l1_2 : List Int) (a1_3 : Int) (a1_4 : Int) (a2_0 : Int) (a2_1 : Int) (a2_2 : Int) (a2_3 : Bool) (r : Bool) (w : World) (hr0_3 : Kd.C k62 w A0_3 l0_3.length l0_3) (hc0_3 : l0_3.length ≤ c0_3) (hr0_4 : Kd.C (Kd.int .i64) w A0_4 l0_4.length l0_4) (hc0_4 : l0_4.length ≤ c0_4) (hr0_7 : Kd.C k64 w A0_7 l0_7.length l0_7) (hc0_7 : l0_7.length ≤ c0_7) (hr1_0 : Kd.C (Kd.int .i64) w A1_0 l1_0.length l1_0) (hc1_0 : l1_0.length ≤ c1_0) (hr1_1 : Kd.C (Kd.int .i64) w A1_1 l1_1.length l1_1) (hc1_1 : l1_1.length ≤ c1_1) (hr1_2 : Kd.C (Kd.int .i64) w A1_2 l1_2.length l1_2) (hc1_2 : l1_2.length ≤ c1_2) (h : ends_holds.f k a0_0 a0_1 a0_2 l0_3 l0_4 a0_5 a0_6 l0_7 a0_8 a0_9 a0_10 l1_0 l1_1 l1_2 a1_3 a1_4 a2_0 a2_1 a2_2 a2_3 = some r) :
    Calls Try.prog 43 #[.agg #[.string a0_0, .int .i64 a0_1, .int .i64 a0_2, .slice A0_3 l0_3.length c0_3, .slice A0_4 l0_4.length c0_4, .bool a0_5, .bool a0_6, .slice A0_7 l0_7.length c0_7, .int .i64 a0_8, .int .i64 a0_9, .int .i64 a0_10], .agg #[.slice A1_0 l1_0.length c1_0, .slice A1_1 l1_1.length c1_1, .slice A1_2 l1_2.length c1_2, .int .i64 a1_3, .int .i64 a1_4], .agg #[.int .i64 a2_0, .int .i64 a2_1, .int .i64 a2_2, .bool a2_3]] w fun e w' => e = .returned (.bool r) ∧ Below w.heap.size w w' := by
 have hu26 := Try.underlying26; have hu29 := Try.underlying29; have hu64 := Try.underlying64; have HR0_3 := xm hr0_3; have HC0_3 := xm hc0_3; clear hr0_3 hc0_3; have HR0_4 := xm hr0_4; have HC0_4 := xm hc0_4; clear hr0_4 hc0_4; have HR0_7 := xm hr0_7; have HC0_7 := xm hc0_7; clear hr0_7 hc0_7; have HR1_0 := xm hr1_0; have HC1_0 := xm hc1_0; clear hr1_0 hc1_0; have HR1_1 := xm hr1_1; have HC1_1 := xm hc1_1; clear hr1_1 hc1_1; have HR1_2 := xm hr1_2; have HC1_2 := xm hc1_2; clear hr1_2 hc1_2; have HB := xm (Below.refl w.heap.size w); have hss_ := @isSome_setCell
 have H : (if a2_0 = 0 then ((ends_row.f k a0_0 a0_1 a0_2 l0_3 l0_4 a0_5 a0_6 l0_7 a0_8 a0_9 a0_10 l1_0 l1_1 l1_2 a1_3 a1_4 (wrap64 (1 - a1_3)) a2_2).bind fun t181 => (some t181)) else (if a2_0 = 1 then (ends_holds.l0 k (wrap64 (1 - a1_3)) l1_0 (l1_0.length : Int) 0 a0_0 a0_1 a0_2 l0_3 l0_4 a0_5 a0_6 l0_7 a0_8 a0_9 a0_10 a2_0 a2_1 a2_2 a2_3) else (ends_holds.l1 k 0 l1_0 (l1_0.length : Int) 0 l1_0 l1_1 l1_2 a1_3 a1_4 a2_0 a2_1 a2_2 a2_3))) = some r := h
 clear h
 by_cases c4 : a2_0 = 0
 ·rw [if_pos c4] at H
  have c4b0 := beq_iff_eq.mpr c4
  have c4b1 := bne_eq_false_iff_eq.mpr c4
  clear c4; replace H := Option.bind_eq_some_iff.mp H
  obtain ⟨t181, A50, H⟩ := H
  replace H : (some t181) = some r := H
  have A5 := xm A50; clear A50
  obtain rfl := Option.some.inj H
  go_enter Try.func43, Try.ntmps43
  go_wp2_with (first | ((with_reducible refine gate_dst (N := 3) rfl ?_); refine xG (cs := #[.string a0_0, .int .i64 a0_1, .int .i64 a0_2, .slice A0_3 l0_3.length c0_3, .slice A0_4 l0_4.length c0_4, .bool a0_5, .bool a0_6, .slice A0_7 l0_7.length c0_7, .int .i64 a0_8, .int .i64 a0_9, .int .i64 a0_10]) (t := 26) ?_; intro gb178 hg w6 hbox hb; have BK178 := xm (hbox); have GW178 := xm (xZ HB hg); have GE178 := xm (xZ HB hg); replace HB := xm (xS HB hb); clear hb hbox hg) | ((with_reducible refine gate_dst (N := 4) rfl ?_); refine xG (cs := #[.slice A1_0 l1_0.length c1_0, .slice A1_1 l1_1.length c1_1, .slice A1_2 l1_2.length c1_2, .int .i64 a1_3, .int .i64 a1_4]) (t := 29) ?_; intro gb179 hg w7 hbox hb; have BK179 := xm (hbox); have GW179 := xm (xZ HB hg); have GE179 := xm (xZ HB hg); have NB178_179 := xm (xN BK178 hg); have NB179_178 := xm (xM BK178 hg); replace BK178 := xm (xB BK178 hb); replace HB := xm (xS HB hb); clear hb hbox hg) | ((with_reducible refine gate_dst (N := 5) rfl ?_); refine xG (cs := #[.int .i64 a2_0, .int .i64 a2_1, .int .i64 a2_2, .bool a2_3]) (t := 64) ?_; intro gb180 hg w8 hbox hb; have BK180 := xm (hbox); have GW180 := xm (xZ HB hg); have GE180 := xm (xZ HB hg); have NB178_180 := xm (xN BK178 hg); have NB180_178 := xm (xM BK178 hg); have NB179_180 := xm (xN BK179 hg); have NB180_179 := xm (xM BK179 hg); replace BK178 := xm (xB BK178 hb); replace BK179 := xm (xB BK179 hb); replace HB := xm (xS HB hb); clear hb hbox hg; have hnb9 := NB179_178.out; have hnc9 := NB178_179.out; have hnb10 := NB179_180.out; have hnc10 := NB180_179.out; have hcz11_0 := blkc5 BK179.out; have hnb12 := NB180_178.out; have hnc12 := NB178_180.out; have hcz13_0 := blkc4 BK180.out; have hcz14_0 := blkc11 BK178.out) | ((with_reducible refine gate_callee (f := 65) rfl ?_); refine xL (some 25) Try.func65 #[.agg #[.string a0_0, .int .i64 a0_1, .int .i64 a0_2, .slice A0_3 l0_3.length c0_3, .slice A0_4 l0_4.length c0_4, .bool a0_5, .bool a0_6, .slice A0_7 l0_7.length c0_7, .int .i64 a0_8, .int .i64 a0_9, .int .i64 a0_10], .agg #[.slice A1_0 l1_0.length c1_0, .slice A1_1 l1_1.length c1_1, .slice A1_2 l1_2.length c1_2, .int .i64 a1_3, .int .i64 a1_4], .int .i64 (wrap64 (1 - a1_3)), .int .i64 a2_2] rfl ?_; (with_reducible refine (ends_row.calls k a0_0 a0_1 a0_2 _ _ l0_3 _ _ l0_4 a0_5 a0_6 _ _ l0_7 a0_8 a0_9 a0_10 _ _ l1_0 _ _ l1_1 _ _ l1_2 a1_3 a1_4 (wrap64 (1 - a1_3)) a2_2 t181 _ ?side1 ?side2 ?side3 ?side4 ?side5 ?side6 ?side7 ?side8 ?side9 ?side10 ?side11 ?side12 A5.out).mono ?_); (case side1 => exact xC (Kd.C_below HR0_3.out HB.out)); (case side2 => exact HC0_3.out); (case side3 => exact xC (Kd.C_below HR0_4.out HB.out)); (case side4 => exact HC0_4.out); (case side5 => exact xC (Kd.C_below HR0_7.out HB.out)); (case side6 => exact HC0_7.out); (case side7 => exact xC (Kd.C_below HR1_0.out HB.out)); (case side8 => exact HC1_0.out); (case side9 => exact xC (Kd.C_below HR1_1.out HB.out)); (case side10 => exact HC1_1.out); (case side11 => exact xC (Kd.C_below HR1_2.out HB.out)); (case side12 => exact HC1_2.out); rintro e w15 ⟨rfl, hb⟩; refine ⟨_, rfl, ?_⟩; replace BK178 := xm (xB BK178 hb); replace BK179 := xm (xB BK179 hb); replace BK180 := xm (xB BK180 hb); replace HB := xm (xS HB hb); (try clear hb); (try clear hb2); (try clear hk); (try clear hi)))
  go_ret
  exact ⟨xer, xW HB⟩
 ·rw [if_neg c4] at H
  have c4b0 := beq_eq_false_iff_ne.mpr c4
  have c4b1 := bne_iff_ne.mpr c4
  by_cases c16 : a2_0 = 1
  ·rw [if_pos c16] at H
   have c16b0 := beq_iff_eq.mpr c16
   have c16b1 := bne_eq_false_iff_eq.mpr c16
   clear c16
   have H' := xm H
   clear H
   go_enter Try.func43, Try.ntmps43
   go_wp2_with (first | ((with_reducible refine gate_dst (N := 3) rfl ?_); refine xG (cs := #[.string a0_0, .int .i64 a0_1, .int .i64 a0_2, .slice A0_3 l0_3.length c0_3, .slice A0_4 l0_4.length c0_4, .bool a0_5, .bool a0_6, .slice A0_7 l0_7.length c0_7, .int .i64 a0_8, .int .i64 a0_9, .int .i64 a0_10]) (t := 26) ?_; intro gb178 hg w17 hbox hb; have BK178 := xm (hbox); have GW178 := xm (xZ HB hg); have GE178 := xm (xZ HB hg); replace HB := xm (xS HB hb); clear hb hbox hg) | ((with_reducible refine gate_dst (N := 4) rfl ?_); refine xG (cs := #[.slice A1_0 l1_0.length c1_0, .slice A1_1 l1_1.length c1_1, .slice A1_2 l1_2.length c1_2, .int .i64 a1_3, .int .i64 a1_4]) (t := 29) ?_; intro gb179 hg w18 hbox hb; have BK179 := xm (hbox); have GW179 := xm (xZ HB hg); have GE179 := xm (xZ HB hg); have NB178_179 := xm (xN BK178 hg); have NB179_178 := xm (xM BK178 hg); replace BK178 := xm (xB BK178 hb); replace HB := xm (xS HB hb); clear hb hbox hg) | ((with_reducible refine gate_dst (N := 5) rfl ?_); refine xG (cs := #[.int .i64 a2_0, .int .i64 a2_1, .int .i64 a2_2, .bool a2_3]) (t := 64) ?_; intro gb180 hg w19 hbox hb; have BK180 := xm (hbox); have GW180 := xm (xZ HB hg); have GE180 := xm (xZ HB hg); have NB178_180 := xm (xN BK178 hg); have NB180_178 := xm (xM BK178 hg); have NB179_180 := xm (xN BK179 hg); have NB180_179 := xm (xM BK179 hg); replace BK178 := xm (xB BK178 hb); replace BK179 := xm (xB BK179 hb); replace HB := xm (xS HB hb); clear hb hbox hg; have hnb20 := NB179_178.out; have hnc20 := NB178_179.out; have hnb21 := NB179_180.out; have hnc21 := NB180_179.out; have hcz22_0 := blkc5 BK179.out; have hnb23 := NB180_178.out; have hnc23 := NB178_180.out; have hcz24_0 := blkc4 BK180.out))
   (try have hq180_178 := NB180_178.out); (try have hq178_180 := NB178_180.out); (try have hq180_179 := NB180_179.out); (try have hq179_180 := NB179_180.out)
   go_loopg [31] k (fun kq vs31 w' => ∃ (x31_1 : Int), vs31 = .int .i64 x31_1 ∧ Aside0 (ends_holds.l0 kq (wrap64 (1 - a1_3)) l1_0 (l1_0.length : Int) x31_1 a0_0 a0_1 a0_2 l0_3 l0_4 a0_5 a0_6 l0_7 a0_8 a0_9 a0_10 a2_0 a2_1 a2_2 a2_3 = some r) ∧ Aside0 (kq ≤ k) ∧ Aside0 (w'.heap[gb178]? = some (.cells #[.string a0_0, .int .i64 a0_1, .int .i64 a0_2, (.slice A0_3 l0_3.length c0_3), (.slice A0_4 l0_4.length c0_4), .bool a0_5, .bool a0_6, (.slice A0_7 l0_7.length c0_7), .int .i64 a0_8, .int .i64 a0_9, .int .i64 a0_10] 26 (0, 0))) ∧ Aside0 (w'.heap[gb179]? = some (.cells #[(.slice A1_0 l1_0.length c1_0), (.slice A1_1 l1_1.length c1_1), (.slice A1_2 l1_2.length c1_2), .int .i64 a1_3, .int .i64 a1_4] 29 (0, 0))) ∧ Aside0 (w'.heap[gb180]? = some (.cells #[.int .i64 a2_0, .int .i64 a2_1, .int .i64 a2_2, .bool a2_3] 64 (0, 0))) ∧ Aside0 (Below w.heap.size w w'))
   case atStart => exact ⟨(0), (xrf), H', ⟨Nat.le_refl _⟩, ⟨xK BK178⟩, ⟨xK BK179⟩, ⟨xK BK180⟩, ⟨xW HB⟩⟩
   case round =>
    clear H'; (try clear p2); (try clear p6)
    obtain ⟨x31_1, rfl, HA, HK1, BK178, BK179, BK180, HB⟩ := hrel
    cases gk with
    | zero => exact absurd HA.out (by simp [ends_holds.l0])
    | succ k1 =>
     have H := HA.out; clear HA
     simp only [ends_holds.l0] at H
     by_cases c25 : x31_1 < (l1_0.length : Int)
     ·rw [if_pos c25] at H
      have c25b0 := decide_eq_true c25
      clear c25
      by_cases c26 : 0 ≤ x31_1
      ·rw [if_pos c26] at H
       have c26b0 := decide_eq_true c26
       clear c26
       by_cases c27 : x31_1 < (l1_0.length : Int)
       ·rw [if_pos c27] at H
        have c27b0 := decide_eq_true c27
        clear c27; replace H := Option.bind_eq_some_iff.mp H
        obtain ⟨t183, A280, H⟩ := H
        try dsimp only at H
        have A28 := xm A280; clear A280
        by_cases c29 : (rd l1_0 x31_1) = t183
        ·rw [if_pos c29] at H
         have c29b0 := beq_iff_eq.mpr c29
         have c29b1 := bne_eq_false_iff_eq.mpr c29
         clear c29; replace H := Option.bind_eq_some_iff.mp H
         obtain ⟨t184, A300, H⟩ := H
         try dsimp only at H
         have A30 := xm A300; clear A300
         by_cases c31 : t184 = true
         ·subst c31
          rw [if_pos rfl] at H
          obtain rfl := Option.some.inj H
          have p182 : 0 ≤ (x31_1 : Int) := xO
          have q182 : x31_1 < (l1_0.length : Int) := xO
          obtain ⟨ad182, e182, hx182_0⟩ := Kd.at_int HR1_0.out x31_1 p182 q182
          cases e182
          replace hx182_0 := xR HB hx182_0; replace p182 := eq_true p182; replace q182 := eq_true q182; have hcz34_0 := blkc4 BK180.out
          go_wp2_with (first | ((with_reducible refine gate_callee (f := 59) rfl ?_); refine xL (some 40) Try.func59 #[.int .i64 a2_1, .int .i64 (wrap64 (1 - a1_3))] rfl ?_; (with_reducible refine (moves_Cell.calls a2_1 (wrap64 (1 - a1_3)) t183 _ A28.out).mono ?_); rintro e w' ⟨rfl, ⟨nd, rfl⟩⟩; refine ⟨_, rfl, ?_⟩; have hcz36_0 := blkc11 BK178.out) | (go_at_call 66; (with_reducible refine (rules_Far.calls a0_0 a0_1 a0_2 _ _ l0_3 _ _ l0_4 a0_5 a0_6 _ _ l0_7 a0_8 a0_9 a0_10 (wrap64 (1 - a1_3)) x31_1 true _ ?side1 ?side2 ?side3 ?side4 ?side5 ?side6 A30.out).mono ?_); (case side1 => repeat (first | exact (Kd.C_below HR0_3.out (xW HB)) | (with_reducible refine Kd.C_alloc ?_ _) | (with_reducible refine Kd.C_drewN ?_ _) | (with_reducible refine Kd.C_drew ?_))); (case side2 => exact HC0_3.out); (case side3 => repeat (first | exact (Kd.C_below HR0_4.out (xW HB)) | (with_reducible refine Kd.C_alloc ?_ _) | (with_reducible refine Kd.C_drewN ?_ _) | (with_reducible refine Kd.C_drew ?_))); (case side4 => exact HC0_4.out); (case side5 => repeat (first | exact (Kd.C_below HR0_7.out (xW HB)) | (with_reducible refine Kd.C_alloc ?_ _) | (with_reducible refine Kd.C_drewN ?_ _) | (with_reducible refine Kd.C_drew ?_))); (case side6 => exact HC0_7.out); rintro e w37 ⟨rfl, hb⟩; replace BK178 := xm (xB BK178 hb); replace BK179 := xm (xB BK179 hb); replace BK180 := xm (xB BK180 hb); replace HB := xm (xS HB hb); (try clear hb); (try clear hb2); (try clear hk); (try clear hi)))
          go_ret
          exact ⟨xer, xW HB⟩
         ·replace c31 := Bool.eq_false_iff.mpr c31
          subst c31
          rw [if_neg xF] at H
          have H' := xm H
          clear H
          have p182 : 0 ≤ (x31_1 : Int) := xO
          have q182 : x31_1 < (l1_0.length : Int) := xO
          obtain ⟨ad182, e182, hx182_0⟩ := Kd.at_int HR1_0.out x31_1 p182 q182
          cases e182
          replace hx182_0 := xR HB hx182_0; replace p182 := eq_true p182; replace q182 := eq_true q182; have hcz40_0 := blkc4 BK180.out
          go_wp2_with (first | ((with_reducible refine gate_callee (f := 59) rfl ?_); refine xL (some 40) Try.func59 #[.int .i64 a2_1, .int .i64 (wrap64 (1 - a1_3))] rfl ?_; (with_reducible refine (moves_Cell.calls a2_1 (wrap64 (1 - a1_3)) t183 _ A28.out).mono ?_); rintro e w' ⟨rfl, ⟨nd, rfl⟩⟩; refine ⟨_, rfl, ?_⟩; have hcz42_0 := blkc11 BK178.out) | (go_at_call 66; (with_reducible refine (rules_Far.calls a0_0 a0_1 a0_2 _ _ l0_3 _ _ l0_4 a0_5 a0_6 _ _ l0_7 a0_8 a0_9 a0_10 (wrap64 (1 - a1_3)) x31_1 false _ ?side1 ?side2 ?side3 ?side4 ?side5 ?side6 A30.out).mono ?_); (case side1 => repeat (first | exact (Kd.C_below HR0_3.out (xW HB)) | (with_reducible refine Kd.C_alloc ?_ _) | (with_reducible refine Kd.C_drewN ?_ _) | (with_reducible refine Kd.C_drew ?_))); (case side2 => exact HC0_3.out); (case side3 => repeat (first | exact (Kd.C_below HR0_4.out (xW HB)) | (with_reducible refine Kd.C_alloc ?_ _) | (with_reducible refine Kd.C_drewN ?_ _) | (with_reducible refine Kd.C_drew ?_))); (case side4 => exact HC0_4.out); (case side5 => repeat (first | exact (Kd.C_below HR0_7.out (xW HB)) | (with_reducible refine Kd.C_alloc ?_ _) | (with_reducible refine Kd.C_drewN ?_ _) | (with_reducible refine Kd.C_drew ?_))); (case side6 => exact HC0_7.out); rintro e w43 ⟨rfl, hb⟩; replace BK178 := xm (xB BK178 hb); replace BK179 := xm (xB BK179 hb); replace BK180 := xm (xB BK180 hb); replace HB := xm (xS HB hb); (try clear hb); (try clear hb2); (try clear hk); (try clear hi)))
          go_roundg k1
          case measure => have := HK1.out; omega
          case rel => exact ⟨(wrap64 (x31_1 + 1)), (xrf), H', ⟨by have := HK1.out; omega⟩, ⟨xK BK178⟩, ⟨xK BK179⟩, ⟨xK BK180⟩, ⟨xW HB⟩⟩
        ·rw [if_neg c29] at H
         have c29b0 := beq_eq_false_iff_ne.mpr c29
         have c29b1 := bne_iff_ne.mpr c29
         have H' := xm H
         clear H
         have p182 : 0 ≤ (x31_1 : Int) := xO
         have q182 : x31_1 < (l1_0.length : Int) := xO
         obtain ⟨ad182, e182, hx182_0⟩ := Kd.at_int HR1_0.out x31_1 p182 q182
         cases e182
         replace hx182_0 := xR HB hx182_0; replace p182 := eq_true p182; replace q182 := eq_true q182; have hcz46_0 := blkc4 BK180.out
         go_wp2_with (first | ((with_reducible refine gate_callee (f := 59) rfl ?_); refine xL (some 40) Try.func59 #[.int .i64 a2_1, .int .i64 (wrap64 (1 - a1_3))] rfl ?_; (with_reducible refine (moves_Cell.calls a2_1 (wrap64 (1 - a1_3)) t183 _ A28.out).mono ?_); rintro e w' ⟨rfl, ⟨nd, rfl⟩⟩; refine ⟨_, rfl, ?_⟩))
         go_roundg k1
         case measure => have := HK1.out; omega
         case rel => exact ⟨(wrap64 (x31_1 + 1)), (xrf), H', ⟨by have := HK1.out; omega⟩, ⟨xK BK178⟩, ⟨xK BK179⟩, ⟨xK BK180⟩, ⟨xW HB⟩⟩
       ·rw [if_neg c27] at H
        exact absurd H (by simp)
      ·rw [if_neg c26] at H
       exact absurd H (by simp)
     ·rw [if_neg c25] at H
      have c25b0 := decide_eq_false c25
      clear c25
      obtain rfl := Option.some.inj H
      go_wp2
      go_ret
      exact ⟨xer, xW HB⟩
  ·rw [if_neg c16] at H
   have c16b0 := beq_eq_false_iff_ne.mpr c16
   have c16b1 := bne_iff_ne.mpr c16
   have H' := xm H
   clear H
   go_enter Try.func43, Try.ntmps43
   go_wp2_with (first | ((with_reducible refine gate_dst (N := 3) rfl ?_); refine xG (cs := #[.string a0_0, .int .i64 a0_1, .int .i64 a0_2, .slice A0_3 l0_3.length c0_3, .slice A0_4 l0_4.length c0_4, .bool a0_5, .bool a0_6, .slice A0_7 l0_7.length c0_7, .int .i64 a0_8, .int .i64 a0_9, .int .i64 a0_10]) (t := 26) ?_; intro gb178 hg w47 hbox hb; have BK178 := xm (hbox); have GW178 := xm (xZ HB hg); have GE178 := xm (xZ HB hg); replace HB := xm (xS HB hb); clear hb hbox hg) | ((with_reducible refine gate_dst (N := 4) rfl ?_); refine xG (cs := #[.slice A1_0 l1_0.length c1_0, .slice A1_1 l1_1.length c1_1, .slice A1_2 l1_2.length c1_2, .int .i64 a1_3, .int .i64 a1_4]) (t := 29) ?_; intro gb179 hg w48 hbox hb; have BK179 := xm (hbox); have GW179 := xm (xZ HB hg); have GE179 := xm (xZ HB hg); have NB178_179 := xm (xN BK178 hg); have NB179_178 := xm (xM BK178 hg); replace BK178 := xm (xB BK178 hb); replace HB := xm (xS HB hb); clear hb hbox hg) | ((with_reducible refine gate_dst (N := 5) rfl ?_); refine xG (cs := #[.int .i64 a2_0, .int .i64 a2_1, .int .i64 a2_2, .bool a2_3]) (t := 64) ?_; intro gb180 hg w49 hbox hb; have BK180 := xm (hbox); have GW180 := xm (xZ HB hg); have GE180 := xm (xZ HB hg); have NB178_180 := xm (xN BK178 hg); have NB180_178 := xm (xM BK178 hg); have NB179_180 := xm (xN BK179 hg); have NB180_179 := xm (xM BK179 hg); replace BK178 := xm (xB BK178 hb); replace BK179 := xm (xB BK179 hb); replace HB := xm (xS HB hb); clear hb hbox hg; have hnb50 := NB179_178.out; have hnc50 := NB178_179.out; have hnb51 := NB179_180.out; have hnc51 := NB180_179.out; have hcz52_0 := blkc5 BK179.out; have hnb53 := NB180_178.out; have hnc53 := NB178_180.out; have hcz54_0 := blkc4 BK180.out))
   (try have hq180_178 := NB180_178.out); (try have hq178_180 := NB178_180.out); (try have hq180_179 := NB180_179.out); (try have hq179_180 := NB179_180.out); (try have hq179_178 := NB179_178.out); (try have hq178_179 := NB178_179.out)
   go_loopg [10, 52] k (fun kq vs10 vs52 w' => ∃ (x10_1 : Int) (x52_1 : Int), vs10 = .int .i64 x10_1 ∧ vs52 = .int .i64 x52_1 ∧ Aside0 (ends_holds.l1 kq x10_1 l1_0 (l1_0.length : Int) x52_1 l1_0 l1_1 l1_2 a1_3 a1_4 a2_0 a2_1 a2_2 a2_3 = some r) ∧ Aside0 (kq ≤ k) ∧ Aside0 (w'.heap[gb178]? = some (.cells #[.string a0_0, .int .i64 a0_1, .int .i64 a0_2, (.slice A0_3 l0_3.length c0_3), (.slice A0_4 l0_4.length c0_4), .bool a0_5, .bool a0_6, (.slice A0_7 l0_7.length c0_7), .int .i64 a0_8, .int .i64 a0_9, .int .i64 a0_10] 26 (0, 0))) ∧ Aside0 (w'.heap[gb179]? = some (.cells #[(.slice A1_0 l1_0.length c1_0), (.slice A1_1 l1_1.length c1_1), (.slice A1_2 l1_2.length c1_2), .int .i64 a1_3, .int .i64 a1_4] 29 (0, 0))) ∧ Aside0 (w'.heap[gb180]? = some (.cells #[.int .i64 a2_0, .int .i64 a2_1, .int .i64 a2_2, .bool a2_3] 64 (0, 0))) ∧ Aside0 (Below w.heap.size w w'))
   case atStart => exact ⟨(0), (0), (xrf), (xrf), H', ⟨Nat.le_refl _⟩, ⟨xK BK178⟩, ⟨xK BK179⟩, ⟨xK BK180⟩, ⟨xW HB⟩⟩
   case round =>
    clear H'; (try clear p1); (try clear q1); (try clear hx1); (try clear p2); (try clear p6); (try clear p18); (try clear q18); (try clear hx18); (try clear hx182_0); (try clear p182); (try clear p2); (try clear p6); (try clear q182)
    obtain ⟨x10_1, x52_1, rfl, rfl, HA, HK1, BK178, BK179, BK180, HB⟩ := hrel
    cases gk with
    | zero => exact absurd HA.out (by simp [ends_holds.l1])
    | succ k1 =>
     have H := HA.out; clear HA
     simp only [ends_holds.l1] at H
     by_cases c55 : x52_1 < (l1_0.length : Int)
     ·rw [if_pos c55] at H
      have c55b0 := decide_eq_true c55
      clear c55
      by_cases c56 : 0 ≤ x52_1
      ·rw [if_pos c56] at H
       have c56b0 := decide_eq_true c56
       clear c56
       by_cases c57 : x52_1 < (l1_0.length : Int)
       ·rw [if_pos c57] at H
        have c57b0 := decide_eq_true c57
        clear c57; replace H := Option.bind_eq_some_iff.mp H
        obtain ⟨t186, A580, H⟩ := H
        try dsimp only at H
        have A58 := xm A580; clear A580
        by_cases c59 : (rd l1_0 x52_1) = t186
        ·rw [if_pos c59] at H
         have c59b0 := beq_iff_eq.mpr c59
         have c59b1 := bne_eq_false_iff_eq.mpr c59
         clear c59
         have H' := xm H
         clear H
         have p185 : 0 ≤ (x52_1 : Int) := xO
         have q185 : x52_1 < (l1_0.length : Int) := xO
         obtain ⟨ad185, e185, hx185_0⟩ := Kd.at_int HR1_0.out x52_1 p185 q185
         cases e185
         replace hx185_0 := xR HB hx185_0; replace p185 := eq_true p185; replace q185 := eq_true q185; have hcz62_0 := blkc4 BK180.out; have hcz64_0 := blkc5 BK179.out
         go_wp2_with (first | ((with_reducible refine gate_callee (f := 59) rfl ?_); refine xL (some 61) Try.func59 #[.int .i64 a2_1, .int .i64 a1_3] rfl ?_; (with_reducible refine (moves_Cell.calls a2_1 a1_3 t186 _ A58.out).mono ?_); rintro e w' ⟨rfl, ⟨nd, rfl⟩⟩; refine ⟨_, rfl, ?_⟩))
         go_roundg k1
         case measure => have := HK1.out; omega
         case rel => exact ⟨(wrap64 (x10_1 + 1)), (wrap64 (x52_1 + 1)), (xrf), (xrf), H', ⟨by have := HK1.out; omega⟩, ⟨xK BK178⟩, ⟨xK BK179⟩, ⟨xK BK180⟩, ⟨xW HB⟩⟩
        ·rw [if_neg c59] at H
         have c59b0 := beq_eq_false_iff_ne.mpr c59
         have c59b1 := bne_iff_ne.mpr c59
         have H' := xm H
         clear H
         have p185 : 0 ≤ (x52_1 : Int) := xO
         have q185 : x52_1 < (l1_0.length : Int) := xO
         obtain ⟨ad185, e185, hx185_0⟩ := Kd.at_int HR1_0.out x52_1 p185 q185
         cases e185
         replace hx185_0 := xR HB hx185_0; replace p185 := eq_true p185; replace q185 := eq_true q185; have hcz67_0 := blkc4 BK180.out; have hcz69_0 := blkc5 BK179.out
         go_wp2_with (first | ((with_reducible refine gate_callee (f := 59) rfl ?_); refine xL (some 61) Try.func59 #[.int .i64 a2_1, .int .i64 a1_3] rfl ?_; (with_reducible refine (moves_Cell.calls a2_1 a1_3 t186 _ A58.out).mono ?_); rintro e w' ⟨rfl, ⟨nd, rfl⟩⟩; refine ⟨_, rfl, ?_⟩))
         go_roundg k1
         case measure => have := HK1.out; omega
         case rel => exact ⟨(x10_1), (wrap64 (x52_1 + 1)), (xrf), (xrf), H', ⟨by have := HK1.out; omega⟩, ⟨xK BK178⟩, ⟨xK BK179⟩, ⟨xK BK180⟩, ⟨xW HB⟩⟩
       ·rw [if_neg c57] at H
        exact absurd H (by simp)
      ·rw [if_neg c56] at H
       exact absurd H (by simp)
     ·rw [if_neg c55] at H
      have c55b0 := decide_eq_false c55
      clear c55
      obtain rfl := Option.some.inj H
      have hcz72_0 := blkc4 BK180.out
      go_wp2
      go_ret
      exact ⟨xer, xW HB⟩

/-! ### ends_wins: function 44 -/
def ends_wins.f (a0 : Int) : Option (Int) := some (wrap64 (1 + a0))
theorem ends_wins.calls (a0 : Int) (r : Int) (w : World) (h : ends_wins.f a0 = some r) :
    Calls Try.prog 44 #[.int .i64 a0] w fun e w' => e = .returned (.int .i64 r) ∧ Drawn0 w w' := by
 have H : (some (wrap64 (1 + a0))) = some r := h
 clear h
 obtain rfl := Option.some.inj H
 go_enter Try.func44, Try.ntmps44
 go_wp2
 go_ret
 exact ⟨xrf, by repeat (first | exact Drawn0.refl _ | apply Drawn0.step)⟩

/-! ### ends_Result: function 27 -/
mutual
def ends_Result.l0 : Nat → Int → List (S64) → Int → Int → ByteArray → Int → Int → List (S62) → List Int → Bool → Bool → List (S64) → Int → Int → Int → List Int → List Int → List Int → Int → Int → Option (Int)
  | 0, _, _, _, _, _, _, _, _, _, _, _, _, _, _, _, _, _, _, _, _ => none
  | k + 1, x5, x12, x13, x14, z188a, z188b, z188c, z188d, z188e, z188f, z188g, z188h, z188i, z188j, z188k, z189a, z189b, z189c, z189d, z189e => if x14 < x13 then (if 0 ≤ x14 then (if x14 < (x12.length : Int) then ((ends_holds.f k z188a z188b z188c z188d z188e z188f z188g z188h z188i z188j z188k z189a z189b z189c z189d z189e ((rd_T64 x12 x14).f0) ((rd_T64 x12 x14).f1) ((rd_T64 x12 x14).f2) ((rd_T64 x12 x14).f3)).bind fun t191 => (if t191 = true then (if (rd_T64 x12 x14).f3 = true then ((ends_wins.f z189d).bind fun t192 => (some t192)) else ((ends_wins.f x5).bind fun t193 => (some t193))) else (ends_Result.l0 k x5 x12 x13 (wrap64 (x14 + 1)) z188a z188b z188c z188d z188e z188f z188g z188h z188i z188j z188k z189a z189b z189c z189d z189e))) else (none)) else (none)) else (if z188j > 0 then (ends_Result.j1 k x5 (decide (z189e ≥ z188j)) z188a z188b z188c z188d z188e z188f z188g z188h z188i z188j z188k z189a z189b z189c z189d z189e) else (ends_Result.j1 k x5 false z188a z188b z188c z188d z188e z188f z188g z188h z188i z188j z188k z189a z189b z189c z189d z189e))
def ends_Result.j1 : Nat → Int → Bool → ByteArray → Int → Int → List (S62) → List Int → Bool → Bool → List (S64) → Int → Int → Int → List Int → List Int → List Int → Int → Int → Option (Int)
  | 0, _, _, _, _, _, _, _, _, _, _, _, _, _, _, _, _, _, _ => none
  | k + 1, x5, x30, z188a, z188b, z188c, z188d, z188e, z188f, z188g, z188h, z188i, z188j, z188k, z189a, z189b, z189c, z189d, z189e => if x30 = true then (some 3) else ((moves_Gen.f k z188a z188b z188c z188d z188e z188f z188g z188h z188i z188j z188k z189a z189b z189c z189d z189e).bind fun t194 => (if (t194.length : Int) > 0 then (some 0) else (if z188i = 0 then ((ends_wins.f x5).bind fun t197 => (some t197)) else (if z188i = 1 then ((ends_wins.f z189d).bind fun t198 => (some t198)) else (some 3)))))
end
def ends_Result.f (k : Nat) (a0_0 : ByteArray) (a0_1 : Int) (a0_2 : Int) (l0_3 : List (S62)) (l0_4 : List Int) (a0_5 : Bool) (a0_6 : Bool) (l0_7 : List (S64)) (a0_8 : Int) (a0_9 : Int) (a0_10 : Int) (l1_0 : List Int) (l1_1 : List Int) (l1_2 : List Int) (a1_3 : Int) (a1_4 : Int) : Option (Int) := ends_Result.l0 k (wrap64 (1 - a1_3)) l0_7 (l0_7.length : Int) 0 a0_0 a0_1 a0_2 l0_3 l0_4 a0_5 a0_6 l0_7 a0_8 a0_9 a0_10 l1_0 l1_1 l1_2 a1_3 a1_4
theorem ends_Result.mono_l : ∀ k, L10 (L10 (LeO)) (ends_Result.l0 k) (ends_Result.l0 (k + 1)) ∧ L10 (L5 (LM (LM (LM (LeO))))) (ends_Result.j1 k) (ends_Result.j1 (k + 1))
  | 0 => by refine ⟨?_, ?_⟩ <;> (repeat (first | exact LeO.none _ | intro _))
  | k + 1 => by
    obtain ⟨ih0, ih1⟩ := ends_Result.mono_l k
    refine ⟨?_, ?_⟩ <;> ((repeat (first | (with_reducible refine LeO.st ?_) | intro _)); constructor; (first | unfold ends_Result.l0 | unfold ends_Result.j1); repeat' first | (with_reducible first | apply ih0 | apply ih1 | apply ends_holds.mono | apply moves_Gen.mono | exact LeO.refl _ | exact LeO.none _ | refine LeO.ite ?_ ?_ | refine LeO.bind ?_ (fun _ => ?_)) | apply ih0 | apply ih1 | apply ends_holds.mono | apply moves_Gen.mono | exact LeO.none _ | refine LeO.ite ?_ ?_ | refine LeO.bind ?_ (fun _ => ?_))
theorem ends_Result.mono : ∀ a0 a1 a2 a3 a4 a5 a6 a7 a8 a9 a10 a11 a12 a13 a14 a15 k, LeO (ends_Result.f k a0 a1 a2 a3 a4 a5 a6 a7 a8 a9 a10 a11 a12 a13 a14 a15) (ends_Result.f (k + 1) a0 a1 a2 a3 a4 a5 a6 a7 a8 a9 a10 a11 a12 a13 a14 a15) := by
  intros; rename_i k
  obtain ⟨ih0, ih1⟩ := ends_Result.mono_l k
  unfold ends_Result.f
  repeat' first | (with_reducible first | apply ih0 | apply ih1 | apply ends_holds.mono | apply moves_Gen.mono | exact LeO.refl _ | exact LeO.none _ | refine LeO.ite ?_ ?_ | refine LeO.bind ?_ (fun _ => ?_)) | apply ih0 | apply ih1 | apply ends_holds.mono | apply moves_Gen.mono | exact LeO.none _ | refine LeO.ite ?_ ?_ | refine LeO.bind ?_ (fun _ => ?_)
theorem ends_Result.calls (k : Nat) (a0_0 : ByteArray) (a0_1 : Int) (a0_2 : Int) (A0_3 : Option Addr) (c0_3 : Nat) (l0_3 : List (S62)) (A0_4 : Option Addr) (c0_4 : Nat) (l0_4 : List Int) (a0_5 : Bool) (a0_6 : Bool) (A0_7 : Option Addr) (c0_7 : Nat) (l0_7 : List (S64)) (a0_8 : Int) (a0_9 : Int) (a0_10 : Int) (A1_0 : Option Addr) (c1_0 : Nat) (l1_0 : List Int) (A1_1 : Option Addr) (c1_1 : Nat) (l1_1 : List Int) (A1_2 : Option Addr) (c1_2 : Nat) (l1_2 : List Int) (a1_3 : Int) (a1_4 : Int) (r : Int) (w : World) (hr0_3 : Kd.C k62 w A0_3 l0_3.length l0_3) (hc0_3 : l0_3.length ≤ c0_3) (hr0_4 : Kd.C (Kd.int .i64) w A0_4 l0_4.length l0_4) (hc0_4 : l0_4.length ≤ c0_4) (hr0_7 : Kd.C k64 w A0_7 l0_7.length l0_7) (hc0_7 : l0_7.length ≤ c0_7) (hr1_0 : Kd.C (Kd.int .i64) w A1_0 l1_0.length l1_0) (hc1_0 : l1_0.length ≤ c1_0) (hr1_1 : Kd.C (Kd.int .i64) w A1_1 l1_1.length l1_1) (hc1_1 : l1_1.length ≤ c1_1) (hr1_2 : Kd.C (Kd.int .i64) w A1_2 l1_2.length l1_2) (hc1_2 : l1_2.length ≤ c1_2) (h : ends_Result.f k a0_0 a0_1 a0_2 l0_3 l0_4 a0_5 a0_6 l0_7 a0_8 a0_9 a0_10 l1_0 l1_1 l1_2 a1_3 a1_4 = some r) :
    Calls Try.prog 27 #[.agg #[.string a0_0, .int .i64 a0_1, .int .i64 a0_2, .slice A0_3 l0_3.length c0_3, .slice A0_4 l0_4.length c0_4, .bool a0_5, .bool a0_6, .slice A0_7 l0_7.length c0_7, .int .i64 a0_8, .int .i64 a0_9, .int .i64 a0_10], .agg #[.slice A1_0 l1_0.length c1_0, .slice A1_1 l1_1.length c1_1, .slice A1_2 l1_2.length c1_2, .int .i64 a1_3, .int .i64 a1_4]] w fun e w' => e = .returned (.int .i64 r) ∧ Below w.heap.size w w' := by
 have hu26 := Try.underlying26; have hu29 := Try.underlying29; have hu64 := Try.underlying64; have HR0_3 := xm hr0_3; have HC0_3 := xm hc0_3; clear hr0_3 hc0_3; have HR0_4 := xm hr0_4; have HC0_4 := xm hc0_4; clear hr0_4 hc0_4; have HR0_7 := xm hr0_7; have HC0_7 := xm hc0_7; clear hr0_7 hc0_7; have HR1_0 := xm hr1_0; have HC1_0 := xm hc1_0; clear hr1_0 hc1_0; have HR1_1 := xm hr1_1; have HC1_1 := xm hc1_1; clear hr1_1 hc1_1; have HR1_2 := xm hr1_2; have HC1_2 := xm hc1_2; clear hr1_2 hc1_2; have HB := xm (Below.refl w.heap.size w); have hss_ := @isSome_setCell
 have H : (ends_Result.l0 k (wrap64 (1 - a1_3)) l0_7 (l0_7.length : Int) 0 a0_0 a0_1 a0_2 l0_3 l0_4 a0_5 a0_6 l0_7 a0_8 a0_9 a0_10 l1_0 l1_1 l1_2 a1_3 a1_4) = some r := h
 clear h
 have H' := xm H
 clear H
 go_enter Try.func27, Try.ntmps27
 go_wp2_with (first | ((with_reducible refine gate_dst (N := 2) rfl ?_); refine xG (cs := #[.string a0_0, .int .i64 a0_1, .int .i64 a0_2, .slice A0_3 l0_3.length c0_3, .slice A0_4 l0_4.length c0_4, .bool a0_5, .bool a0_6, .slice A0_7 l0_7.length c0_7, .int .i64 a0_8, .int .i64 a0_9, .int .i64 a0_10]) (t := 26) ?_; intro gb187 hg w3 hbox hb; have BK187 := xm (hbox); have GW187 := xm (xZ HB hg); have GE187 := xm (xZ HB hg); replace HB := xm (xS HB hb); clear hb hbox hg) | ((with_reducible refine gate_dst (N := 3) rfl ?_); refine xG (cs := #[.slice A1_0 l1_0.length c1_0, .slice A1_1 l1_1.length c1_1, .slice A1_2 l1_2.length c1_2, .int .i64 a1_3, .int .i64 a1_4]) (t := 29) ?_; intro gb188 hg w4 hbox hb; have BK188 := xm (hbox); have GW188 := xm (xZ HB hg); have GE188 := xm (xZ HB hg); have NB187_188 := xm (xN BK187 hg); have NB188_187 := xm (xM BK187 hg); replace BK187 := xm (xB BK187 hb); replace HB := xm (xS HB hb); clear hb hbox hg; have hnb5 := NB188_187.out; have hnc5 := NB187_188.out; have hcz6_0 := blkc5 BK188.out; have hcz7_0 := blkc11 BK187.out))
 (try have hq187_188 := NB187_188.out); (try have hq188_187 := NB188_187.out)
 go_loopg [14] k (fun kq vs14 w' => ∃ (x14_1 : Int), vs14 = .int .i64 x14_1 ∧ Aside0 (ends_Result.l0 kq (wrap64 (1 - a1_3)) l0_7 (l0_7.length : Int) x14_1 a0_0 a0_1 a0_2 l0_3 l0_4 a0_5 a0_6 l0_7 a0_8 a0_9 a0_10 l1_0 l1_1 l1_2 a1_3 a1_4 = some r) ∧ Aside0 (kq ≤ k) ∧ Aside0 (w'.heap[gb187]? = some (.cells #[.string a0_0, .int .i64 a0_1, .int .i64 a0_2, (.slice A0_3 l0_3.length c0_3), (.slice A0_4 l0_4.length c0_4), .bool a0_5, .bool a0_6, (.slice A0_7 l0_7.length c0_7), .int .i64 a0_8, .int .i64 a0_9, .int .i64 a0_10] 26 (0, 0))) ∧ Aside0 (w'.heap[gb188]? = some (.cells #[(.slice A1_0 l1_0.length c1_0), (.slice A1_1 l1_1.length c1_1), (.slice A1_2 l1_2.length c1_2), .int .i64 a1_3, .int .i64 a1_4] 29 (0, 0))) ∧ Aside0 (Below w.heap.size w w'))
 case atStart => exact ⟨(0), (xrf), H', ⟨Nat.le_refl _⟩, ⟨xK BK187⟩, ⟨xK BK188⟩, ⟨xW HB⟩⟩
 case round =>
  clear H'; (try clear p2); (try clear p6)
  obtain ⟨x14_1, rfl, HA, HK1, BK187, BK188, HB⟩ := hrel
  cases gk with
  | zero => exact absurd HA.out (by simp [ends_Result.l0])
  | succ k1 =>
   have H := HA.out; clear HA
   simp only [ends_Result.l0] at H
   by_cases c8 : x14_1 < (l0_7.length : Int)
   ·rw [if_pos c8] at H
    have c8b0 := decide_eq_true c8
    clear c8
    by_cases c9 : 0 ≤ x14_1
    ·rw [if_pos c9] at H
     have c9b0 := decide_eq_true c9
     clear c9
     by_cases c10 : x14_1 < (l0_7.length : Int)
     ·rw [if_pos c10] at H
      have c10b0 := decide_eq_true c10
      clear c10; replace H := Option.bind_eq_some_iff.mp H
      obtain ⟨t191, A110, H⟩ := H
      try dsimp only at H
      have A11 := xm A110; clear A110
      by_cases c12 : t191 = true
      ·subst c12
       rw [if_pos rfl] at H
       obtain ⟨bq13, hbq13⟩ : ∃ b_ : Bool, b_ = ((rd_T64 l0_7 x14_1).f3) := ⟨_, rfl⟩
       (try rw [← hbq13] at A11)
       replace H : (if bq13 = true then ((ends_wins.f a1_3).bind fun t192 => (some t192)) else ((ends_wins.f (wrap64 (1 - a1_3))).bind fun t193 => (some t193))) = some r := by rw [← hbq13] at H; exact H
       have Nbq13 := xm hbq13; clear hbq13
       by_cases c14 : bq13 = true
       ·subst c14
        rw [if_pos rfl] at H
        replace H := Option.bind_eq_some_iff.mp H
        obtain ⟨t192, A150, H⟩ := H
        replace H : (some t192) = some r := H
        have A15 := xm A150; clear A150
        obtain rfl := Option.some.inj H
        have p189 : 0 ≤ (x14_1 : Int) := xO
        have q189 : x14_1 < (l0_7.length : Int) := xO
        obtain ⟨ad189, e189, hx189_0, hx189_1, hx189_2, hx189_3⟩ := at_T64 HR0_7.out x14_1 p189 q189
        (try rw [← Nbq13.out] at hx189_3)
        cases e189
        replace hx189_0 := xR HB hx189_0; replace hx189_1 := xR HB hx189_1; replace hx189_2 := xR HB hx189_2; replace hx189_3 := xR HB hx189_3; replace p189 := eq_true p189; replace q189 := eq_true q189
        go_wp2_with (first | ((with_reducible refine gate_dst (N := 7) rfl ?_); refine xG (cs := #[.int .i64 0, .int .i64 0, .int .i64 0, .bool false]) (t := 64) ?_; intro gb190 hg w16 hbox hb; have BK190 := xm (hbox); have GW190 := xm (xZ HB hg); have GE190 := xm (xZ HB hg); have NB187_190 := xm (xN BK187 hg); have NB190_187 := xm (xM BK187 hg); have NB188_190 := xm (xN BK188 hg); have NB190_188 := xm (xM BK188 hg); replace BK187 := xm (xB BK187 hb); replace BK188 := xm (xB BK188 hb); replace HB := xm (xS HB hb); clear hb hbox hg; have hnb17 := NB190_187.out; have hnc17 := NB187_190.out; have hnb18 := NB190_188.out; have hnc18 := NB188_190.out; have hcz19_0 := blkc4 BK190.out; have hcz21_0 := blkc11 BK187.out; have hcz22_0 := blkc5 BK188.out) | ((with_reducible refine gate_callee (f := 43) rfl ?_); refine xL (some 21) Try.func43 #[.agg #[.string a0_0, .int .i64 a0_1, .int .i64 a0_2, .slice A0_3 l0_3.length c0_3, .slice A0_4 l0_4.length c0_4, .bool a0_5, .bool a0_6, .slice (some ad189) l0_7.length c0_7, .int .i64 a0_8, .int .i64 a0_9, .int .i64 a0_10], .agg #[.slice A1_0 l1_0.length c1_0, .slice A1_1 l1_1.length c1_1, .slice A1_2 l1_2.length c1_2, .int .i64 a1_3, .int .i64 a1_4], .agg #[.int .i64 ((rd_T64 l0_7 x14_1).f0), .int .i64 ((rd_T64 l0_7 x14_1).f1), .int .i64 ((rd_T64 l0_7 x14_1).f2), .bool true]] rfl ?_; (with_reducible refine (ends_holds.calls k1 a0_0 a0_1 a0_2 _ _ l0_3 _ _ l0_4 a0_5 a0_6 _ _ l0_7 a0_8 a0_9 a0_10 _ _ l1_0 _ _ l1_1 _ _ l1_2 a1_3 a1_4 ((rd_T64 l0_7 x14_1).f0) ((rd_T64 l0_7 x14_1).f1) ((rd_T64 l0_7 x14_1).f2) true true _ ?side1 ?side2 ?side3 ?side4 ?side5 ?side6 ?side7 ?side8 ?side9 ?side10 ?side11 ?side12 A11.out).mono ?_); (case side1 => exact Kd.C_below HR0_3.out (xW HB)); (case side2 => exact HC0_3.out); (case side3 => exact Kd.C_below HR0_4.out (xW HB)); (case side4 => exact HC0_4.out); (case side5 => exact Kd.C_below HR0_7.out (xW HB)); (case side6 => exact HC0_7.out); (case side7 => exact Kd.C_below HR1_0.out (xW HB)); (case side8 => exact HC1_0.out); (case side9 => exact Kd.C_below HR1_1.out (xW HB)); (case side10 => exact HC1_1.out); (case side11 => exact Kd.C_below HR1_2.out (xW HB)); (case side12 => exact HC1_2.out); rintro e w23 ⟨rfl, hb⟩; refine ⟨_, rfl, ?_⟩; replace BK187 := xm (xB BK187 hb); replace BK188 := xm (xB BK188 hb); replace BK190 := xm (xP (l' := [.int .i64 ((rd_T64 l0_7 x14_1).f0), .int .i64 ((rd_T64 l0_7 x14_1).f1), .int .i64 ((rd_T64 l0_7 x14_1).f2), .bool true]) BK190 hb); replace HB := xm (xS HB hb); (try clear hb); (try clear hb2); (try clear hk); (try clear hi); have hcz24_0 := blkc4 BK190.out; have hcz25_0 := blkc5 BK188.out) | ((with_reducible refine gate_callee (f := 44) rfl ?_); refine xL (some 26) Try.func44 #[.int .i64 a1_3] rfl ?_; (with_reducible refine (ends_wins.calls a1_3 t192 _ A15.out).mono ?_); rintro e w' ⟨rfl, ⟨nd, rfl⟩⟩; refine ⟨_, rfl, ?_⟩))
        go_ret
        exact ⟨xer, xW HB⟩
       ·replace c14 := Bool.eq_false_iff.mpr c14
        subst c14
        rw [if_neg xF] at H
        replace H := Option.bind_eq_some_iff.mp H
        obtain ⟨t193, A260, H⟩ := H
        replace H : (some t193) = some r := H
        have A26 := xm A260; clear A260
        obtain rfl := Option.some.inj H
        have p189 : 0 ≤ (x14_1 : Int) := xO
        have q189 : x14_1 < (l0_7.length : Int) := xO
        obtain ⟨ad189, e189, hx189_0, hx189_1, hx189_2, hx189_3⟩ := at_T64 HR0_7.out x14_1 p189 q189
        (try rw [← Nbq13.out] at hx189_3)
        cases e189
        replace hx189_0 := xR HB hx189_0; replace hx189_1 := xR HB hx189_1; replace hx189_2 := xR HB hx189_2; replace hx189_3 := xR HB hx189_3; replace p189 := eq_true p189; replace q189 := eq_true q189
        go_wp2_with (first | ((with_reducible refine gate_dst (N := 7) rfl ?_); refine xG (cs := #[.int .i64 0, .int .i64 0, .int .i64 0, .bool false]) (t := 64) ?_; intro gb190 hg w27 hbox hb; have BK190 := xm (hbox); have GW190 := xm (xZ HB hg); have GE190 := xm (xZ HB hg); have NB187_190 := xm (xN BK187 hg); have NB190_187 := xm (xM BK187 hg); have NB188_190 := xm (xN BK188 hg); have NB190_188 := xm (xM BK188 hg); replace BK187 := xm (xB BK187 hb); replace BK188 := xm (xB BK188 hb); replace HB := xm (xS HB hb); clear hb hbox hg; have hnb28 := NB190_187.out; have hnc28 := NB187_190.out; have hnb29 := NB190_188.out; have hnc29 := NB188_190.out; have hcz30_0 := blkc4 BK190.out; have hcz32_0 := blkc11 BK187.out; have hcz33_0 := blkc5 BK188.out) | ((with_reducible refine gate_callee (f := 43) rfl ?_); refine xL (some 21) Try.func43 #[.agg #[.string a0_0, .int .i64 a0_1, .int .i64 a0_2, .slice A0_3 l0_3.length c0_3, .slice A0_4 l0_4.length c0_4, .bool a0_5, .bool a0_6, .slice (some ad189) l0_7.length c0_7, .int .i64 a0_8, .int .i64 a0_9, .int .i64 a0_10], .agg #[.slice A1_0 l1_0.length c1_0, .slice A1_1 l1_1.length c1_1, .slice A1_2 l1_2.length c1_2, .int .i64 a1_3, .int .i64 a1_4], .agg #[.int .i64 ((rd_T64 l0_7 x14_1).f0), .int .i64 ((rd_T64 l0_7 x14_1).f1), .int .i64 ((rd_T64 l0_7 x14_1).f2), .bool false]] rfl ?_; (with_reducible refine (ends_holds.calls k1 a0_0 a0_1 a0_2 _ _ l0_3 _ _ l0_4 a0_5 a0_6 _ _ l0_7 a0_8 a0_9 a0_10 _ _ l1_0 _ _ l1_1 _ _ l1_2 a1_3 a1_4 ((rd_T64 l0_7 x14_1).f0) ((rd_T64 l0_7 x14_1).f1) ((rd_T64 l0_7 x14_1).f2) false true _ ?side1 ?side2 ?side3 ?side4 ?side5 ?side6 ?side7 ?side8 ?side9 ?side10 ?side11 ?side12 A11.out).mono ?_); (case side1 => exact Kd.C_below HR0_3.out (xW HB)); (case side2 => exact HC0_3.out); (case side3 => exact Kd.C_below HR0_4.out (xW HB)); (case side4 => exact HC0_4.out); (case side5 => exact Kd.C_below HR0_7.out (xW HB)); (case side6 => exact HC0_7.out); (case side7 => exact Kd.C_below HR1_0.out (xW HB)); (case side8 => exact HC1_0.out); (case side9 => exact Kd.C_below HR1_1.out (xW HB)); (case side10 => exact HC1_1.out); (case side11 => exact Kd.C_below HR1_2.out (xW HB)); (case side12 => exact HC1_2.out); rintro e w34 ⟨rfl, hb⟩; refine ⟨_, rfl, ?_⟩; replace BK187 := xm (xB BK187 hb); replace BK188 := xm (xB BK188 hb); replace BK190 := xm (xP (l' := [.int .i64 ((rd_T64 l0_7 x14_1).f0), .int .i64 ((rd_T64 l0_7 x14_1).f1), .int .i64 ((rd_T64 l0_7 x14_1).f2), .bool false]) BK190 hb); replace HB := xm (xS HB hb); (try clear hb); (try clear hb2); (try clear hk); (try clear hi); have hcz35_0 := blkc4 BK190.out) | ((with_reducible refine gate_callee (f := 44) rfl ?_); refine xL (some 28) Try.func44 #[.int .i64 (wrap64 (1 - a1_3))] rfl ?_; (with_reducible refine (ends_wins.calls (wrap64 (1 - a1_3)) t193 _ A26.out).mono ?_); rintro e w' ⟨rfl, ⟨nd, rfl⟩⟩; refine ⟨_, rfl, ?_⟩))
        go_ret
        exact ⟨xer, xW HB⟩
      ·replace c12 := Bool.eq_false_iff.mpr c12
       subst c12
       rw [if_neg xF] at H
       have H' := xm H
       clear H
       have p189 : 0 ≤ (x14_1 : Int) := xO
       have q189 : x14_1 < (l0_7.length : Int) := xO
       obtain ⟨ad189, e189, hx189_0, hx189_1, hx189_2, hx189_3⟩ := at_T64 HR0_7.out x14_1 p189 q189
       cases e189
       replace hx189_0 := xR HB hx189_0; replace hx189_1 := xR HB hx189_1; replace hx189_2 := xR HB hx189_2; replace hx189_3 := xR HB hx189_3; replace p189 := eq_true p189; replace q189 := eq_true q189
       go_wp2_with (first | ((with_reducible refine gate_dst (N := 7) rfl ?_); refine xG (cs := #[.int .i64 0, .int .i64 0, .int .i64 0, .bool false]) (t := 64) ?_; intro gb190 hg w36 hbox hb; have BK190 := xm (hbox); have GW190 := xm (xZ HB hg); have GE190 := xm (xZ HB hg); have NB187_190 := xm (xN BK187 hg); have NB190_187 := xm (xM BK187 hg); have NB188_190 := xm (xN BK188 hg); have NB190_188 := xm (xM BK188 hg); replace BK187 := xm (xB BK187 hb); replace BK188 := xm (xB BK188 hb); replace HB := xm (xS HB hb); clear hb hbox hg; have hnb37 := NB190_187.out; have hnc37 := NB187_190.out; have hnb38 := NB190_188.out; have hnc38 := NB188_190.out; have hcz39_0 := blkc4 BK190.out; have hcz41_0 := blkc11 BK187.out; have hcz42_0 := blkc5 BK188.out) | ((with_reducible refine gate_callee (f := 43) rfl ?_); refine xL (some 21) Try.func43 #[.agg #[.string a0_0, .int .i64 a0_1, .int .i64 a0_2, .slice A0_3 l0_3.length c0_3, .slice A0_4 l0_4.length c0_4, .bool a0_5, .bool a0_6, .slice (some ad189) l0_7.length c0_7, .int .i64 a0_8, .int .i64 a0_9, .int .i64 a0_10], .agg #[.slice A1_0 l1_0.length c1_0, .slice A1_1 l1_1.length c1_1, .slice A1_2 l1_2.length c1_2, .int .i64 a1_3, .int .i64 a1_4], .agg #[.int .i64 ((rd_T64 l0_7 x14_1).f0), .int .i64 ((rd_T64 l0_7 x14_1).f1), .int .i64 ((rd_T64 l0_7 x14_1).f2), .bool ((rd_T64 l0_7 x14_1).f3)]] rfl ?_; (with_reducible refine (ends_holds.calls k1 a0_0 a0_1 a0_2 _ _ l0_3 _ _ l0_4 a0_5 a0_6 _ _ l0_7 a0_8 a0_9 a0_10 _ _ l1_0 _ _ l1_1 _ _ l1_2 a1_3 a1_4 ((rd_T64 l0_7 x14_1).f0) ((rd_T64 l0_7 x14_1).f1) ((rd_T64 l0_7 x14_1).f2) ((rd_T64 l0_7 x14_1).f3) false _ ?side1 ?side2 ?side3 ?side4 ?side5 ?side6 ?side7 ?side8 ?side9 ?side10 ?side11 ?side12 A11.out).mono ?_); (case side1 => exact Kd.C_below HR0_3.out (xW HB)); (case side2 => exact HC0_3.out); (case side3 => exact Kd.C_below HR0_4.out (xW HB)); (case side4 => exact HC0_4.out); (case side5 => exact Kd.C_below HR0_7.out (xW HB)); (case side6 => exact HC0_7.out); (case side7 => exact Kd.C_below HR1_0.out (xW HB)); (case side8 => exact HC1_0.out); (case side9 => exact Kd.C_below HR1_1.out (xW HB)); (case side10 => exact HC1_1.out); (case side11 => exact Kd.C_below HR1_2.out (xW HB)); (case side12 => exact HC1_2.out); rintro e w43 ⟨rfl, hb⟩; refine ⟨_, rfl, ?_⟩; replace BK187 := xm (xB BK187 hb); replace BK188 := xm (xB BK188 hb); replace BK190 := xm (xP (l' := [.int .i64 ((rd_T64 l0_7 x14_1).f0), .int .i64 ((rd_T64 l0_7 x14_1).f1), .int .i64 ((rd_T64 l0_7 x14_1).f2), .bool ((rd_T64 l0_7 x14_1).f3)]) BK190 hb); replace HB := xm (xS HB hb); (try clear hb); (try clear hb2); (try clear hk); (try clear hi)))
       go_roundg k1
       case measure => have := HK1.out; omega
       case rel => exact ⟨(wrap64 (x14_1 + 1)), (xrf), H', ⟨by have := HK1.out; omega⟩, ⟨xK BK187⟩, ⟨xK BK188⟩, ⟨xW HB⟩⟩
     ·rw [if_neg c10] at H
      exact absurd H (by simp)
    ·rw [if_neg c9] at H
     exact absurd H (by simp)
   ·rw [if_neg c8] at H
    have c8b0 := decide_eq_false c8
    clear c8; have HC44 := xm H; clear H
    go_upto_region 10 with (fail)
    go_cut [30] (fun vs30 wc => ∃ (kq : Nat) (x30_43 : Bool), vs30 = .bool x30_43 ∧ Aside0 (ends_Result.j1 kq (wrap64 (1 - a1_3)) x30_43 a0_0 a0_1 a0_2 l0_3 l0_4 a0_5 a0_6 l0_7 a0_8 a0_9 a0_10 l1_0 l1_1 l1_2 a1_3 a1_4 = some r) ∧ Aside0 (kq ≤ k1) ∧ Aside0 (wc.heap[gb187]? = some (.cells #[.string a0_0, .int .i64 a0_1, .int .i64 a0_2, (.slice A0_3 l0_3.length c0_3), (.slice A0_4 l0_4.length c0_4), .bool a0_5, .bool a0_6, (.slice A0_7 l0_7.length c0_7), .int .i64 a0_8, .int .i64 a0_9, .int .i64 a0_10] 26 (0, 0))) ∧ Aside0 (wc.heap[gb188]? = some (.cells #[(.slice A1_0 l1_0.length c1_0), (.slice A1_1 l1_1.length c1_1), (.slice A1_2 l1_2.length c1_2), .int .i64 a1_3, .int .i64 a1_4] 29 (0, 0))) ∧ Aside0 (Below w.heap.size w wc))
    case first =>
     have H := HC44.out; clear HC44
     by_cases c45 : a0_9 > 0
     ·rw [if_pos c45] at H
      have c45b0 := decide_eq_true c45
      clear c45
      (first | rw [c45b0] | (simp only [i64_w, i32_w]; rw [c45b0]) | skip)
      have H' := xm H
      clear H; have hcz47_0 := blkc11 BK187.out; have hcz48_0 := blkc5 BK188.out
      go_wp2
      go_meet
      case rel => exact ⟨_, (decide (a1_4 ≥ a0_9)), (xrf), H', ⟨by have := HK1.out; first | omega | exact Nat.le_refl _⟩, ⟨xK BK187⟩, ⟨xK BK188⟩, ⟨xW HB⟩⟩
     ·rw [if_neg c45] at H
      have c45b0 := decide_eq_false c45
      clear c45
      (first | rw [c45b0] | (simp only [i64_w, i32_w]; rw [c45b0]) | skip)
      have H' := xm H
      clear H; have hcz50_0 := blkc11 BK187.out
      go_wp2
      go_meet
      case rel => exact ⟨_, (false), (xrf), H', ⟨by have := HK1.out; first | omega | exact Nat.le_refl _⟩, ⟨xK BK187⟩, ⟨xK BK188⟩, ⟨xW HB⟩⟩
    case rest =>
     clear HC44; (try clear p1); (try clear q1); (try clear hx1); (try clear p2); (try clear p6); (try clear q13); (try clear p18); (try clear q18); (try clear hx18); (try clear hx189_0); (try clear hx189_1); (try clear hx189_2); (try clear hx189_3); (try clear p189); (try clear p2); (try clear p6); (try clear q189)
     obtain ⟨kq, x30_43, rfl, HA, HJ43, BK187, BK188, HB⟩ := hcut
     cases kq with
     | zero => exact absurd HA.out (by simp [ends_Result.j1])
     | succ kj43 =>
      have H := HA.out; clear HA
      simp only [ends_Result.j1] at H
      by_cases c51 : x30_43 = true
      ·subst c51
       rw [if_pos rfl] at H
       obtain rfl := Option.some.inj H
       go_wp2
       go_ret
       exact ⟨xer, xW HB⟩
      ·replace c51 := Bool.eq_false_iff.mpr c51
       subst c51
       rw [if_neg xF] at H
       replace H := Option.bind_eq_some_iff.mp H
       obtain ⟨t194, A520, H⟩ := H
       try dsimp only at H
       have A52 := xm A520; clear A520; have DA52 := xm fun (W_ : World) (hb_ : Below w.heap.size w W_) => moves_Gen.calls kj43 a0_0 a0_1 a0_2 _ _ l0_3 _ _ l0_4 a0_5 a0_6 _ _ l0_7 a0_8 a0_9 a0_10 _ _ l1_0 _ _ l1_1 _ _ l1_2 a1_3 a1_4 t194 W_ (Kd.C_below HR0_3.out hb_) HC0_3.out (Kd.C_below HR0_4.out hb_) HC0_4.out (Kd.C_below HR0_7.out hb_) HC0_7.out (Kd.C_below HR1_0.out hb_) HC1_0.out (Kd.C_below HR1_1.out hb_) HC1_1.out (Kd.C_below HR1_2.out hb_) HC1_2.out A52.out
       by_cases c53 : (t194.length : Int) > 0
       ·rw [if_pos c53] at H
        have c53b0 := decide_eq_true c53
        have c53b1 : decide (0 < t194.length) = true := decide_eq_true (by omega)
        clear c53
        obtain rfl := Option.some.inj H
        have hcz55_0 := blkc11 BK187.out; have hcz56_0 := blkc5 BK188.out
        go_wp2_with (first | ((with_reducible refine gate_callee (f := 34) rfl ?_); refine xL (some 44) Try.func34 #[.agg #[.string a0_0, .int .i64 a0_1, .int .i64 a0_2, .slice A0_3 l0_3.length c0_3, .slice A0_4 l0_4.length c0_4, .bool a0_5, .bool a0_6, .slice A0_7 l0_7.length c0_7, .int .i64 a0_8, .int .i64 a0_9, .int .i64 a0_10], .agg #[.slice A1_0 l1_0.length c1_0, .slice A1_1 l1_1.length c1_1, .slice A1_2 l1_2.length c1_2, .int .i64 a1_3, .int .i64 a1_4]] rfl ?_; (with_reducible refine (DA52.out _ ?sB).mono ?_); (case sB => exact xW HB); rintro e w57 ⟨v195, rfl, ho0, hb⟩; refine ⟨_, rfl, ?_⟩; have HO196 := xm (Kd.R_lower ho0 (below_size (xW HB))); replace BK187 := xm (xB BK187 hb); replace BK188 := xm (xB BK188 hb); replace HB := xm (xS HB hb); (try clear hb); (try clear hb2); (try clear hk); (try clear hi); (try clear ho0); obtain ⟨Ao58, co58, eo58⟩ := Kd.R_slice HO196.out; subst eo58))
        go_ret
        exact ⟨xer, xW HB⟩
       ·rw [if_neg c53] at H
        have c53b0 := decide_eq_false c53
        have c53b1 : decide (0 < t194.length) = false := decide_eq_false (by omega)
        clear c53
        by_cases c59 : a0_8 = 0
        ·rw [if_pos c59] at H
         have c59b0 := beq_iff_eq.mpr c59
         have c59b1 := bne_eq_false_iff_eq.mpr c59
         clear c59; replace H := Option.bind_eq_some_iff.mp H
         obtain ⟨t197, A600, H⟩ := H
         replace H : (some t197) = some r := H
         have A60 := xm A600; clear A600
         obtain rfl := Option.some.inj H
         have hcz62_0 := blkc11 BK187.out; have hcz63_0 := blkc5 BK188.out
         go_wp2_with (first | ((with_reducible refine gate_callee (f := 34) rfl ?_); refine xL (some 44) Try.func34 #[.agg #[.string a0_0, .int .i64 a0_1, .int .i64 a0_2, .slice A0_3 l0_3.length c0_3, .slice A0_4 l0_4.length c0_4, .bool a0_5, .bool a0_6, .slice A0_7 l0_7.length c0_7, .int .i64 a0_8, .int .i64 a0_9, .int .i64 a0_10], .agg #[.slice A1_0 l1_0.length c1_0, .slice A1_1 l1_1.length c1_1, .slice A1_2 l1_2.length c1_2, .int .i64 a1_3, .int .i64 a1_4]] rfl ?_; (with_reducible refine (DA52.out _ ?sB).mono ?_); (case sB => exact xW HB); rintro e w64 ⟨v195, rfl, ho0, hb⟩; refine ⟨_, rfl, ?_⟩; have HO196 := xm (Kd.R_lower ho0 (below_size (xW HB))); replace BK187 := xm (xB BK187 hb); replace BK188 := xm (xB BK188 hb); replace HB := xm (xS HB hb); (try clear hb); (try clear hb2); (try clear hk); (try clear hi); (try clear ho0); obtain ⟨Ao65, co65, eo65⟩ := Kd.R_slice HO196.out; subst eo65; have hcz66_0 := blkc11 BK187.out) | ((with_reducible refine gate_callee (f := 44) rfl ?_); refine xL (some 52) Try.func44 #[.int .i64 (wrap64 (1 - a1_3))] rfl ?_; (with_reducible refine (ends_wins.calls (wrap64 (1 - a1_3)) t197 _ A60.out).mono ?_); rintro e w' ⟨rfl, ⟨nd, rfl⟩⟩; refine ⟨_, rfl, ?_⟩))
         go_ret
         exact ⟨xer, xW HB⟩
        ·rw [if_neg c59] at H
         have c59b0 := beq_eq_false_iff_ne.mpr c59
         have c59b1 := bne_iff_ne.mpr c59
         by_cases c67 : a0_8 = 1
         ·rw [if_pos c67] at H
          have c67b0 := beq_iff_eq.mpr c67
          have c67b1 := bne_eq_false_iff_eq.mpr c67
          clear c67; replace H := Option.bind_eq_some_iff.mp H
          obtain ⟨t198, A680, H⟩ := H
          replace H : (some t198) = some r := H
          have A68 := xm A680; clear A680
          obtain rfl := Option.some.inj H
          have hcz70_0 := blkc11 BK187.out; have hcz71_0 := blkc5 BK188.out
          go_wp2_with (first | ((with_reducible refine gate_callee (f := 34) rfl ?_); refine xL (some 44) Try.func34 #[.agg #[.string a0_0, .int .i64 a0_1, .int .i64 a0_2, .slice A0_3 l0_3.length c0_3, .slice A0_4 l0_4.length c0_4, .bool a0_5, .bool a0_6, .slice A0_7 l0_7.length c0_7, .int .i64 a0_8, .int .i64 a0_9, .int .i64 a0_10], .agg #[.slice A1_0 l1_0.length c1_0, .slice A1_1 l1_1.length c1_1, .slice A1_2 l1_2.length c1_2, .int .i64 a1_3, .int .i64 a1_4]] rfl ?_; (with_reducible refine (DA52.out _ ?sB).mono ?_); (case sB => exact xW HB); rintro e w72 ⟨v195, rfl, ho0, hb⟩; refine ⟨_, rfl, ?_⟩; have HO196 := xm (Kd.R_lower ho0 (below_size (xW HB))); replace BK187 := xm (xB BK187 hb); replace BK188 := xm (xB BK188 hb); replace HB := xm (xS HB hb); (try clear hb); (try clear hb2); (try clear hk); (try clear hi); (try clear ho0); obtain ⟨Ao73, co73, eo73⟩ := Kd.R_slice HO196.out; subst eo73; have hcz74_0 := blkc11 BK187.out; have hcz75_0 := blkc5 BK188.out) | ((with_reducible refine gate_callee (f := 44) rfl ?_); refine xL (some 57) Try.func44 #[.int .i64 a1_3] rfl ?_; (with_reducible refine (ends_wins.calls a1_3 t198 _ A68.out).mono ?_); rintro e w' ⟨rfl, ⟨nd, rfl⟩⟩; refine ⟨_, rfl, ?_⟩))
          go_ret
          exact ⟨xer, xW HB⟩
         ·rw [if_neg c67] at H
          have c67b0 := beq_eq_false_iff_ne.mpr c67
          have c67b1 := bne_iff_ne.mpr c67
          obtain rfl := Option.some.inj H
          have hcz77_0 := blkc11 BK187.out; have hcz78_0 := blkc5 BK188.out
          go_wp2_with (first | ((with_reducible refine gate_callee (f := 34) rfl ?_); refine xL (some 44) Try.func34 #[.agg #[.string a0_0, .int .i64 a0_1, .int .i64 a0_2, .slice A0_3 l0_3.length c0_3, .slice A0_4 l0_4.length c0_4, .bool a0_5, .bool a0_6, .slice A0_7 l0_7.length c0_7, .int .i64 a0_8, .int .i64 a0_9, .int .i64 a0_10], .agg #[.slice A1_0 l1_0.length c1_0, .slice A1_1 l1_1.length c1_1, .slice A1_2 l1_2.length c1_2, .int .i64 a1_3, .int .i64 a1_4]] rfl ?_; (with_reducible refine (DA52.out _ ?sB).mono ?_); (case sB => exact xW HB); rintro e w79 ⟨v195, rfl, ho0, hb⟩; refine ⟨_, rfl, ?_⟩; have HO196 := xm (Kd.R_lower ho0 (below_size (xW HB))); replace BK187 := xm (xB BK187 hb); replace BK188 := xm (xB BK188 hb); replace HB := xm (xS HB hb); (try clear hb); (try clear hb2); (try clear hk); (try clear hi); (try clear ho0); obtain ⟨Ao80, co80, eo80⟩ := Kd.R_slice HO196.out; subst eo80; have hcz81_0 := blkc11 BK187.out))
          go_ret
          exact ⟨xer, xW HB⟩

/-! ### ends_Of: function 7 -/
def ends_Of.f (k : Nat) (a0_0 : ByteArray) (a0_1 : Int) (a0_2 : Int) (l0_3 : List (S62)) (l0_4 : List Int) (a0_5 : Bool) (a0_6 : Bool) (l0_7 : List (S64)) (a0_8 : Int) (a0_9 : Int) (a0_10 : Int) (l1_0 : List Int) (l1_1 : List Int) (l1_2 : List Int) (a1_3 : Int) (a1_4 : Int) : Option (Int × Int) := (place_Check.f k a0_0 a0_1 a0_2 l0_3 l0_4 a0_5 a0_6 l0_7 a0_8 a0_9 a0_10 l1_0 l1_1 l1_2 a1_3 a1_4).bind fun t201 => (if t201 = 0 then ((ends_Result.f k a0_0 a0_1 a0_2 l0_3 l0_4 a0_5 a0_6 l0_7 a0_8 a0_9 a0_10 l1_0 l1_1 l1_2 a1_3 a1_4).bind fun t202 => (some (t202, 0))) else (some (0, t201)))
theorem ends_Of.mono : ∀ a0 a1 a2 a3 a4 a5 a6 a7 a8 a9 a10 a11 a12 a13 a14 a15 k, LeO (ends_Of.f k a0 a1 a2 a3 a4 a5 a6 a7 a8 a9 a10 a11 a12 a13 a14 a15) (ends_Of.f (k + 1) a0 a1 a2 a3 a4 a5 a6 a7 a8 a9 a10 a11 a12 a13 a14 a15) := by
  intros; rename_i k
  unfold ends_Of.f
  repeat' first | (with_reducible first | apply ends_Result.mono | apply place_Check.mono | exact LeO.refl _ | exact LeO.none _ | refine LeO.ite ?_ ?_ | refine LeO.bind ?_ (fun _ => ?_)) | apply ends_Result.mono | apply place_Check.mono | exact LeO.none _ | refine LeO.ite ?_ ?_ | refine LeO.bind ?_ (fun _ => ?_)
theorem ends_Of.calls (k : Nat) (a0_0 : ByteArray) (a0_1 : Int) (a0_2 : Int) (A0_3 : Option Addr) (c0_3 : Nat) (l0_3 : List (S62)) (A0_4 : Option Addr) (c0_4 : Nat) (l0_4 : List Int) (a0_5 : Bool) (a0_6 : Bool) (A0_7 : Option Addr) (c0_7 : Nat) (l0_7 : List (S64)) (a0_8 : Int) (a0_9 : Int) (a0_10 : Int) (A1_0 : Option Addr) (c1_0 : Nat) (l1_0 : List Int) (A1_1 : Option Addr) (c1_1 : Nat) (l1_1 : List Int) (A1_2 : Option Addr) (c1_2 : Nat) (l1_2 : List Int) (a1_3 : Int) (a1_4 : Int) (r1 : Int) (r2 : Int) (w : World) (hr0_3 : Kd.C k62 w A0_3 l0_3.length l0_3) (hc0_3 : l0_3.length ≤ c0_3) (hr0_4 : Kd.C (Kd.int .i64) w A0_4 l0_4.length l0_4) (hc0_4 : l0_4.length ≤ c0_4) (hr0_7 : Kd.C k64 w A0_7 l0_7.length l0_7) (hc0_7 : l0_7.length ≤ c0_7) (hr1_0 : Kd.C (Kd.int .i64) w A1_0 l1_0.length l1_0) (hc1_0 : l1_0.length ≤ c1_0) (hr1_1 : Kd.C (Kd.int .i64) w A1_1 l1_1.length l1_1) (hc1_1 : l1_1.length ≤ c1_1) (hr1_2 : Kd.C (Kd.int .i64) w A1_2 l1_2.length l1_2) (hc1_2 : l1_2.length ≤ c1_2) (h : ends_Of.f k a0_0 a0_1 a0_2 l0_3 l0_4 a0_5 a0_6 l0_7 a0_8 a0_9 a0_10 l1_0 l1_1 l1_2 a1_3 a1_4 = some (r1, r2)) :
    Calls Try.prog 7 #[.agg #[.string a0_0, .int .i64 a0_1, .int .i64 a0_2, .slice A0_3 l0_3.length c0_3, .slice A0_4 l0_4.length c0_4, .bool a0_5, .bool a0_6, .slice A0_7 l0_7.length c0_7, .int .i64 a0_8, .int .i64 a0_9, .int .i64 a0_10], .agg #[.slice A1_0 l1_0.length c1_0, .slice A1_1 l1_1.length c1_1, .slice A1_2 l1_2.length c1_2, .int .i64 a1_3, .int .i64 a1_4]] w fun e w' => e = .returned (.tuple #[.int .i64 r1, .int .i64 r2]) ∧ Below w.heap.size w w' := by
 have hu26 := Try.underlying26; have hu29 := Try.underlying29; have HR0_3 := xm hr0_3; have HC0_3 := xm hc0_3; clear hr0_3 hc0_3; have HR0_4 := xm hr0_4; have HC0_4 := xm hc0_4; clear hr0_4 hc0_4; have HR0_7 := xm hr0_7; have HC0_7 := xm hc0_7; clear hr0_7 hc0_7; have HR1_0 := xm hr1_0; have HC1_0 := xm hc1_0; clear hr1_0 hc1_0; have HR1_1 := xm hr1_1; have HC1_1 := xm hc1_1; clear hr1_1 hc1_1; have HR1_2 := xm hr1_2; have HC1_2 := xm hc1_2; clear hr1_2 hc1_2; have HB := xm (Below.refl w.heap.size w); have hss_ := @isSome_setCell
 have H : ((place_Check.f k a0_0 a0_1 a0_2 l0_3 l0_4 a0_5 a0_6 l0_7 a0_8 a0_9 a0_10 l1_0 l1_1 l1_2 a1_3 a1_4).bind fun t201 => (if t201 = 0 then ((ends_Result.f k a0_0 a0_1 a0_2 l0_3 l0_4 a0_5 a0_6 l0_7 a0_8 a0_9 a0_10 l1_0 l1_1 l1_2 a1_3 a1_4).bind fun t202 => (some (t202, 0))) else (some (0, t201)))) = some (r1, r2) := h
 clear h; replace H := Option.bind_eq_some_iff.mp H
 obtain ⟨t201, A30, H⟩ := H
 try dsimp only at H
 have A3 := xm A30; clear A30; have DA3 := xm fun (W_ : World) (hb_ : Below w.heap.size w W_) => place_Check.calls k a0_0 a0_1 a0_2 _ _ l0_3 _ _ l0_4 a0_5 a0_6 _ _ l0_7 a0_8 a0_9 a0_10 _ _ l1_0 _ _ l1_1 _ _ l1_2 a1_3 a1_4 t201 W_ (Kd.C_below HR0_3.out hb_) HC0_3.out (Kd.C_below HR0_4.out hb_) HC0_4.out (Kd.C_below HR0_7.out hb_) HC0_7.out (Kd.C_below HR1_0.out hb_) HC1_0.out (Kd.C_below HR1_1.out hb_) HC1_1.out (Kd.C_below HR1_2.out hb_) HC1_2.out A3.out
 by_cases c4 : t201 = 0
 ·rw [if_pos c4] at H
  have c4b0 := beq_iff_eq.mpr c4
  have c4b1 := bne_eq_false_iff_eq.mpr c4
  clear c4; replace H := Option.bind_eq_some_iff.mp H
  obtain ⟨t202, A50, H⟩ := H
  replace H : (some (t202, 0)) = some (r1, r2) := H
  have A5 := xm A50; clear A50
  simp only [Option.some.injEq, Prod.mk.injEq] at H
  obtain ⟨rfl, rfl⟩ := H
  go_enter Try.func7, Try.ntmps7
  go_wp2_with (first | ((with_reducible refine gate_dst (N := 2) rfl ?_); refine xG (cs := #[.string a0_0, .int .i64 a0_1, .int .i64 a0_2, .slice A0_3 l0_3.length c0_3, .slice A0_4 l0_4.length c0_4, .bool a0_5, .bool a0_6, .slice A0_7 l0_7.length c0_7, .int .i64 a0_8, .int .i64 a0_9, .int .i64 a0_10]) (t := 26) ?_; intro gb199 hg w6 hbox hb; have BK199 := xm (hbox); have GW199 := xm (xZ HB hg); have GE199 := xm (xZ HB hg); replace HB := xm (xS HB hb); clear hb hbox hg) | ((with_reducible refine gate_dst (N := 3) rfl ?_); refine xG (cs := #[.slice A1_0 l1_0.length c1_0, .slice A1_1 l1_1.length c1_1, .slice A1_2 l1_2.length c1_2, .int .i64 a1_3, .int .i64 a1_4]) (t := 29) ?_; intro gb200 hg w7 hbox hb; have BK200 := xm (hbox); have GW200 := xm (xZ HB hg); have GE200 := xm (xZ HB hg); have NB199_200 := xm (xN BK199 hg); have NB200_199 := xm (xM BK199 hg); replace BK199 := xm (xB BK199 hb); replace HB := xm (xS HB hb); clear hb hbox hg; have hnb8 := NB199_200.out; have hnc8 := NB200_199.out; have hcz9_0 := blkc11 BK199.out; have hcz10_0 := blkc5 BK200.out) | ((with_reducible refine gate_callee (f := 26) rfl ?_); refine xL (some 9) Try.func26 #[.agg #[.string a0_0, .int .i64 a0_1, .int .i64 a0_2, .slice A0_3 l0_3.length c0_3, .slice A0_4 l0_4.length c0_4, .bool a0_5, .bool a0_6, .slice A0_7 l0_7.length c0_7, .int .i64 a0_8, .int .i64 a0_9, .int .i64 a0_10], .agg #[.slice A1_0 l1_0.length c1_0, .slice A1_1 l1_1.length c1_1, .slice A1_2 l1_2.length c1_2, .int .i64 a1_3, .int .i64 a1_4]] rfl ?_; (with_reducible refine (DA3.out _ ?sB).mono ?_); (case sB => exact xW HB); rintro e w11 ⟨rfl, hb⟩; refine ⟨_, rfl, ?_⟩; replace BK199 := xm (xB BK199 hb); replace BK200 := xm (xB BK200 hb); replace HB := xm (xS HB hb); (try clear hb); (try clear hb2); (try clear hk); (try clear hi); have hcz12_0 := blkc11 BK199.out; have hcz13_0 := blkc5 BK200.out) | ((with_reducible refine gate_callee (f := 27) rfl ?_); refine xL (some 15) Try.func27 #[.agg #[.string a0_0, .int .i64 a0_1, .int .i64 a0_2, .slice A0_3 l0_3.length c0_3, .slice A0_4 l0_4.length c0_4, .bool a0_5, .bool a0_6, .slice A0_7 l0_7.length c0_7, .int .i64 a0_8, .int .i64 a0_9, .int .i64 a0_10], .agg #[.slice A1_0 l1_0.length c1_0, .slice A1_1 l1_1.length c1_1, .slice A1_2 l1_2.length c1_2, .int .i64 a1_3, .int .i64 a1_4]] rfl ?_; (with_reducible refine (ends_Result.calls k a0_0 a0_1 a0_2 _ _ l0_3 _ _ l0_4 a0_5 a0_6 _ _ l0_7 a0_8 a0_9 a0_10 _ _ l1_0 _ _ l1_1 _ _ l1_2 a1_3 a1_4 t202 _ ?side1 ?side2 ?side3 ?side4 ?side5 ?side6 ?side7 ?side8 ?side9 ?side10 ?side11 ?side12 A5.out).mono ?_); (case side1 => exact xC (Kd.C_below HR0_3.out HB.out)); (case side2 => exact HC0_3.out); (case side3 => exact xC (Kd.C_below HR0_4.out HB.out)); (case side4 => exact HC0_4.out); (case side5 => exact xC (Kd.C_below HR0_7.out HB.out)); (case side6 => exact HC0_7.out); (case side7 => exact xC (Kd.C_below HR1_0.out HB.out)); (case side8 => exact HC1_0.out); (case side9 => exact xC (Kd.C_below HR1_1.out HB.out)); (case side10 => exact HC1_1.out); (case side11 => exact xC (Kd.C_below HR1_2.out HB.out)); (case side12 => exact HC1_2.out); rintro e w14 ⟨rfl, hb⟩; refine ⟨_, rfl, ?_⟩; replace BK199 := xm (xB BK199 hb); replace BK200 := xm (xB BK200 hb); replace HB := xm (xS HB hb); (try clear hb); (try clear hb2); (try clear hk); (try clear hi)))
  go_ret2
  exact ⟨xer, xW HB⟩
 ·rw [if_neg c4] at H
  have c4b0 := beq_eq_false_iff_ne.mpr c4
  have c4b1 := bne_iff_ne.mpr c4
  simp only [Option.some.injEq, Prod.mk.injEq] at H
  obtain ⟨rfl, rfl⟩ := H
  go_enter Try.func7, Try.ntmps7
  go_wp2_with (first | ((with_reducible refine gate_dst (N := 2) rfl ?_); refine xG (cs := #[.string a0_0, .int .i64 a0_1, .int .i64 a0_2, .slice A0_3 l0_3.length c0_3, .slice A0_4 l0_4.length c0_4, .bool a0_5, .bool a0_6, .slice A0_7 l0_7.length c0_7, .int .i64 a0_8, .int .i64 a0_9, .int .i64 a0_10]) (t := 26) ?_; intro gb199 hg w15 hbox hb; have BK199 := xm (hbox); have GW199 := xm (xZ HB hg); have GE199 := xm (xZ HB hg); replace HB := xm (xS HB hb); clear hb hbox hg) | ((with_reducible refine gate_dst (N := 3) rfl ?_); refine xG (cs := #[.slice A1_0 l1_0.length c1_0, .slice A1_1 l1_1.length c1_1, .slice A1_2 l1_2.length c1_2, .int .i64 a1_3, .int .i64 a1_4]) (t := 29) ?_; intro gb200 hg w16 hbox hb; have BK200 := xm (hbox); have GW200 := xm (xZ HB hg); have GE200 := xm (xZ HB hg); have NB199_200 := xm (xN BK199 hg); have NB200_199 := xm (xM BK199 hg); replace BK199 := xm (xB BK199 hb); replace HB := xm (xS HB hb); clear hb hbox hg; have hnb17 := NB199_200.out; have hnc17 := NB200_199.out; have hcz18_0 := blkc11 BK199.out; have hcz19_0 := blkc5 BK200.out) | ((with_reducible refine gate_callee (f := 26) rfl ?_); refine xL (some 9) Try.func26 #[.agg #[.string a0_0, .int .i64 a0_1, .int .i64 a0_2, .slice A0_3 l0_3.length c0_3, .slice A0_4 l0_4.length c0_4, .bool a0_5, .bool a0_6, .slice A0_7 l0_7.length c0_7, .int .i64 a0_8, .int .i64 a0_9, .int .i64 a0_10], .agg #[.slice A1_0 l1_0.length c1_0, .slice A1_1 l1_1.length c1_1, .slice A1_2 l1_2.length c1_2, .int .i64 a1_3, .int .i64 a1_4]] rfl ?_; (with_reducible refine (DA3.out _ ?sB).mono ?_); (case sB => exact xW HB); rintro e w20 ⟨rfl, hb⟩; refine ⟨_, rfl, ?_⟩; replace BK199 := xm (xB BK199 hb); replace BK200 := xm (xB BK200 hb); replace HB := xm (xS HB hb); (try clear hb); (try clear hb2); (try clear hk); (try clear hi)))
  go_ret2
  exact ⟨xer, xW HB⟩

/-! ### gamehalllaw1_three: function 8 -/
def gamehalllaw1_three.f  : Option (ByteArray × Int × Int × (List (S62)) × List Int × Bool × Bool × (List (S64)) × Int × Int × Int) := if 9 ≤ 35184372088832 then (some ((⟨#[84, 73, 67]⟩ : ByteArray), 3, 3, (([(⟨65, 5, 0, ([] : List (S74))⟩ : S62)] : List (S62))), (List.replicate 9 0), false, false, (([(⟨0, 0, 3, false⟩ : S64)] : List (S64))), 2, 0, 0)) else (none)
theorem gamehalllaw1_three.calls  (r1 : ByteArray) (r2 : Int) (r3 : Int) (r4 : List (S62)) (r5 : List Int) (r6 : Bool) (r7 : Bool) (r8 : List (S64)) (r9 : Int) (r10 : Int) (r11 : Int) (w : World) (h : gamehalllaw1_three.f  = some (r1, r2, r3, r4, r5, r6, r7, r8, r9, r10, r11)) :
    Calls Try.prog 8 #[] w fun e w' => ∃ v3_ v4_ v7_ : Value, e = .returned (.agg #[.string r1, .int .i64 r2, .int .i64 r3, v3_, v4_, .bool r6, .bool r7, v7_, .int .i64 r9, .int .i64 r10, .int .i64 r11]) ∧ Kd.S k62 62 w' w.heap.size (fun _ => True) v3_ r4 ∧ Kd.R (Kd.int .i64) 3 w' w.heap.size (fun _ => True) v4_ r5 ∧ Kd.R k64 64 w' w.heap.size (fun _ => True) v7_ r8 ∧ Below w.heap.size w w' := by
 have hu26 := Try.underlying26; have hu62 := Try.underlying62; have hu64 := Try.underlying64; have HB := xm (Below.refl w.heap.size w); have hss_ := @isSome_setCell
 have H : (if 9 ≤ 35184372088832 then (some ((⟨#[84, 73, 67]⟩ : ByteArray), 3, 3, (([(⟨65, 5, 0, ([] : List (S74))⟩ : S62)] : List (S62))), (List.replicate 9 0), false, false, (([(⟨0, 0, 3, false⟩ : S64)] : List (S64))), 2, 0, 0)) else (none)) = some (r1, r2, r3, r4, r5, r6, r7, r8, r9, r10, r11) := h
 clear h
 obtain ⟨y204, hy204⟩ : ∃ y_ : List (S62), y_ = (([(⟨65, 5, 0, ([] : List (S74))⟩ : S62)] : List (S62))) := ⟨_, rfl⟩
 replace H : (if 9 ≤ 35184372088832 then (some ((⟨#[84, 73, 67]⟩ : ByteArray), 3, 3, y204, (List.replicate 9 0), false, false, (([(⟨0, 0, 3, false⟩ : S64)] : List (S64))), 2, 0, 0)) else (none)) = some (r1, r2, r3, r4, r5, r6, r7, r8, r9, r10, r11) := by first | (rw [hy204]; with_reducible exact H) | (have H2_ := (Option.bind_some _ _).symm.trans H; rw [hy204]; with_reducible exact H2_) | (have H2_ := (Option.bind_some _ _).symm.trans H; with_reducible exact H2_) | with_reducible exact H | (rw [hy204]; exact H) | exact H
 have Ny204 := xm hy204; clear hy204
 by_cases c1 : 9 ≤ 35184372088832
 ·rw [if_pos c1] at H
  have c1b0 := eq_true c1
  have c1b1 := decide_eq_true c1
  clear c1
  obtain ⟨y207, hy207⟩ : ∃ y_ : List Int, y_ = (List.replicate 9 0) := ⟨_, rfl⟩
  replace H : (some ((⟨#[84, 73, 67]⟩ : ByteArray), 3, 3, y204, y207, false, false, (([(⟨0, 0, 3, false⟩ : S64)] : List (S64))), 2, 0, 0)) = some (r1, r2, r3, r4, r5, r6, r7, r8, r9, r10, r11) := by first | (rw [hy207]; with_reducible exact H) | (have H2_ := (Option.bind_some _ _).symm.trans H; rw [hy207]; with_reducible exact H2_) | (have H2_ := (Option.bind_some _ _).symm.trans H; with_reducible exact H2_) | with_reducible exact H | (rw [hy207]; exact H) | exact H
  have Ny207 := xm hy207; clear hy207
  obtain ⟨y210, hy210⟩ : ∃ y_ : List (S64), y_ = (([(⟨0, 0, 3, false⟩ : S64)] : List (S64))) := ⟨_, rfl⟩
  replace H : (some ((⟨#[84, 73, 67]⟩ : ByteArray), 3, 3, y204, y207, false, false, y210, 2, 0, 0)) = some (r1, r2, r3, r4, r5, r6, r7, r8, r9, r10, r11) := by first | (rw [hy210]; with_reducible exact H) | (have H2_ := (Option.bind_some _ _).symm.trans H; rw [hy210]; with_reducible exact H2_) | (have H2_ := (Option.bind_some _ _).symm.trans H; with_reducible exact H2_) | with_reducible exact H | (rw [hy210]; exact H) | exact H
  have Ny210 := xm hy210; clear hy210
  simp only [Option.some.injEq, Prod.mk.injEq] at H
  obtain ⟨rfl, rfl, rfl, rfl, rfl, rfl, rfl, rfl, rfl, rfl, rfl⟩ := H
  go_enter Try.func8, Try.ntmps8
  go_wp2_with (first | ((with_reducible refine gate_dst (N := 0) rfl ?_); refine xG (cs := #[.string (⟨#[]⟩ : ByteArray), .int .i64 0, .int .i64 0, .slice none 0 0, .slice none 0 0, .bool false, .bool false, .slice none 0 0, .int .i64 0, .int .i64 0, .int .i64 0]) (t := 26) ?_; intro gb203 hg w2 hbox hb; have BK203 := xm (hbox); have GW203 := xm (xZ HB hg); have GE203 := xm (xZ HB hg); replace HB := xm (xS HB hb); clear hb hbox hg) | ((with_reducible refine gate_dst (N := 2) rfl ?_); refine Kd.S_lit k62 _ 62 ?hg (N := 2) ?hd (xs := ([(⟨65, 5, 0, ([] : List (S74))⟩ : S62)] : List (S62))) (inner := [.int .u8 65, .int .i64 5, .int .i64 0, .slice none 0 0]) (ok := fun _ => True) (okp := fun _ => True) ?hr ?hp (fun _ hk => hk) trivial (Below.refl _ _) (Nat.le_refl _) (by simp) ?_; (case hd => rfl); (case hg => rfl); (case hr => first | (go_simp; done) | (go_simp; rfl)); (case hp => exact (Reps.c4 (show Kd.M k62 _ _ _ (⟨65, 5, 0, ([] : List (S74))⟩ : S62) [.int .u8 65, .int .i64 5, .int .i64 0, .slice none 0 0] from (k62_mkM _ _ _ (⟨65, 5, 0, ([] : List (S74))⟩ : S62) (Kd.R_nil _ _ _ _ _))) (Reps.none _ _))); intro v205 w3 ho4 hb hg_ hnew_; clear hg_ hnew_; (first | rw [← Ny204.out] at ho4 | (simp only [Int.reduceToNat] at ho4; rw [← Ny204.out] at ho4)); have HO206 := xm (Kd.S_lower ho4 (below_size (xW HB))); replace BK203 := xm (xB BK203 hb); replace HB := xm (xS HB hb); clear hb ho4) | ((with_reducible refine gate_dst (N := 3) rfl ?_); refine Kd.R_make (Kd.int .i64) _ 3 rfl (N := 3) rfl 23 _ _ rfl 9 rfl rfl Try.underlying23 (.int .i64 0) 8 info3 rfl (by decide) (by omega) 0 (ok := fun _ => True) (okp := fun _ => True) rfl (fun _ hk => hk) trivial (by omega) (by omega) (Below.refl _ _) (Nat.le_refl _) ?_; intro v208 w5 ho6 hb hg_ hnew_; clear hg_ hnew_; (first | rw [← Ny207.out] at ho6 | (simp only [Int.reduceToNat] at ho6; rw [← Ny207.out] at ho6)); have HO209 := xm (Kd.R_lower ho6 (below_size (xW HB))); replace HO206 := xm (Kd.S_below (by (with_reducible repeat (first | apply Kd.S_alloc | apply Kd.S_drewN | apply Kd.S_drew)); exact HO206.out) hb); replace BK203 := xm (xB BK203 hb); replace HB := xm (xS HB hb); clear hb ho6) | ((with_reducible refine gate_dst (N := 5) rfl ?_); refine Kd.R_lit k64 _ 64 ?hg (N := 5) ?hd (xs := ([(⟨0, 0, 3, false⟩ : S64)] : List (S64))) (inner := [.int .i64 0, .int .i64 0, .int .i64 3, .bool false]) (ok := fun _ => True) (okp := fun _ => True) ?hr ?hp (fun _ hk => hk) trivial (Below.refl _ _) (Nat.le_refl _) (by simp) ?_; (case hd => rfl); (case hg => rfl); (case hr => first | (go_simp; done) | (go_simp; rfl)); (case hp => exact (Reps.c4 (show Kd.M k64 _ _ _ (⟨0, 0, 3, false⟩ : S64) [.int .i64 0, .int .i64 0, .int .i64 3, .bool false] from (k64_mkM _ _ _ (⟨0, 0, 3, false⟩ : S64) )) (Reps.none _ _))); intro v211 w7 ho8 hb hg_ hnew_; clear hg_ hnew_; (first | rw [← Ny210.out] at ho8 | (simp only [Int.reduceToNat] at ho8; rw [← Ny210.out] at ho8)); have HO212 := xm (Kd.R_lower ho8 (below_size (xW HB))); replace HO206 := xm (Kd.S_below (by (with_reducible repeat (first | apply Kd.S_alloc | apply Kd.S_drewN | apply Kd.S_drew)); exact HO206.out) hb); replace HO209 := xm (Kd.R_below (by (with_reducible repeat (first | apply Kd.R_alloc | apply Kd.R_drewN | apply Kd.R_drew)); exact HO209.out) hb); replace BK203 := xm (xB BK203 hb); replace HB := xm (xS HB hb); clear hb ho8; obtain ⟨Ao9, co9, eo9⟩ := Kd.R_slice HO212.out; subst eo9; obtain ⟨Ao10, co10, eo10⟩ := Kd.R_slice HO209.out; subst eo10; obtain ⟨Ao11, co11, eo11⟩ := Kd.S_slice HO206.out; subst eo11; have hcz12_0 := blkc11 BK203.out))
  refine bodyPost_ret (results_cell_row rfl _ _ gb203 26 #[.string (⟨#[84, 73, 67]⟩ : ByteArray), .int .i64 3, .int .i64 3, .slice Ao11 y204.length co11, .slice Ao10 y207.length co10, .bool false, .bool false, .slice Ao9 y210.length co9, .int .i64 2, .int .i64 0, .int .i64 0] (0, 0) _ rfl (xQ BK203) Try.underlying26 rfl (by kernel_rfl)) rfl ?_
  exact ⟨_, _, _, xer, by (with_reducible repeat (first | apply Kd.S_alloc | apply Kd.S_drewN | apply Kd.S_drew)); exact Kd.S_mono (Kd.S_far (p := ⟨gb203, 10, none⟩) (Kd.S_far (p := ⟨gb203, 9, none⟩) (Kd.S_far (p := ⟨gb203, 8, none⟩) (Kd.S_far (p := ⟨gb203, 7, none⟩) (Kd.S_far (p := ⟨gb203, 6, none⟩) (Kd.S_far (p := ⟨gb203, 5, none⟩) (Kd.S_far (p := ⟨gb203, 4, none⟩) (Kd.S_far (p := ⟨gb203, 3, none⟩) (Kd.S_far (p := ⟨gb203, 2, none⟩) (Kd.S_far (p := ⟨gb203, 1, none⟩) (Kd.S_far (p := ⟨gb203, 0, none⟩) (Kd.S_types HO206.out BK203.out (by decide)) (fun _ hk => hk.2) (.string (⟨#[84, 73, 67]⟩ : ByteArray))) (fun _ hk => hk.2) (.int .i64 3)) (fun _ hk => hk.2) (.int .i64 3)) (fun _ hk => hk.2) (.slice Ao11 y204.length co11)) (fun _ hk => hk.2) (.slice Ao10 y207.length co10)) (fun _ hk => hk.2) (.bool false)) (fun _ hk => hk.2) (.bool false)) (fun _ hk => hk.2) (.slice Ao9 y210.length co9)) (fun _ hk => hk.2) (.int .i64 2)) (fun _ hk => hk.2) (.int .i64 0)) (fun _ hk => hk.2) (.int .i64 0)) (fun _ hk => trivial), by (with_reducible repeat (first | apply Kd.R_alloc | apply Kd.R_drewN | apply Kd.R_drew)); exact Kd.R_mono (Kd.R_far (p := ⟨gb203, 10, none⟩) (Kd.R_far (p := ⟨gb203, 9, none⟩) (Kd.R_far (p := ⟨gb203, 8, none⟩) (Kd.R_far (p := ⟨gb203, 7, none⟩) (Kd.R_far (p := ⟨gb203, 6, none⟩) (Kd.R_far (p := ⟨gb203, 5, none⟩) (Kd.R_far (p := ⟨gb203, 4, none⟩) (Kd.R_far (p := ⟨gb203, 3, none⟩) (Kd.R_far (p := ⟨gb203, 2, none⟩) (Kd.R_far (p := ⟨gb203, 1, none⟩) (Kd.R_far (p := ⟨gb203, 0, none⟩) (Kd.R_types HO209.out BK203.out (by decide)) (fun _ hk => hk.2) (.string (⟨#[84, 73, 67]⟩ : ByteArray))) (fun _ hk => hk.2) (.int .i64 3)) (fun _ hk => hk.2) (.int .i64 3)) (fun _ hk => hk.2) (.slice Ao11 y204.length co11)) (fun _ hk => hk.2) (.slice Ao10 y207.length co10)) (fun _ hk => hk.2) (.bool false)) (fun _ hk => hk.2) (.bool false)) (fun _ hk => hk.2) (.slice Ao9 y210.length co9)) (fun _ hk => hk.2) (.int .i64 2)) (fun _ hk => hk.2) (.int .i64 0)) (fun _ hk => hk.2) (.int .i64 0)) (fun _ hk => trivial), by (with_reducible repeat (first | apply Kd.R_alloc | apply Kd.R_drewN | apply Kd.R_drew)); exact Kd.R_mono (Kd.R_far (p := ⟨gb203, 10, none⟩) (Kd.R_far (p := ⟨gb203, 9, none⟩) (Kd.R_far (p := ⟨gb203, 8, none⟩) (Kd.R_far (p := ⟨gb203, 7, none⟩) (Kd.R_far (p := ⟨gb203, 6, none⟩) (Kd.R_far (p := ⟨gb203, 5, none⟩) (Kd.R_far (p := ⟨gb203, 4, none⟩) (Kd.R_far (p := ⟨gb203, 3, none⟩) (Kd.R_far (p := ⟨gb203, 2, none⟩) (Kd.R_far (p := ⟨gb203, 1, none⟩) (Kd.R_far (p := ⟨gb203, 0, none⟩) (Kd.R_types HO212.out BK203.out (by decide)) (fun _ hk => hk.2) (.string (⟨#[84, 73, 67]⟩ : ByteArray))) (fun _ hk => hk.2) (.int .i64 3)) (fun _ hk => hk.2) (.int .i64 3)) (fun _ hk => hk.2) (.slice Ao11 y204.length co11)) (fun _ hk => hk.2) (.slice Ao10 y207.length co10)) (fun _ hk => hk.2) (.bool false)) (fun _ hk => hk.2) (.bool false)) (fun _ hk => hk.2) (.slice Ao9 y210.length co9)) (fun _ hk => hk.2) (.int .i64 2)) (fun _ hk => hk.2) (.int .i64 0)) (fun _ hk => hk.2) (.int .i64 0)) (fun _ hk => trivial), xW HB⟩
 ·exact absurd (by decide) c1

/-! ### gamehalllaw1_won: function 9 -/
def gamehalllaw1_won.f  : Option (List Int × List Int × List Int × Int × Int) := some ((([1, 1, 1, 2, 2, 0, 0, 0, 0] : List Int)), (([2] : List Int)), (([3] : List Int)), 1, 0)
theorem gamehalllaw1_won.calls  (r1 : List Int) (r2 : List Int) (r3 : List Int) (r4 : Int) (r5 : Int) (w : World) (h : gamehalllaw1_won.f  = some (r1, r2, r3, r4, r5)) :
    Calls Try.prog 9 #[] w fun e w' => ∃ v0_ v1_ v2_ : Value, e = .returned (.agg #[v0_, v1_, v2_, .int .i64 r4, .int .i64 r5]) ∧ Kd.R (Kd.int .i64) 3 w' w.heap.size (fun k_ => some k_ ≠ (v1_ : Value).ownBlock ∧ some k_ ≠ (v2_ : Value).ownBlock) v0_ r1 ∧ Kd.R (Kd.int .i64) 3 w' w.heap.size (fun k_ => some k_ ≠ (v0_ : Value).ownBlock ∧ some k_ ≠ (v2_ : Value).ownBlock) v1_ r2 ∧ Kd.R (Kd.int .i64) 3 w' w.heap.size (fun k_ => some k_ ≠ (v0_ : Value).ownBlock ∧ some k_ ≠ (v1_ : Value).ownBlock) v2_ r3 ∧ Below w.heap.size w w' := by
 have hu29 := Try.underlying29; have hu27 := Try.underlying27; have HB := xm (Below.refl w.heap.size w); have hss_ := @isSome_setCell
 have H : (some ((([1, 1, 1, 2, 2, 0, 0, 0, 0] : List Int)), (([2] : List Int)), (([3] : List Int)), 1, 0)) = some (r1, r2, r3, r4, r5) := h
 clear h
 obtain ⟨y214, hy214⟩ : ∃ y_ : List Int, y_ = (([1, 1, 1, 2, 2, 0, 0, 0, 0] : List Int)) := ⟨_, rfl⟩
 replace H : (some (y214, (([2] : List Int)), (([3] : List Int)), 1, 0)) = some (r1, r2, r3, r4, r5) := by first | (rw [hy214]; with_reducible exact H) | (have H2_ := (Option.bind_some _ _).symm.trans H; rw [hy214]; with_reducible exact H2_) | (have H2_ := (Option.bind_some _ _).symm.trans H; with_reducible exact H2_) | with_reducible exact H | (rw [hy214]; exact H) | exact H
 have Ny214 := xm hy214; clear hy214
 obtain ⟨y217, hy217⟩ : ∃ y_ : List Int, y_ = (([2] : List Int)) := ⟨_, rfl⟩
 replace H : (some (y214, y217, (([3] : List Int)), 1, 0)) = some (r1, r2, r3, r4, r5) := by first | (rw [hy217]; with_reducible exact H) | (have H2_ := (Option.bind_some _ _).symm.trans H; rw [hy217]; with_reducible exact H2_) | (have H2_ := (Option.bind_some _ _).symm.trans H; with_reducible exact H2_) | with_reducible exact H | (rw [hy217]; exact H) | exact H
 have Ny217 := xm hy217; clear hy217
 obtain ⟨y220, hy220⟩ : ∃ y_ : List Int, y_ = (([3] : List Int)) := ⟨_, rfl⟩
 replace H : (some (y214, y217, y220, 1, 0)) = some (r1, r2, r3, r4, r5) := by first | (rw [hy220]; with_reducible exact H) | (have H2_ := (Option.bind_some _ _).symm.trans H; rw [hy220]; with_reducible exact H2_) | (have H2_ := (Option.bind_some _ _).symm.trans H; with_reducible exact H2_) | with_reducible exact H | (rw [hy220]; exact H) | exact H
 have Ny220 := xm hy220; clear hy220
 simp only [Option.some.injEq, Prod.mk.injEq] at H
 obtain ⟨rfl, rfl, rfl, rfl, rfl⟩ := H
 go_enter Try.func9, Try.ntmps9
 go_wp2_with (first | ((with_reducible refine gate_dst (N := 0) rfl ?_); refine xG (cs := #[.slice none 0 0, .slice none 0 0, .slice none 0 0, .int .i64 0, .int .i64 0]) (t := 29) ?_; intro gb213 hg w1 hbox hb; have BK213 := xm (hbox); have GW213 := xm (xZ HB hg); have GE213 := xm (xZ HB hg); replace HB := xm (xS HB hb); clear hb hbox hg) | ((with_reducible refine gate_dst (N := 1) rfl ?_); refine Kd.R_lit (Kd.int .i64) _ 3 ?hg (N := 1) ?hd (xs := ([1, 1, 1, 2, 2, 0, 0, 0, 0] : List Int)) (inner := [.int .i64 1, .int .i64 1, .int .i64 1, .int .i64 2, .int .i64 2, .int .i64 0, .int .i64 0, .int .i64 0, .int .i64 0]) (ok := fun _ => True) (okp := fun _ => True) ?hr ?hp (fun _ hk => hk) trivial (Below.refl _ _) (Nat.le_refl _) (by simp) ?_; (case hd => rfl); (case hg => rfl); (case hr => first | (go_simp; done) | (go_simp; rfl)); (case hp => exact (Reps.one (show Kd.M (Kd.int .i64) _ _ _ 1 [.int .i64 1] from rfl) (Reps.one (show Kd.M (Kd.int .i64) _ _ _ 1 [.int .i64 1] from rfl) (Reps.one (show Kd.M (Kd.int .i64) _ _ _ 1 [.int .i64 1] from rfl) (Reps.one (show Kd.M (Kd.int .i64) _ _ _ 2 [.int .i64 2] from rfl) (Reps.one (show Kd.M (Kd.int .i64) _ _ _ 2 [.int .i64 2] from rfl) (Reps.one (show Kd.M (Kd.int .i64) _ _ _ 0 [.int .i64 0] from rfl) (Reps.one (show Kd.M (Kd.int .i64) _ _ _ 0 [.int .i64 0] from rfl) (Reps.one (show Kd.M (Kd.int .i64) _ _ _ 0 [.int .i64 0] from rfl) (Reps.one (show Kd.M (Kd.int .i64) _ _ _ 0 [.int .i64 0] from rfl) (Reps.none _ _))))))))))); intro v215 w2 ho3 hb hg_ hnew_; clear hg_ hnew_; (first | rw [← Ny214.out] at ho3 | (simp only [Int.reduceToNat] at ho3; rw [← Ny214.out] at ho3)); have HO216 := xm (Kd.R_lower ho3 (below_size (xW HB))); replace BK213 := xm (xB BK213 hb); replace HB := xm (xS HB hb); clear hb ho3) | ((with_reducible refine gate_dst (N := 2) rfl ?_); refine Kd.R_lit (Kd.int .i64) _ 3 ?hg (N := 2) ?hd (xs := ([2] : List Int)) (inner := [.int .i64 2]) (ok := fun _ => True) (okp := fun _ => True) ?hr ?hp (fun _ hk => hk) trivial (Below.refl _ _) (Nat.le_refl _) (by simp) ?_; (case hd => rfl); (case hg => rfl); (case hr => first | (go_simp; done) | (go_simp; rfl)); (case hp => exact (Reps.one (show Kd.M (Kd.int .i64) _ _ _ 2 [.int .i64 2] from rfl) (Reps.none _ _))); intro v218 w4 ho5 hb hg_ hnew_; clear hg_ hnew_; (first | rw [← Ny217.out] at ho5 | (simp only [Int.reduceToNat] at ho5; rw [← Ny217.out] at ho5)); have HO219 := xm (Kd.R_lower (Kd.R_new' ho5 (Kd.R_lt (by (with_reducible repeat (first | apply Kd.R_alloc | apply Kd.R_drewN | apply Kd.R_drew)); exact HO216.out))) (below_size (xW HB))); replace HO216 := xm (Kd.R_elder' (by (with_reducible repeat (first | apply Kd.R_alloc | apply Kd.R_drewN | apply Kd.R_drew)); exact HO216.out) (Kd.R_base ho5) hb); replace BK213 := xm (xB BK213 hb); replace HB := xm (xS HB hb); clear hb ho5) | ((with_reducible refine gate_dst (N := 3) rfl ?_); refine Kd.R_lit (Kd.int .i64) _ 3 ?hg (N := 3) ?hd (xs := ([3] : List Int)) (inner := [.int .i64 3]) (ok := fun _ => True) (okp := fun _ => True) ?hr ?hp (fun _ hk => hk) trivial (Below.refl _ _) (Nat.le_refl _) (by simp) ?_; (case hd => rfl); (case hg => rfl); (case hr => first | (go_simp; done) | (go_simp; rfl)); (case hp => exact (Reps.one (show Kd.M (Kd.int .i64) _ _ _ 3 [.int .i64 3] from rfl) (Reps.none _ _))); intro v221 w6 ho7 hb hg_ hnew_; clear hg_ hnew_; (first | rw [← Ny220.out] at ho7 | (simp only [Int.reduceToNat] at ho7; rw [← Ny220.out] at ho7)); have HO222 := xm (Kd.R_lower (Kd.R_new' (Kd.R_new' ho7 (Kd.R_lt (by (with_reducible repeat (first | apply Kd.R_alloc | apply Kd.R_drewN | apply Kd.R_drew)); exact HO216.out))) (Kd.R_lt (by (with_reducible repeat (first | apply Kd.R_alloc | apply Kd.R_drewN | apply Kd.R_drew)); exact HO219.out))) (below_size (xW HB))); replace HO216 := xm (Kd.R_elder' (by (with_reducible repeat (first | apply Kd.R_alloc | apply Kd.R_drewN | apply Kd.R_drew)); exact HO216.out) (Kd.R_base ho7) hb); replace HO219 := xm (Kd.R_elder' (by (with_reducible repeat (first | apply Kd.R_alloc | apply Kd.R_drewN | apply Kd.R_drew)); exact HO219.out) (Kd.R_base ho7) hb); replace BK213 := xm (xB BK213 hb); replace HB := xm (xS HB hb); clear hb ho7; obtain ⟨Ao8, co8, eo8⟩ := Kd.R_slice HO222.out; subst eo8; obtain ⟨Ao9, co9, eo9⟩ := Kd.R_slice HO219.out; subst eo9; obtain ⟨Ao10, co10, eo10⟩ := Kd.R_slice HO216.out; subst eo10; have hcz11_0 := blkc5 BK213.out))
 refine bodyPost_ret (results_cell_row rfl _ _ gb213 29 #[.slice Ao10 y214.length co10, .slice Ao9 y217.length co9, .slice Ao8 y220.length co8, .int .i64 1, .int .i64 0] (0, 0) _ rfl (xQ BK213) Try.underlying29 rfl (by kernel_rfl)) rfl ?_
 exact ⟨_, _, _, xer, by (with_reducible repeat (first | apply Kd.R_alloc | apply Kd.R_drewN | apply Kd.R_drew)); exact Kd.R_mono (Kd.R_far (p := ⟨gb213, 4, none⟩) (Kd.R_far (p := ⟨gb213, 3, none⟩) (Kd.R_far (p := ⟨gb213, 2, none⟩) (Kd.R_far (p := ⟨gb213, 1, none⟩) (Kd.R_far (p := ⟨gb213, 0, none⟩) (Kd.R_types HO216.out BK213.out (by decide)) (fun _ hk => hk.2) (.slice Ao10 y214.length co10)) (fun _ hk => hk.2) (.slice Ao9 y217.length co9)) (fun _ hk => hk.2) (.slice Ao8 y220.length co8)) (fun _ hk => hk.2) (.int .i64 1)) (fun _ hk => hk.2) (.int .i64 0)) (fun _ hk => ⟨hk.1.1.2, hk.1.2⟩), by (with_reducible repeat (first | apply Kd.R_alloc | apply Kd.R_drewN | apply Kd.R_drew)); exact Kd.R_mono (Kd.R_far (p := ⟨gb213, 4, none⟩) (Kd.R_far (p := ⟨gb213, 3, none⟩) (Kd.R_far (p := ⟨gb213, 2, none⟩) (Kd.R_far (p := ⟨gb213, 1, none⟩) (Kd.R_far (p := ⟨gb213, 0, none⟩) (Kd.R_types HO219.out BK213.out (by decide)) (fun _ hk => hk.2) (.slice Ao10 y214.length co10)) (fun _ hk => hk.2) (.slice Ao9 y217.length co9)) (fun _ hk => hk.2) (.slice Ao8 y220.length co8)) (fun _ hk => hk.2) (.int .i64 1)) (fun _ hk => hk.2) (.int .i64 0)) (fun _ hk => ⟨hk.1.1.2, hk.1.2⟩), by (with_reducible repeat (first | apply Kd.R_alloc | apply Kd.R_drewN | apply Kd.R_drew)); exact Kd.R_mono (Kd.R_far (p := ⟨gb213, 4, none⟩) (Kd.R_far (p := ⟨gb213, 3, none⟩) (Kd.R_far (p := ⟨gb213, 2, none⟩) (Kd.R_far (p := ⟨gb213, 1, none⟩) (Kd.R_far (p := ⟨gb213, 0, none⟩) (Kd.R_types HO222.out BK213.out (by decide)) (fun _ hk => hk.2) (.slice Ao10 y214.length co10)) (fun _ hk => hk.2) (.slice Ao9 y217.length co9)) (fun _ hk => hk.2) (.slice Ao8 y220.length co8)) (fun _ hk => hk.2) (.int .i64 1)) (fun _ hk => hk.2) (.int .i64 0)) (fun _ hk => ⟨hk.1.1.2, hk.1.2⟩), xW HB⟩

/-! ### gamehallref1_In: function 29 -/
def gamehallref1_In.f (a0 : Int) (a1 : Int) (a2 : Int) : Option (Bool) := if a0 ≥ a1 then (some (decide (a0 ≤ a2))) else (some false)
theorem gamehallref1_In.calls (a0 : Int) (a1 : Int) (a2 : Int) (r : Bool) (w : World) (h : gamehallref1_In.f a0 a1 a2 = some r) :
    Calls Try.prog 29 #[.int .i64 a0, .int .i64 a1, .int .i64 a2] w fun e w' => e = .returned (.bool r) ∧ Drawn0 w w' := by
 have H : (if a0 ≥ a1 then (some (decide (a0 ≤ a2))) else (some false)) = some r := h
 clear h
 by_cases c4 : a0 ≥ a1
 ·rw [if_pos c4] at H
  have c4b0 := decide_eq_true c4
  clear c4
  obtain rfl := Option.some.inj H
  go_enter Try.func29, Try.ntmps29
  go_wp2
  go_ret
  exact ⟨xrf, by repeat (first | exact Drawn0.refl _ | apply Drawn0.step)⟩
 ·rw [if_neg c4] at H
  have c4b0 := decide_eq_false c4
  clear c4
  obtain rfl := Option.some.inj H
  go_enter Try.func29, Try.ntmps29
  go_wp2
  go_ret
  exact ⟨xrf, by repeat (first | exact Drawn0.refl _ | apply Drawn0.step)⟩

/-! ### gamehallref1_Named: function 45 -/
def gamehallref1_Named.l0 : Nat → ByteArray → Int → Int → Option (Bool)
  | 0, _, _, _ => none
  | k + 1, x0, x6, x7 => if x7 < x6 then (if 0 ≤ x7 then (if x7 < (x0.size : Int) then ((gamehallref1_In.f (wrap64 (bt x0 x7)) 48 57).bind fun t224 => (if t224 = true then (if x7 = 0 then (some false) else (gamehallref1_Named.l0 k x0 x6 (wrap64 (x7 + 1)))) else ((gamehallref1_In.f (wrap64 (bt x0 x7)) 65 90).bind fun t225 => (if t225 = true then (gamehallref1_Named.l0 k x0 x6 (wrap64 (x7 + 1))) else (some false))))) else (none)) else (none)) else ((gamehallref1_In.f (x0.size : Int) 1 8).bind fun t223 => (some t223))
def gamehallref1_Named.f (k : Nat) (a0 : ByteArray) : Option (Bool) := gamehallref1_Named.l0 k a0 (a0.size : Int) 0
theorem gamehallref1_Named.mono_l : ∀ k, LM (LM (LM (LeO))) (gamehallref1_Named.l0 k) (gamehallref1_Named.l0 (k + 1))
  | 0 => by (repeat (first | exact LeO.none _ | intro _))
  | k + 1 => by
    have ih0 := gamehallref1_Named.mono_l k
    ((repeat (first | (with_reducible refine LeO.st ?_) | intro _)); constructor; (first | unfold gamehallref1_Named.l0); repeat' first | (with_reducible first | apply ih0 | exact LeO.refl _ | exact LeO.none _ | refine LeO.ite ?_ ?_ | refine LeO.bind ?_ (fun _ => ?_)) | apply ih0 | exact LeO.none _ | refine LeO.ite ?_ ?_ | refine LeO.bind ?_ (fun _ => ?_))
theorem gamehallref1_Named.mono : ∀ a0 k, LeO (gamehallref1_Named.f k a0) (gamehallref1_Named.f (k + 1) a0) := by
  intros; rename_i k
  have ih0 := gamehallref1_Named.mono_l k
  unfold gamehallref1_Named.f
  repeat' first | (with_reducible first | apply ih0 | exact LeO.refl _ | exact LeO.none _ | refine LeO.ite ?_ ?_ | refine LeO.bind ?_ (fun _ => ?_)) | apply ih0 | exact LeO.none _ | refine LeO.ite ?_ ?_ | refine LeO.bind ?_ (fun _ => ?_)
theorem gamehallref1_Named.calls (k : Nat) (a0 : ByteArray) (r : Bool) (w : World) (h : gamehallref1_Named.f k a0 = some r) :
    Calls Try.prog 45 #[.string a0] w fun e w' => e = .returned (.bool r) ∧ Drawn0 w w' := by
 have H : (gamehallref1_Named.l0 k a0 (a0.size : Int) 0) = some r := h
 clear h
 have H' := xm H
 clear H
 go_enter Try.func45, Try.ntmps45
 go_wp2
 go_loopg [7] k (fun kq vs7 w' => ∃ (x7_1 : Int), vs7 = .int .i64 x7_1 ∧ Aside0 (gamehallref1_Named.l0 kq a0 (a0.size : Int) x7_1 = some r) ∧ Aside0 (kq ≤ k) ∧ Drawn0 w w')
 case atStart => exact ⟨(0), (xrf), H', ⟨Nat.le_refl _⟩, by repeat (first | exact Drawn0.refl _ | apply Drawn0.step)⟩
 case round =>
  clear H'
  obtain ⟨x7_1, rfl, HA, HK1, ⟨m1, rfl⟩⟩ := hrel
  cases gk with
  | zero => exact absurd HA.out (by simp [gamehallref1_Named.l0])
  | succ k1 =>
   have H := HA.out; clear HA
   simp only [gamehallref1_Named.l0] at H
   by_cases c2 : x7_1 < (a0.size : Int)
   ·rw [if_pos c2] at H
    have c2b0 := decide_eq_true c2
    clear c2
    by_cases c3 : 0 ≤ x7_1
    ·rw [if_pos c3] at H
     have c3b0 := decide_eq_true c3
     clear c3
     by_cases c4 : x7_1 < (a0.size : Int)
     ·rw [if_pos c4] at H
      have c4b0 := decide_eq_true c4
      clear c4; replace H := Option.bind_eq_some_iff.mp H
      obtain ⟨t224, A60, H⟩ := H
      try dsimp only at H
      have A6 := xm A60; clear A60
      by_cases c7 : t224 = true
      ·subst c7
       rw [if_pos rfl] at H
       by_cases c8 : x7_1 = 0
       ·rw [if_pos c8] at H
        have c8b0 := beq_iff_eq.mpr c8
        have c8b1 := bne_eq_false_iff_eq.mpr c8
        clear c8
        obtain rfl := Option.some.inj H
        have p5 : 0 ≤ (x7_1 : Int) := xO
        have q5 : x7_1 < (a0.size : Int) := xO
        have hx5 := bt_at a0 x7_1; replace p5 := eq_true p5; replace q5 := eq_true q5
        go_wp2_with (first | ((with_reducible refine gate_callee (f := 29) rfl ?_); refine xL (some 14) Try.func29 #[.int .i64 (wrap64 (bt a0 x7_1)), .int .i64 48, .int .i64 57] rfl ?_; (with_reducible refine (gamehallref1_In.calls (wrap64 (bt a0 x7_1)) 48 57 true _ A6.out).mono ?_); rintro e w' ⟨rfl, ⟨nd, rfl⟩⟩; refine ⟨_, rfl, ?_⟩))
        go_ret
        exact ⟨xrf, by repeat (first | exact Drawn0.refl _ | apply Drawn0.step)⟩
       ·rw [if_neg c8] at H
        have c8b0 := beq_eq_false_iff_ne.mpr c8
        have c8b1 := bne_iff_ne.mpr c8
        have H' := xm H
        clear H
        have p5 : 0 ≤ (x7_1 : Int) := xO
        have q5 : x7_1 < (a0.size : Int) := xO
        have hx5 := bt_at a0 x7_1; replace p5 := eq_true p5; replace q5 := eq_true q5
        go_wp2_with (first | ((with_reducible refine gate_callee (f := 29) rfl ?_); refine xL (some 14) Try.func29 #[.int .i64 (wrap64 (bt a0 x7_1)), .int .i64 48, .int .i64 57] rfl ?_; (with_reducible refine (gamehallref1_In.calls (wrap64 (bt a0 x7_1)) 48 57 true _ A6.out).mono ?_); rintro e w' ⟨rfl, ⟨nd, rfl⟩⟩; refine ⟨_, rfl, ?_⟩))
        go_roundg k1
        case measure => have := HK1.out; omega
        case rel => exact ⟨(wrap64 (x7_1 + 1)), (xrf), H', ⟨by have := HK1.out; omega⟩, by repeat (first | exact Drawn0.refl _ | apply Drawn0.step)⟩
      ·replace c7 := Bool.eq_false_iff.mpr c7
       subst c7
       rw [if_neg xF] at H
       replace H := Option.bind_eq_some_iff.mp H
       obtain ⟨t225, A100, H⟩ := H
       try dsimp only at H
       have A10 := xm A100; clear A100
       by_cases c11 : t225 = true
       ·subst c11
        rw [if_pos rfl] at H
        have H' := xm H
        clear H
        have p5 : 0 ≤ (x7_1 : Int) := xO
        have q5 : x7_1 < (a0.size : Int) := xO
        have hx5 := bt_at a0 x7_1; replace p5 := eq_true p5; replace q5 := eq_true q5
        go_wp2_with (first | ((with_reducible refine gate_callee (f := 29) rfl ?_); refine xL (some 14) Try.func29 #[.int .i64 (wrap64 (bt a0 x7_1)), .int .i64 48, .int .i64 57] rfl ?_; (with_reducible refine (gamehallref1_In.calls (wrap64 (bt a0 x7_1)) 48 57 false _ A6.out).mono ?_); rintro e w' ⟨rfl, ⟨nd, rfl⟩⟩; refine ⟨_, rfl, ?_⟩; have p9 : 0 ≤ (x7_1 : Int) := xO; have q9 : x7_1 < (a0.size : Int) := xO; have hx9 := bt_at a0 x7_1; replace p9 := eq_true p9; replace q9 := eq_true q9) | (go_at_call 29; (with_reducible refine (gamehallref1_In.calls (wrap64 (bt a0 x7_1)) 65 90 true _ A10.out).mono ?_); rintro e w' ⟨rfl, ⟨nd, rfl⟩⟩))
        go_roundg k1
        case measure => have := HK1.out; omega
        case rel => exact ⟨(wrap64 (x7_1 + 1)), (xrf), H', ⟨by have := HK1.out; omega⟩, by repeat (first | exact Drawn0.refl _ | apply Drawn0.step)⟩
       ·replace c11 := Bool.eq_false_iff.mpr c11
        subst c11
        rw [if_neg xF] at H
        obtain rfl := Option.some.inj H
        have p5 : 0 ≤ (x7_1 : Int) := xO
        have q5 : x7_1 < (a0.size : Int) := xO
        have hx5 := bt_at a0 x7_1; replace p5 := eq_true p5; replace q5 := eq_true q5
        go_wp2_with (first | ((with_reducible refine gate_callee (f := 29) rfl ?_); refine xL (some 14) Try.func29 #[.int .i64 (wrap64 (bt a0 x7_1)), .int .i64 48, .int .i64 57] rfl ?_; (with_reducible refine (gamehallref1_In.calls (wrap64 (bt a0 x7_1)) 48 57 false _ A6.out).mono ?_); rintro e w' ⟨rfl, ⟨nd, rfl⟩⟩; refine ⟨_, rfl, ?_⟩; have p9 : 0 ≤ (x7_1 : Int) := xO; have q9 : x7_1 < (a0.size : Int) := xO; have hx9 := bt_at a0 x7_1; replace p9 := eq_true p9; replace q9 := eq_true q9) | (go_at_call 29; (with_reducible refine (gamehallref1_In.calls (wrap64 (bt a0 x7_1)) 65 90 false _ A10.out).mono ?_); rintro e w' ⟨rfl, ⟨nd, rfl⟩⟩))
        go_ret
        exact ⟨xrf, by repeat (first | exact Drawn0.refl _ | apply Drawn0.step)⟩
     ·rw [if_neg c4] at H
      exact absurd H (by simp)
    ·rw [if_neg c3] at H
     exact absurd H (by simp)
   ·rw [if_neg c2] at H
    have c2b0 := decide_eq_false c2
    clear c2; replace H := Option.bind_eq_some_iff.mp H
    obtain ⟨t223, A120, H⟩ := H
    replace H : (some t223) = some r := H
    have A12 := xm A120; clear A120
    obtain rfl := Option.some.inj H
    go_wp2_with (first | ((with_reducible refine gate_callee (f := 29) rfl ?_); refine xL (some 35) Try.func29 #[.int .i64 (a0.size : Int), .int .i64 1, .int .i64 8] rfl ?_; (with_reducible refine (gamehallref1_In.calls (a0.size : Int) 1 8 t223 _ A12.out).mono ?_); rintro e w' ⟨rfl, ⟨nd, rfl⟩⟩; refine ⟨_, rfl, ?_⟩))
    go_ret
    exact ⟨xrf, by repeat (first | exact Drawn0.refl _ | apply Drawn0.step)⟩

end Go.Proofs.Ytloadbbndnmdlaa.PEndsOf
