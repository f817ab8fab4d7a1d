-- Printed by a program of this claim's writer (wip/ext): an extension of the kit's print.
import Derived.Test.YtloadbbndnmdlaaPEndsOfx0
import Derived.Test.YtloadbbndnmdlaaPEndsOfx7
import Derived.Test.YtloadbbndnmdlaaPEndsOfx10
import Derived.Test.YtloadbbndnmdlaaPEndsOfx13
namespace Go.Proofs.Ytloadbbndnmdlaa.PEndsOf
open Go.RowKit Go.Proofs.YtloadbbndnmdlaaW.PrintWords Go.Proofs.YtloadbbndnmdlaaW.PrintLast Go.Proofs.YtloadbbndnmdlaaW.PrintMore
set_option maxHeartbeats 8000000
set_option maxRecDepth 100000
attribute [local go_sem] max2_int min2_int max_two min_two max_three min_three max_four min_four   -- for this text's walks alone
set_option linter.unusedVariables false
set_option linter.unusedSimpArgs false

/-! ### gamehalllaw1_EndsOf: function 3 -/
def gamehalllaw1_EndsOf.j0 : Nat → Bool → ByteArray → Int → Int → List (S62) → List Int → Bool → Bool → List (S64) → Int → Int → Int → List Int → List Int → List Int → Int → Int → Option (Bool)
  | 0, _, _, _, _, _, _, _, _, _, _, _, _, _, _, _, _, _ => none
  | k + 1, x21, z328a, z328b, z328c, z328d, z328e, z328f, z328g, z328h, z328i, z328j, z328k, z329a, z329b, z329c, z329d, z329e => if x21 = true then (some false) else ((ends_Of.f k z328a z328b z328c z328d z328e z328f z328g z328h z328i z328j z328k z329a z329b z329c z329d z329e).bind fun bt359 => ((gamehallref1_PlaceError.f k z328a z328b z328c z328d z328e z328f z328g z328h z328i z328j z328k z329a z329b z329c z329d z329e).bind fun t361 => (if t361 = 0 then (if (z329a.length : Int) > 20 then (some true) else (if bt359.2 = 0 then ((gamehallref1_Result.f k z328a z328b z328c z328d z328e z328f z328g z328h z328i z328j z328k z329a z329b z329c z329d z329e).bind fun t362 => (some (bt359.1 == t362))) else (some false))) else (if bt359.2 = t361 then (some (bt359.1 == 0)) else (some false)))))
def gamehalllaw1_EndsOf.f (k : Nat) (a0_0 : ByteArray) (a0_1 : Int) (a0_2 : Int) (l0_3 : List (S62)) (l0_4 : List Int) (a0_5 : Bool) (a0_6 : Bool) (l0_7 : List (S64)) (a0_8 : Int) (a0_9 : Int) (a0_10 : Int) (l1_0 : List Int) (l1_1 : List Int) (l1_2 : List Int) (a1_3 : Int) (a1_4 : Int) : Option (Bool) := (gamehalllaw1_three.f).bind fun bt329 => ((gamehalllaw1_won.f).bind fun bt346 => ((ends_Of.f k bt329.1 bt329.2.1 bt329.2.2.1 bt329.2.2.2.1 bt329.2.2.2.2.1 bt329.2.2.2.2.2.1 bt329.2.2.2.2.2.2.1 bt329.2.2.2.2.2.2.2.1 bt329.2.2.2.2.2.2.2.2.1 bt329.2.2.2.2.2.2.2.2.2.1 bt329.2.2.2.2.2.2.2.2.2.2 bt346.1 bt346.2.1 bt346.2.2.1 bt346.2.2.2.1 bt346.2.2.2.2).bind fun bt357 => (if bt357.2 = 0 then (gamehalllaw1_EndsOf.j0 k (bt357.1 != 1) a0_0 a0_1 a0_2 l0_3 l0_4 a0_5 a0_6 l0_7 a0_8 a0_9 a0_10 l1_0 l1_1 l1_2 a1_3 a1_4) else (gamehalllaw1_EndsOf.j0 k true a0_0 a0_1 a0_2 l0_3 l0_4 a0_5 a0_6 l0_7 a0_8 a0_9 a0_10 l1_0 l1_1 l1_2 a1_3 a1_4))))
theorem gamehalllaw1_EndsOf.mono_l : ∀ k, L10 (L5 (LM (LM (LeO)))) (gamehalllaw1_EndsOf.j0 k) (gamehalllaw1_EndsOf.j0 (k + 1))
  | 0 => by (repeat (first | exact LeO.none _ | intro _))
  | k + 1 => by
    have ih0 := gamehalllaw1_EndsOf.mono_l k
    ((repeat (first | (with_reducible refine LeO.st ?_) | intro _)); constructor; (first | unfold gamehalllaw1_EndsOf.j0); repeat' first | (with_reducible first | apply ih0 | apply ends_Of.mono | apply gamehallref1_PlaceError.mono | apply gamehallref1_Result.mono | exact LeO.refl _ | exact LeO.none _ | refine LeO.ite ?_ ?_ | refine LeO.bind ?_ (fun _ => ?_)) | apply ih0 | apply ends_Of.mono | apply gamehallref1_PlaceError.mono | apply gamehallref1_Result.mono | exact LeO.none _ | refine LeO.ite ?_ ?_ | refine LeO.bind ?_ (fun _ => ?_))
theorem gamehalllaw1_EndsOf.mono : ∀ a0 a1 a2 a3 a4 a5 a6 a7 a8 a9 a10 a11 a12 a13 a14 a15 k, LeO (gamehalllaw1_EndsOf.f k a0 a1 a2 a3 a4 a5 a6 a7 a8 a9 a10 a11 a12 a13 a14 a15) (gamehalllaw1_EndsOf.f (k + 1) a0 a1 a2 a3 a4 a5 a6 a7 a8 a9 a10 a11 a12 a13 a14 a15) := by
  intros; rename_i k
  have ih0 := gamehalllaw1_EndsOf.mono_l k
  unfold gamehalllaw1_EndsOf.f
  repeat' first | (with_reducible first | apply ih0 | apply ends_Of.mono | apply gamehallref1_PlaceError.mono | apply gamehallref1_Result.mono | exact LeO.refl _ | exact LeO.none _ | refine LeO.ite ?_ ?_ | refine LeO.bind ?_ (fun _ => ?_)) | apply ih0 | apply ends_Of.mono | apply gamehallref1_PlaceError.mono | apply gamehallref1_Result.mono | exact LeO.none _ | refine LeO.ite ?_ ?_ | refine LeO.bind ?_ (fun _ => ?_)
theorem gamehalllaw1_EndsOf.calls (k : Nat) (a0_0 : ByteArray) (a0_1 : Int) (a0_2 : Int) (A0_3 : Option Addr) (c0_3 : Nat) (l0_3 : List (S62)) (A0_4 : Option Addr) (c0_4 : Nat) (l0_4 : List Int) (a0_5 : Bool) (a0_6 : Bool) (A0_7 : Option Addr) (c0_7 : Nat) (l0_7 : List (S64)) (a0_8 : Int) (a0_9 : Int) (a0_10 : Int) (A1_0 : Option Addr) (c1_0 : Nat) (l1_0 : List Int) (A1_1 : Option Addr) (c1_1 : Nat) (l1_1 : List Int) (A1_2 : Option Addr) (c1_2 : Nat) (l1_2 : List Int) (a1_3 : Int) (a1_4 : Int) (r : Bool) (w : World) (hr0_3 : Kd.C k62 w A0_3 l0_3.length l0_3) (hc0_3 : l0_3.length ≤ c0_3) (hr0_4 : Kd.C (Kd.int .i64) w A0_4 l0_4.length l0_4) (hc0_4 : l0_4.length ≤ c0_4) (hr0_7 : Kd.C k64 w A0_7 l0_7.length l0_7) (hc0_7 : l0_7.length ≤ c0_7) (hr1_0 : Kd.C (Kd.int .i64) w A1_0 l1_0.length l1_0) (hc1_0 : l1_0.length ≤ c1_0) (hr1_1 : Kd.C (Kd.int .i64) w A1_1 l1_1.length l1_1) (hc1_1 : l1_1.length ≤ c1_1) (hr1_2 : Kd.C (Kd.int .i64) w A1_2 l1_2.length l1_2) (hc1_2 : l1_2.length ≤ c1_2) (h : gamehalllaw1_EndsOf.f k a0_0 a0_1 a0_2 l0_3 l0_4 a0_5 a0_6 l0_7 a0_8 a0_9 a0_10 l1_0 l1_1 l1_2 a1_3 a1_4 = some r) :
    Calls Try.prog 3 #[.agg #[.string a0_0, .int .i64 a0_1, .int .i64 a0_2, .slice A0_3 l0_3.length c0_3, .slice A0_4 l0_4.length c0_4, .bool a0_5, .bool a0_6, .slice A0_7 l0_7.length c0_7, .int .i64 a0_8, .int .i64 a0_9, .int .i64 a0_10], .agg #[.slice A1_0 l1_0.length c1_0, .slice A1_1 l1_1.length c1_1, .slice A1_2 l1_2.length c1_2, .int .i64 a1_3, .int .i64 a1_4]] w fun e w' => e = .returned (.bool r) ∧ Below w.heap.size w w' := by
 have hu26 := Try.underlying26; have hu29 := Try.underlying29; have HR0_3 := xm hr0_3; have HC0_3 := xm hc0_3; clear hr0_3 hc0_3; have HR0_4 := xm hr0_4; have HC0_4 := xm hc0_4; clear hr0_4 hc0_4; have HR0_7 := xm hr0_7; have HC0_7 := xm hc0_7; clear hr0_7 hc0_7; have HR1_0 := xm hr1_0; have HC1_0 := xm hc1_0; clear hr1_0 hc1_0; have HR1_1 := xm hr1_1; have HC1_1 := xm hc1_1; clear hr1_1 hc1_1; have HR1_2 := xm hr1_2; have HC1_2 := xm hc1_2; clear hr1_2 hc1_2; have HB := xm (Below.refl w.heap.size w); have hss_ := @isSome_setCell
 have H : ((gamehalllaw1_three.f).bind fun bt329 => ((gamehalllaw1_won.f).bind fun bt346 => ((ends_Of.f k bt329.1 bt329.2.1 bt329.2.2.1 bt329.2.2.2.1 bt329.2.2.2.2.1 bt329.2.2.2.2.2.1 bt329.2.2.2.2.2.2.1 bt329.2.2.2.2.2.2.2.1 bt329.2.2.2.2.2.2.2.2.1 bt329.2.2.2.2.2.2.2.2.2.1 bt329.2.2.2.2.2.2.2.2.2.2 bt346.1 bt346.2.1 bt346.2.2.1 bt346.2.2.2.1 bt346.2.2.2.2).bind fun bt357 => (if bt357.2 = 0 then (gamehalllaw1_EndsOf.j0 k (bt357.1 != 1) a0_0 a0_1 a0_2 l0_3 l0_4 a0_5 a0_6 l0_7 a0_8 a0_9 a0_10 l1_0 l1_1 l1_2 a1_3 a1_4) else (gamehalllaw1_EndsOf.j0 k true a0_0 a0_1 a0_2 l0_3 l0_4 a0_5 a0_6 l0_7 a0_8 a0_9 a0_10 l1_0 l1_1 l1_2 a1_3 a1_4))))) = some r := h
 clear h; replace H := Option.bind_eq_some_iff.mp H
 obtain ⟨⟨t329, t330, t331, t332, t335, t338, t339, t340, t343, t344, t345⟩, A30, H⟩ := H
 try dsimp only at H
 have A3 := xm A30; clear A30; replace H := Option.bind_eq_some_iff.mp H
 obtain ⟨⟨t346, t349, t352, t355, t356⟩, A40, H⟩ := H
 try dsimp only at H
 have A4 := xm A40; clear A40; replace H := Option.bind_eq_some_iff.mp H
 obtain ⟨⟨t357, t358⟩, A50, H⟩ := H
 try dsimp only at H
 have A5 := xm A50; clear A50; have HC6 := xm H; clear H
 go_enter Try.func3, Try.ntmps3
 go_upto_region 2 with (first | ((with_reducible refine gate_dst (N := 2) rfl ?_); refine xG (cs := #[.string a0_0, .int .i64 a0_1, .int .i64 a0_2, .slice A0_3 l0_3.length c0_3, .slice A0_4 l0_4.length c0_4, .bool a0_5, .bool a0_6, .slice A0_7 l0_7.length c0_7, .int .i64 a0_8, .int .i64 a0_9, .int .i64 a0_10]) (t := 26) ?_; intro gb327 hg w7 hbox hb; have BK327 := xm (hbox); have GW327 := xm (xZ HB hg); have GE327 := xm (xZ HB hg); replace HB := xm (xS HB hb); clear hb hbox hg) | ((with_reducible refine gate_dst (N := 3) rfl ?_); refine xG (cs := #[.slice A1_0 l1_0.length c1_0, .slice A1_1 l1_1.length c1_1, .slice A1_2 l1_2.length c1_2, .int .i64 a1_3, .int .i64 a1_4]) (t := 29) ?_; intro gb328 hg w8 hbox hb; have BK328 := xm (hbox); have GW328 := xm (xZ HB hg); have GE328 := xm (xZ HB hg); have NB327_328 := xm (xN BK327 hg); have NB328_327 := xm (xM BK327 hg); replace BK327 := xm (xB BK327 hb); replace HB := xm (xS HB hb); clear hb hbox hg) | ((with_reducible refine gate_callee (f := 8) rfl ?_); refine xL (some 11) Try.func8 #[] rfl ?_; (with_reducible refine (gamehalllaw1_three.calls  t329 t330 t331 t332 t335 t338 t339 t340 t343 t344 t345 _ A3.out).mono ?_); rintro e w9 ⟨v333, v336, v341, rfl, ho0, ho1, ho2, hb⟩; refine ⟨_, rfl, ?_⟩; have HO334 := xm (Kd.S_lower ho0 (below_size (xW HB))); have HO337 := xm (Kd.R_lower ho1 (below_size (xW HB))); have HO342 := xm (Kd.R_lower ho2 (below_size (xW HB))); replace BK327 := xm (xB BK327 hb); replace BK328 := xm (xB BK328 hb); replace HB := xm (xS HB hb); (try clear hb); (try clear hb2); (try clear hk); (try clear hi); (try clear ho0); (try clear ho1); (try clear ho2)) | ((with_reducible refine gate_callee (f := 9) rfl ?_); refine xL (some 12) Try.func9 #[] rfl ?_; (with_reducible refine (gamehalllaw1_won.calls  t346 t349 t352 t355 t356 _ A4.out).mono ?_); rintro e w10 ⟨v347, v350, v353, rfl, ho0, ho1, ho2, hb⟩; refine ⟨_, rfl, ?_⟩; have HO348 := xm (Kd.R_lower (Kd.R_new' ho0 (Kd.R_lt (by (with_reducible repeat (first | apply Kd.R_alloc | apply Kd.R_drewN | apply Kd.R_drew)); exact HO337.out))) (below_size (xW HB))); have HO351 := xm (Kd.R_lower (Kd.R_new' ho1 (Kd.R_lt (by (with_reducible repeat (first | apply Kd.R_alloc | apply Kd.R_drewN | apply Kd.R_drew)); exact HO337.out))) (below_size (xW HB))); have HO354 := xm (Kd.R_lower (Kd.R_new' ho2 (Kd.R_lt (by (with_reducible repeat (first | apply Kd.R_alloc | apply Kd.R_drewN | apply Kd.R_drew)); exact HO337.out))) (below_size (xW HB))); replace HO334 := xm (Kd.S_below (by (with_reducible repeat (first | apply Kd.S_alloc | apply Kd.S_drewN | apply Kd.S_drew)); exact HO334.out) hb); replace HO337 := xm (Kd.R_mono (Kd.R_told (Kd.R_told (Kd.R_told (Kd.R_old (by (with_reducible repeat (first | apply Kd.R_alloc | apply Kd.R_drewN | apply Kd.R_drew)); exact HO337.out) hb) (Kd.R_base ho0)) (Kd.R_base ho1)) (Kd.R_base ho2)) (fun _ h_ => h_.1)); replace HO342 := xm (Kd.R_below (by (with_reducible repeat (first | apply Kd.R_alloc | apply Kd.R_drewN | apply Kd.R_drew)); exact HO342.out) hb); replace BK327 := xm (xB BK327 hb); replace BK328 := xm (xB BK328 hb); replace HB := xm (xS HB hb); (try clear hb); (try clear hb2); (try clear hk); (try clear hi); (try clear ho0); (try clear ho1); (try clear ho2); obtain ⟨Ao11, co11, eo11⟩ := Kd.S_slice HO334.out; subst eo11; obtain ⟨Ao12, co12, eo12⟩ := Kd.R_slice HO337.out; subst eo12; obtain ⟨Ao13, co13, eo13⟩ := Kd.R_slice HO342.out; subst eo13; obtain ⟨Ao14, co14, eo14⟩ := Kd.R_slice HO348.out; subst eo14; obtain ⟨Ao15, co15, eo15⟩ := Kd.R_slice HO351.out; subst eo15; obtain ⟨Ao16, co16, eo16⟩ := Kd.R_slice HO354.out; subst eo16) | ((with_reducible refine gate_callee (f := 7) rfl ?_); refine xL (some 13) Try.func7 #[.agg #[.string t329, .int .i64 t330, .int .i64 t331, .slice Ao11 t332.length co11, .slice Ao12 t335.length co12, .bool t338, .bool t339, .slice Ao13 t340.length co13, .int .i64 t343, .int .i64 t344, .int .i64 t345], .agg #[.slice Ao14 t346.length co14, .slice Ao15 t349.length co15, .slice Ao16 t352.length co16, .int .i64 t355, .int .i64 t356]] rfl ?_; (with_reducible refine (ends_Of.calls k t329 t330 t331 _ _ t332 _ _ t335 t338 t339 _ _ t340 t343 t344 t345 _ _ t346 _ _ t349 _ _ t352 t355 t356 t357 t358 _ ?side1 ?side2 ?side3 ?side4 ?side5 ?side6 ?side7 ?side8 ?side9 ?side10 ?side11 ?side12 A5.out).mono ?_); (case side1 => repeat (first | exact (Kd.S_reads' HO334.out).2.2 | (with_reducible refine Kd.C_alloc ?_ _) | (with_reducible refine Kd.C_drewN ?_ _) | (with_reducible refine Kd.C_drew ?_))); (case side2 => exact (Kd.S_reads' HO334.out).2.1); (case side3 => repeat (first | exact (Kd.R_reads' HO337.out).2.2 | (with_reducible refine Kd.C_alloc ?_ _) | (with_reducible refine Kd.C_drewN ?_ _) | (with_reducible refine Kd.C_drew ?_))); (case side4 => exact (Kd.R_reads' HO337.out).2.1); (case side5 => repeat (first | exact (Kd.R_reads' HO342.out).2.2 | (with_reducible refine Kd.C_alloc ?_ _) | (with_reducible refine Kd.C_drewN ?_ _) | (with_reducible refine Kd.C_drew ?_))); (case side6 => exact (Kd.R_reads' HO342.out).2.1); (case side7 => repeat (first | exact (Kd.R_reads' HO348.out).2.2 | (with_reducible refine Kd.C_alloc ?_ _) | (with_reducible refine Kd.C_drewN ?_ _) | (with_reducible refine Kd.C_drew ?_))); (case side8 => exact (Kd.R_reads' HO348.out).2.1); (case side9 => repeat (first | exact (Kd.R_reads' HO351.out).2.2 | (with_reducible refine Kd.C_alloc ?_ _) | (with_reducible refine Kd.C_drewN ?_ _) | (with_reducible refine Kd.C_drew ?_))); (case side10 => exact (Kd.R_reads' HO351.out).2.1); (case side11 => repeat (first | exact (Kd.R_reads' HO354.out).2.2 | (with_reducible refine Kd.C_alloc ?_ _) | (with_reducible refine Kd.C_drewN ?_ _) | (with_reducible refine Kd.C_drew ?_))); (case side12 => exact (Kd.R_reads' HO354.out).2.1); rintro e w17 ⟨rfl, hb⟩; refine ⟨_, rfl, ?_⟩; replace HO334 := xm (Kd.S_below (by (with_reducible repeat (first | apply Kd.S_alloc | apply Kd.S_drewN | apply Kd.S_drew)); exact HO334.out) hb); replace HO337 := xm (Kd.R_below (by (with_reducible repeat (first | apply Kd.R_alloc | apply Kd.R_drewN | apply Kd.R_drew)); exact HO337.out) hb); replace HO342 := xm (Kd.R_below (by (with_reducible repeat (first | apply Kd.R_alloc | apply Kd.R_drewN | apply Kd.R_drew)); exact HO342.out) hb); replace HO348 := xm (Kd.R_below (by (with_reducible repeat (first | apply Kd.R_alloc | apply Kd.R_drewN | apply Kd.R_drew)); exact HO348.out) hb); replace HO351 := xm (Kd.R_below (by (with_reducible repeat (first | apply Kd.R_alloc | apply Kd.R_drewN | apply Kd.R_drew)); exact HO351.out) hb); replace HO354 := xm (Kd.R_below (by (with_reducible repeat (first | apply Kd.R_alloc | apply Kd.R_drewN | apply Kd.R_drew)); exact HO354.out) hb); replace BK327 := xm (xB BK327 hb); replace BK328 := xm (xB BK328 hb); replace HB := xm (xS HB hb); (try clear hb); (try clear hb2); (try clear hk); (try clear hi)))
 (try have hq327_328 := NB327_328.out); (try have hq328_327 := NB328_327.out)
 (try simp only [Act.put, List.setIfInBounds_toArray, List.set_cons_zero, List.set_cons_succ])
 go_cut [21] (fun vs21 wc => ∃ (kq : Nat) (x21_5 : Bool), vs21 = .bool x21_5 ∧ Aside0 (gamehalllaw1_EndsOf.j0 kq x21_5 a0_0 a0_1 a0_2 l0_3 l0_4 a0_5 a0_6 l0_7 a0_8 a0_9 a0_10 l1_0 l1_1 l1_2 a1_3 a1_4 = some r) ∧ Aside0 (kq ≤ k) ∧ Aside0 (wc.heap[gb327]? = some (.cells #[.string a0_0, .int .i64 a0_1, .int .i64 a0_2, (.slice A0_3 l0_3.length c0_3), (.slice A0_4 l0_4.length c0_4), .bool a0_5, .bool a0_6, (.slice A0_7 l0_7.length c0_7), .int .i64 a0_8, .int .i64 a0_9, .int .i64 a0_10] 26 (0, 0))) ∧ Aside0 (wc.heap[gb328]? = some (.cells #[(.slice A1_0 l1_0.length c1_0), (.slice A1_1 l1_1.length c1_1), (.slice A1_2 l1_2.length c1_2), .int .i64 a1_3, .int .i64 a1_4] 29 (0, 0))) ∧ Aside0 (Below w.heap.size w wc))
 case first =>
  have H := HC6.out; clear HC6
  by_cases c18 : t358 = 0
  ·rw [if_pos c18] at H
   have c18b0 := beq_iff_eq.mpr c18
   have c18b1 := bne_eq_false_iff_eq.mpr c18
   clear c18
   (first | rw [c18b0] | (simp only [i64_w, i32_w]; rw [c18b0]) | skip)
   have H' := xm H
   clear H
   go_wp2
   go_meet
   case rel => exact ⟨_, ((t357 != 1)), (xrf), H', ⟨by first | omega | exact Nat.le_refl _⟩, ⟨xK BK327⟩, ⟨xK BK328⟩, ⟨xW HB⟩⟩
  ·rw [if_neg c18] at H
   have c18b0 := beq_eq_false_iff_ne.mpr c18
   have c18b1 := bne_iff_ne.mpr c18
   (first | rw [c18b0] | (simp only [i64_w, i32_w]; rw [c18b0]) | skip)
   have H' := xm H
   clear H
   go_wp2
   go_meet
   case rel => exact ⟨_, (true), (xrf), H', ⟨by first | omega | exact Nat.le_refl _⟩, ⟨xK BK327⟩, ⟨xK BK328⟩, ⟨xW HB⟩⟩
 case rest =>
  clear HC6; (try clear p2)
  obtain ⟨kq, x21_5, rfl, HA, HJ5, BK327, BK328, HB⟩ := hcut
  cases kq with
  | zero => exact absurd HA.out (by simp [gamehalllaw1_EndsOf.j0])
  | succ kj5 =>
   have H := HA.out; clear HA
   simp only [gamehalllaw1_EndsOf.j0] at H
   by_cases c19 : x21_5 = true
   ·subst c19
    rw [if_pos rfl] at H
    obtain rfl := Option.some.inj H
    go_wp2
    go_ret
    exact ⟨xer, xW HB⟩
   ·replace c19 := Bool.eq_false_iff.mpr c19
    subst c19
    rw [if_neg xF] at H
    replace H := Option.bind_eq_some_iff.mp H
    obtain ⟨⟨t359, t360⟩, A200, H⟩ := H
    try dsimp only at H
    have A20 := xm A200; clear A200; have DA20 := xm fun (W_ : World) (hb_ : Below w.heap.size w W_) => ends_Of.calls kj5 a0_0 a0_1 a0_2 _ _ l0_3 _ _ l0_4 a0_5 a0_6 _ _ l0_7 a0_8 a0_9 a0_10 _ _ l1_0 _ _ l1_1 _ _ l1_2 a1_3 a1_4 t359 t360 W_ (Kd.C_below HR0_3.out hb_) HC0_3.out (Kd.C_below HR0_4.out hb_) HC0_4.out (Kd.C_below HR0_7.out hb_) HC0_7.out (Kd.C_below HR1_0.out hb_) HC1_0.out (Kd.C_below HR1_1.out hb_) HC1_1.out (Kd.C_below HR1_2.out hb_) HC1_2.out A20.out; replace H := Option.bind_eq_some_iff.mp H
    obtain ⟨t361, A210, H⟩ := H
    try dsimp only at H
    have A21 := xm A210; clear A210; have DA21 := xm fun (W_ : World) (hb_ : Below w.heap.size w W_) => gamehallref1_PlaceError.calls kj5 a0_0 a0_1 a0_2 _ _ l0_3 _ _ l0_4 a0_5 a0_6 _ _ l0_7 a0_8 a0_9 a0_10 _ _ l1_0 _ _ l1_1 _ _ l1_2 a1_3 a1_4 t361 W_ (Kd.C_below HR0_3.out hb_) HC0_3.out (Kd.C_below HR0_4.out hb_) HC0_4.out (Kd.C_below HR0_7.out hb_) HC0_7.out (Kd.C_below HR1_0.out hb_) HC1_0.out (Kd.C_below HR1_1.out hb_) HC1_1.out (Kd.C_below HR1_2.out hb_) HC1_2.out A21.out
    by_cases c22 : t361 = 0
    ·rw [if_pos c22] at H
     have c22b0 := beq_iff_eq.mpr c22
     have c22b1 := bne_eq_false_iff_eq.mpr c22
     clear c22
     by_cases c23 : (l1_0.length : Int) > 20
     ·rw [if_pos c23] at H
      have c23b0 := decide_eq_true c23
      have c23b1 : decide (20 < l1_0.length) = true := decide_eq_true (by omega)
      clear c23
      obtain rfl := Option.some.inj H
      have hcz25_0 := blkc11 BK327.out; have hcz26_0 := blkc5 BK328.out
      go_wp2_with (first | ((with_reducible refine gate_callee (f := 7) rfl ?_); refine xL (some 25) Try.func7 #[.agg #[.string a0_0, .int .i64 a0_1, .int .i64 a0_2, .slice A0_3 l0_3.length c0_3, .slice A0_4 l0_4.length c0_4, .bool a0_5, .bool a0_6, .slice A0_7 l0_7.length c0_7, .int .i64 a0_8, .int .i64 a0_9, .int .i64 a0_10], .agg #[.slice A1_0 l1_0.length c1_0, .slice A1_1 l1_1.length c1_1, .slice A1_2 l1_2.length c1_2, .int .i64 a1_3, .int .i64 a1_4]] rfl ?_; (with_reducible refine (DA20.out _ ?sB).mono ?_); (case sB => exact xW HB); rintro e w27 ⟨rfl, hb⟩; refine ⟨_, rfl, ?_⟩; replace BK327 := xm (xB BK327 hb); replace BK328 := xm (xB BK328 hb); replace HB := xm (xS HB hb); (try clear hb); (try clear hb2); (try clear hk); (try clear hi); have hcz28_0 := blkc11 BK327.out; have hcz29_0 := blkc5 BK328.out) | ((with_reducible refine gate_callee (f := 10) rfl ?_); refine xL (some 30) Try.func10 #[.agg #[.string a0_0, .int .i64 a0_1, .int .i64 a0_2, .slice A0_3 l0_3.length c0_3, .slice A0_4 l0_4.length c0_4, .bool a0_5, .bool a0_6, .slice A0_7 l0_7.length c0_7, .int .i64 a0_8, .int .i64 a0_9, .int .i64 a0_10], .agg #[.slice A1_0 l1_0.length c1_0, .slice A1_1 l1_1.length c1_1, .slice A1_2 l1_2.length c1_2, .int .i64 a1_3, .int .i64 a1_4]] rfl ?_; (with_reducible refine (DA21.out _ ?sB).mono ?_); (case sB => exact xW HB); rintro e w30 ⟨rfl, hb⟩; refine ⟨_, rfl, ?_⟩; replace BK327 := xm (xB BK327 hb); replace BK328 := xm (xB BK328 hb); replace HB := xm (xS HB hb); (try clear hb); (try clear hb2); (try clear hk); (try clear hi); have hcz31_0 := blkc5 BK328.out))
      go_ret
      exact ⟨xer, xW HB⟩
     ·rw [if_neg c23] at H
      have c23b0 := decide_eq_false c23
      have c23b1 : decide (20 < l1_0.length) = false := decide_eq_false (by omega)
      clear c23
      by_cases c32 : t360 = 0
      ·rw [if_pos c32] at H
       have c32b0 := beq_iff_eq.mpr c32
       have c32b1 := bne_eq_false_iff_eq.mpr c32
       clear c32; replace H := Option.bind_eq_some_iff.mp H
       obtain ⟨t362, A330, H⟩ := H
       replace H : (some (t359 == t362)) = some r := H
       have A33 := xm A330; clear A330
       obtain rfl := Option.some.inj H
       have hcz35_0 := blkc11 BK327.out; have hcz36_0 := blkc5 BK328.out
       go_wp2_with (first | ((with_reducible refine gate_callee (f := 7) rfl ?_); refine xL (some 25) Try.func7 #[.agg #[.string a0_0, .int .i64 a0_1, .int .i64 a0_2, .slice A0_3 l0_3.length c0_3, .slice A0_4 l0_4.length c0_4, .bool a0_5, .bool a0_6, .slice A0_7 l0_7.length c0_7, .int .i64 a0_8, .int .i64 a0_9, .int .i64 a0_10], .agg #[.slice A1_0 l1_0.length c1_0, .slice A1_1 l1_1.length c1_1, .slice A1_2 l1_2.length c1_2, .int .i64 a1_3, .int .i64 a1_4]] rfl ?_; (with_reducible refine (DA20.out _ ?sB).mono ?_); (case sB => exact xW HB); rintro e w37 ⟨rfl, hb⟩; refine ⟨_, rfl, ?_⟩; replace BK327 := xm (xB BK327 hb); replace BK328 := xm (xB BK328 hb); replace HB := xm (xS HB hb); (try clear hb); (try clear hb2); (try clear hk); (try clear hi); have hcz38_0 := blkc11 BK327.out; have hcz39_0 := blkc5 BK328.out) | ((with_reducible refine gate_callee (f := 10) rfl ?_); refine xL (some 30) Try.func10 #[.agg #[.string a0_0, .int .i64 a0_1, .int .i64 a0_2, .slice A0_3 l0_3.length c0_3, .slice A0_4 l0_4.length c0_4, .bool a0_5, .bool a0_6, .slice A0_7 l0_7.length c0_7, .int .i64 a0_8, .int .i64 a0_9, .int .i64 a0_10], .agg #[.slice A1_0 l1_0.length c1_0, .slice A1_1 l1_1.length c1_1, .slice A1_2 l1_2.length c1_2, .int .i64 a1_3, .int .i64 a1_4]] rfl ?_; (with_reducible refine (DA21.out _ ?sB).mono ?_); (case sB => exact xW HB); rintro e w40 ⟨rfl, hb⟩; refine ⟨_, rfl, ?_⟩; replace BK327 := xm (xB BK327 hb); replace BK328 := xm (xB BK328 hb); replace HB := xm (xS HB hb); (try clear hb); (try clear hb2); (try clear hk); (try clear hi); have hcz41_0 := blkc5 BK328.out; have hcz42_0 := blkc11 BK327.out) | (go_at_call 11; (with_reducible refine (gamehallref1_Result.calls kj5 a0_0 a0_1 a0_2 _ _ l0_3 _ _ l0_4 a0_5 a0_6 _ _ l0_7 a0_8 a0_9 a0_10 _ _ l1_0 _ _ l1_1 _ _ l1_2 a1_3 a1_4 t362 _ ?side1 ?side2 ?side3 ?side4 ?side5 ?side6 ?side7 ?side8 ?side9 ?side10 ?side11 ?side12 A33.out).mono ?_); (case side1 => exact xC (Kd.C_below HR0_3.out HB.out)); (case side2 => exact HC0_3.out); (case side3 => exact xC (Kd.C_below HR0_4.out HB.out)); (case side4 => exact HC0_4.out); (case side5 => exact xC (Kd.C_below HR0_7.out HB.out)); (case side6 => exact HC0_7.out); (case side7 => exact xC (Kd.C_below HR1_0.out HB.out)); (case side8 => exact HC1_0.out); (case side9 => exact xC (Kd.C_below HR1_1.out HB.out)); (case side10 => exact HC1_1.out); (case side11 => exact xC (Kd.C_below HR1_2.out HB.out)); (case side12 => exact HC1_2.out); rintro e w43 ⟨rfl, hb⟩; replace BK327 := xm (xB BK327 hb); replace BK328 := xm (xB BK328 hb); replace HB := xm (xS HB hb); (try clear hb); (try clear hb2); (try clear hk); (try clear hi)))
       go_ret
       exact ⟨xer, xW HB⟩
      ·rw [if_neg c32] at H
       have c32b0 := beq_eq_false_iff_ne.mpr c32
       have c32b1 := bne_iff_ne.mpr c32
       obtain rfl := Option.some.inj H
       have hcz45_0 := blkc11 BK327.out; have hcz46_0 := blkc5 BK328.out
       go_wp2_with (first | ((with_reducible refine gate_callee (f := 7) rfl ?_); refine xL (some 25) Try.func7 #[.agg #[.string a0_0, .int .i64 a0_1, .int .i64 a0_2, .slice A0_3 l0_3.length c0_3, .slice A0_4 l0_4.length c0_4, .bool a0_5, .bool a0_6, .slice A0_7 l0_7.length c0_7, .int .i64 a0_8, .int .i64 a0_9, .int .i64 a0_10], .agg #[.slice A1_0 l1_0.length c1_0, .slice A1_1 l1_1.length c1_1, .slice A1_2 l1_2.length c1_2, .int .i64 a1_3, .int .i64 a1_4]] rfl ?_; (with_reducible refine (DA20.out _ ?sB).mono ?_); (case sB => exact xW HB); rintro e w47 ⟨rfl, hb⟩; refine ⟨_, rfl, ?_⟩; replace BK327 := xm (xB BK327 hb); replace BK328 := xm (xB BK328 hb); replace HB := xm (xS HB hb); (try clear hb); (try clear hb2); (try clear hk); (try clear hi); have hcz48_0 := blkc11 BK327.out; have hcz49_0 := blkc5 BK328.out) | ((with_reducible refine gate_callee (f := 10) rfl ?_); refine xL (some 30) Try.func10 #[.agg #[.string a0_0, .int .i64 a0_1, .int .i64 a0_2, .slice A0_3 l0_3.length c0_3, .slice A0_4 l0_4.length c0_4, .bool a0_5, .bool a0_6, .slice A0_7 l0_7.length c0_7, .int .i64 a0_8, .int .i64 a0_9, .int .i64 a0_10], .agg #[.slice A1_0 l1_0.length c1_0, .slice A1_1 l1_1.length c1_1, .slice A1_2 l1_2.length c1_2, .int .i64 a1_3, .int .i64 a1_4]] rfl ?_; (with_reducible refine (DA21.out _ ?sB).mono ?_); (case sB => exact xW HB); rintro e w50 ⟨rfl, hb⟩; refine ⟨_, rfl, ?_⟩; replace BK327 := xm (xB BK327 hb); replace BK328 := xm (xB BK328 hb); replace HB := xm (xS HB hb); (try clear hb); (try clear hb2); (try clear hk); (try clear hi); have hcz51_0 := blkc5 BK328.out))
       go_ret
       exact ⟨xer, xW HB⟩
    ·rw [if_neg c22] at H
     have c22b0 := beq_eq_false_iff_ne.mpr c22
     have c22b1 := bne_iff_ne.mpr c22
     by_cases c52 : t360 = t361
     ·rw [if_pos c52] at H
      have c52b0 := beq_iff_eq.mpr c52
      have c52b1 := bne_eq_false_iff_eq.mpr c52
      clear c52
      obtain rfl := Option.some.inj H
      have hcz54_0 := blkc11 BK327.out; have hcz55_0 := blkc5 BK328.out
      go_wp2_with (first | ((with_reducible refine gate_callee (f := 7) rfl ?_); refine xL (some 25) Try.func7 #[.agg #[.string a0_0, .int .i64 a0_1, .int .i64 a0_2, .slice A0_3 l0_3.length c0_3, .slice A0_4 l0_4.length c0_4, .bool a0_5, .bool a0_6, .slice A0_7 l0_7.length c0_7, .int .i64 a0_8, .int .i64 a0_9, .int .i64 a0_10], .agg #[.slice A1_0 l1_0.length c1_0, .slice A1_1 l1_1.length c1_1, .slice A1_2 l1_2.length c1_2, .int .i64 a1_3, .int .i64 a1_4]] rfl ?_; (with_reducible refine (DA20.out _ ?sB).mono ?_); (case sB => exact xW HB); rintro e w56 ⟨rfl, hb⟩; refine ⟨_, rfl, ?_⟩; replace BK327 := xm (xB BK327 hb); replace BK328 := xm (xB BK328 hb); replace HB := xm (xS HB hb); (try clear hb); (try clear hb2); (try clear hk); (try clear hi); have hcz57_0 := blkc11 BK327.out; have hcz58_0 := blkc5 BK328.out) | ((with_reducible refine gate_callee (f := 10) rfl ?_); refine xL (some 30) Try.func10 #[.agg #[.string a0_0, .int .i64 a0_1, .int .i64 a0_2, .slice A0_3 l0_3.length c0_3, .slice A0_4 l0_4.length c0_4, .bool a0_5, .bool a0_6, .slice A0_7 l0_7.length c0_7, .int .i64 a0_8, .int .i64 a0_9, .int .i64 a0_10], .agg #[.slice A1_0 l1_0.length c1_0, .slice A1_1 l1_1.length c1_1, .slice A1_2 l1_2.length c1_2, .int .i64 a1_3, .int .i64 a1_4]] rfl ?_; (with_reducible refine (DA21.out _ ?sB).mono ?_); (case sB => exact xW HB); rintro e w59 ⟨rfl, hb⟩; refine ⟨_, rfl, ?_⟩; replace BK327 := xm (xB BK327 hb); replace BK328 := xm (xB BK328 hb); replace HB := xm (xS HB hb); (try clear hb); (try clear hb2); (try clear hk); (try clear hi)))
      go_ret
      exact ⟨xer, xW HB⟩
     ·rw [if_neg c52] at H
      have c52b0 := beq_eq_false_iff_ne.mpr c52
      have c52b1 := bne_iff_ne.mpr c52
      obtain rfl := Option.some.inj H
      have hcz61_0 := blkc11 BK327.out; have hcz62_0 := blkc5 BK328.out
      go_wp2_with (first | ((with_reducible refine gate_callee (f := 7) rfl ?_); refine xL (some 25) Try.func7 #[.agg #[.string a0_0, .int .i64 a0_1, .int .i64 a0_2, .slice A0_3 l0_3.length c0_3, .slice A0_4 l0_4.length c0_4, .bool a0_5, .bool a0_6, .slice A0_7 l0_7.length c0_7, .int .i64 a0_8, .int .i64 a0_9, .int .i64 a0_10], .agg #[.slice A1_0 l1_0.length c1_0, .slice A1_1 l1_1.length c1_1, .slice A1_2 l1_2.length c1_2, .int .i64 a1_3, .int .i64 a1_4]] rfl ?_; (with_reducible refine (DA20.out _ ?sB).mono ?_); (case sB => exact xW HB); rintro e w63 ⟨rfl, hb⟩; refine ⟨_, rfl, ?_⟩; replace BK327 := xm (xB BK327 hb); replace BK328 := xm (xB BK328 hb); replace HB := xm (xS HB hb); (try clear hb); (try clear hb2); (try clear hk); (try clear hi); have hcz64_0 := blkc11 BK327.out; have hcz65_0 := blkc5 BK328.out) | ((with_reducible refine gate_callee (f := 10) rfl ?_); refine xL (some 30) Try.func10 #[.agg #[.string a0_0, .int .i64 a0_1, .int .i64 a0_2, .slice A0_3 l0_3.length c0_3, .slice A0_4 l0_4.length c0_4, .bool a0_5, .bool a0_6, .slice A0_7 l0_7.length c0_7, .int .i64 a0_8, .int .i64 a0_9, .int .i64 a0_10], .agg #[.slice A1_0 l1_0.length c1_0, .slice A1_1 l1_1.length c1_1, .slice A1_2 l1_2.length c1_2, .int .i64 a1_3, .int .i64 a1_4]] rfl ?_; (with_reducible refine (DA21.out _ ?sB).mono ?_); (case sB => exact xW HB); rintro e w66 ⟨rfl, hb⟩; refine ⟨_, rfl, ?_⟩; replace BK327 := xm (xB BK327 hb); replace BK328 := xm (xB BK328 hb); replace HB := xm (xS HB hb); (try clear hb); (try clear hb2); (try clear hk); (try clear hi)))
      go_ret
      exact ⟨xer, xW HB⟩
def wf74 (x : S74) : Prop := ((Lit.int .i64 x.f0).wf = true) ∧ (((Lit.int .i64 x.f1).wf = true) ∧ (((Lit.int .i64 x.f2).wf = true) ∧ (((Lit.int .i64 x.f3).wf = true))))
theorem tells74 {W : World} : Tells Try.prog W 74 k74 wf74 := tells_iso (fun a => ⟨a.1, a.2.1, a.2.2.1, a.2.2.2⟩) (fun _ => rfl) (fun _ h => h) (tells_struct (l := [(3, 0), (3, 1), (3, 2), (3, 3)]) Try.underlying74 (by kernel_rfl) (tellsFs_cons (tells_int Try.underlying3) (by kernel_rfl) (tellsFs_cons (tells_int Try.underlying3) (by kernel_rfl) (tellsFs_cons (tells_int Try.underlying3) (by kernel_rfl) (tellsFs_one (tells_int Try.underlying3) (by kernel_rfl))))) (by kernel_rfl))
def wf62 (x : S62) : Prop := ((Lit.int .u8 x.f0).wf = true) ∧ (((Lit.int .i64 x.f1).wf = true) ∧ (((Lit.int .i64 x.f2).wf = true) ∧ ((x.f3.length * 32 ≤ 140737488351232 ∧ ∀ y_ ∈ x.f3, wf74 y_))))
theorem tells62 {W : World} : Tells Try.prog W 62 k62 wf62 := tells_iso (fun a => ⟨a.1, a.2.1, a.2.2.1, a.2.2.2⟩) (fun _ => rfl) (fun _ h => h) (tells_struct (l := [(5, 0), (3, 1), (3, 2), (60, 3)]) Try.underlying62 (by kernel_rfl) (tellsFs_cons (tells_int Try.underlying5) (by kernel_rfl) (tellsFs_cons (tells_int Try.underlying3) (by kernel_rfl) (tellsFs_cons (tells_int Try.underlying3) (by kernel_rfl) (tellsFs_one (tells_slice (W := W) Try.underlying60 tells74 (by kernel_rfl) (by kernel_rfl)) (by kernel_rfl))))) (by kernel_rfl))
def wf64 (x : S64) : Prop := ((Lit.int .i64 x.f0).wf = true) ∧ (((Lit.int .i64 x.f1).wf = true) ∧ (((Lit.int .i64 x.f2).wf = true) ∧ ((True))))
theorem tells64 {W : World} : Tells Try.prog W 64 k64 wf64 := tells_iso (fun a => ⟨a.1, a.2.1, a.2.2.1, a.2.2.2⟩) (fun _ => rfl) (fun _ h => h) (tells_struct (l := [(3, 0), (3, 1), (3, 2), (4, 3)]) Try.underlying64 (by kernel_rfl) (tellsFs_cons (tells_int Try.underlying3) (by kernel_rfl) (tellsFs_cons (tells_int Try.underlying3) (by kernel_rfl) (tellsFs_cons (tells_int Try.underlying3) (by kernel_rfl) (tellsFs_one (tells_bool Try.underlying4) (by kernel_rfl))))) (by kernel_rfl))
def wf26 (x : S26) : Prop := (x.f0.size ≤ 140737488351232) ∧ (((Lit.int .i64 x.f1).wf = true) ∧ (((Lit.int .i64 x.f2).wf = true) ∧ ((x.f3.length * 48 ≤ 140737488351232 ∧ ∀ y_ ∈ x.f3, wf62 y_) ∧ ((x.f4.length * 8 ≤ 140737488351232 ∧ ∀ y_ ∈ x.f4, (Lit.int .i64 y_).wf = true) ∧ ((True) ∧ ((True) ∧ ((x.f7.length * 32 ≤ 140737488351232 ∧ ∀ y_ ∈ x.f7, wf64 y_) ∧ (((Lit.int .i64 x.f8).wf = true) ∧ (((Lit.int .i64 x.f9).wf = true) ∧ (((Lit.int .i64 x.f10).wf = true)))))))))))
theorem tells26 {W : World} : Tells Try.prog W 26 k26 wf26 := tells_iso (fun a => ⟨a.1, a.2.1, a.2.2.1, a.2.2.2.1, a.2.2.2.2.1, a.2.2.2.2.2.1, a.2.2.2.2.2.2.1, a.2.2.2.2.2.2.2.1, a.2.2.2.2.2.2.2.2.1, a.2.2.2.2.2.2.2.2.2.1, a.2.2.2.2.2.2.2.2.2.2⟩) (fun _ => rfl) (fun _ h => h) (tells_struct (l := [(9, 0), (3, 1), (3, 2), (22, 3), (23, 4), (4, 5), (4, 6), (24, 7), (3, 8), (3, 9), (3, 10)]) Try.underlying26 (by kernel_rfl) (tellsFs_cons (tells_string Try.underlying9) (by kernel_rfl) (tellsFs_cons (tells_int Try.underlying3) (by kernel_rfl) (tellsFs_cons (tells_int Try.underlying3) (by kernel_rfl) (tellsFs_cons (tells_slice (W := W) Try.underlying22 tells62 (by kernel_rfl) (by kernel_rfl)) (by kernel_rfl) (tellsFs_cons (tells_slice (W := W) Try.underlying23 (tells_int Try.underlying3) (by kernel_rfl) (by kernel_rfl)) (by kernel_rfl) (tellsFs_cons (tells_bool Try.underlying4) (by kernel_rfl) (tellsFs_cons (tells_bool Try.underlying4) (by kernel_rfl) (tellsFs_cons (tells_slice (W := W) Try.underlying24 tells64 (by kernel_rfl) (by kernel_rfl)) (by kernel_rfl) (tellsFs_cons (tells_int Try.underlying3) (by kernel_rfl) (tellsFs_cons (tells_int Try.underlying3) (by kernel_rfl) (tellsFs_one (tells_int Try.underlying3) (by kernel_rfl)))))))))))) (by kernel_rfl))
def wf27 (x : S27) : Prop := (x.f0.length * 8 ≤ 140737488351232 ∧ ∀ y_ ∈ x.f0, (Lit.int .i64 y_).wf = true) ∧ ((x.f1.length * 8 ≤ 140737488351232 ∧ ∀ y_ ∈ x.f1, (Lit.int .i64 y_).wf = true))
theorem tells27 {W : World} : Tells Try.prog W 27 k27 wf27 := tells_iso (fun a => ⟨a.1, a.2⟩) (fun _ => rfl) (fun _ h => h) (tells_array (c := 1) (l := [(23, 0), (23, 1)]) Try.underlying27 (by kernel_rfl) (by kernel_rfl) (tellsFs_cons (tells_slice (W := W) Try.underlying23 (tells_int Try.underlying3) (by kernel_rfl) (by kernel_rfl)) (by kernel_rfl) (tellsFs_one (tells_slice (W := W) Try.underlying23 (tells_int Try.underlying3) (by kernel_rfl) (by kernel_rfl)) (by kernel_rfl))) (by kernel_rfl))
def wf29 (x : S29) : Prop := (x.f0.length * 8 ≤ 140737488351232 ∧ ∀ y_ ∈ x.f0, (Lit.int .i64 y_).wf = true) ∧ ((wf27 x.f1) ∧ (((Lit.int .i64 x.f2).wf = true) ∧ (((Lit.int .i64 x.f3).wf = true))))
theorem tells29 {W : World} : Tells Try.prog W 29 k29 wf29 := tells_iso (fun a => ⟨a.1, a.2.1, a.2.2.1, a.2.2.2⟩) (fun _ => rfl) (fun _ h => h) (tells_struct (l := [(23, 0), (27, 1), (3, 3), (3, 4)]) Try.underlying29 (by kernel_rfl) (tellsFs_cons (tells_slice (W := W) Try.underlying23 (tells_int Try.underlying3) (by kernel_rfl) (by kernel_rfl)) (by kernel_rfl) (tellsFs_cons tells27 (by kernel_rfl) (tellsFs_cons (tells_int Try.underlying3) (by kernel_rfl) (tellsFs_one (tells_int Try.underlying3) (by kernel_rfl))))) (by kernel_rfl))

/-- THE ONE PURE STATEMENT of gamehalllaw1_EndsOf: yours. -/
def gamehalllaw1_EndsOf.Pure : Prop := ∀ (x0 : S26) (x1 : S29), (wf26 x0) → (wf29 x1) → ∃ k, gamehalllaw1_EndsOf.f k x0.f0 x0.f1 x0.f2 x0.f3 x0.f4 x0.f5 x0.f6 x0.f7 x0.f8 x0.f9 x0.f10 x1.f0 x1.f1.f0 x1.f1.f1 x1.f2 x1.f3 = some true
theorem gamehalllaw1_EndsOf.walk (P : gamehalllaw1_EndsOf.Pure) (x0 : S26) (v0 : Array Value) (x1 : S29) (v1 : Array Value) (w : World) (hK0 : k26.K w x0 v0.toList) (w0 : wf26 x0) (hK1 : k29.K w x1 v1.toList) (w1 : wf29 x1) :
  Calls Try.prog 3 #[.agg v0, .agg v1] w fun e w' => e = .returned (.bool true) ∧ Below w.heap.size w w' := by
 obtain ⟨A0_3, c0_3, A0_4, c0_4, A0_7, c0_7, hcs0, hl0_3, hg0_3, hl0_4, hg0_4, hl0_7, hg0_7⟩ := k26_open hK0
 obtain rfl : v0 = #[.string x0.f0, .int .i64 x0.f1, .int .i64 x0.f2, .slice A0_3 x0.f3.length c0_3, .slice A0_4 x0.f4.length c0_4, .bool x0.f5, .bool x0.f6, .slice A0_7 x0.f7.length c0_7, .int .i64 x0.f8, .int .i64 x0.f9, .int .i64 x0.f10] := Array.ext' hcs0
 obtain ⟨A1_0, c1_0, A1_1, c1_1, A1_2, c1_2, hcs1, hl1_0, hg1_0, hl1_1, hg1_1, hl1_2, hg1_2⟩ := k29_open hK1
 obtain rfl : v1 = #[.slice A1_0 x1.f0.length c1_0, .slice A1_1 x1.f1.f0.length c1_1, .slice A1_2 x1.f1.f1.length c1_2, .int .i64 x1.f2, .int .i64 x1.f3] := Array.ext' hcs1
 obtain ⟨k, h⟩ := P x0 x1 w0 w1
 refine (gamehalllaw1_EndsOf.calls k x0.f0 x0.f1 x0.f2 A0_3 c0_3 x0.f3 A0_4 c0_4 x0.f4 x0.f5 x0.f6 A0_7 c0_7 x0.f7 x0.f8 x0.f9 x0.f10 A1_0 c1_0 x1.f0 A1_1 c1_1 x1.f1.f0 A1_2 c1_2 x1.f1.f1 x1.f2 x1.f3 true w hg0_3 hl0_3 hg0_4 hl0_4 hg0_7 hl0_7 hg1_0 hl1_0 hg1_1 hl1_1 hg1_2 hl1_2 h).mono ?_
 rintro e w' ⟨rfl, hd⟩
 exact ⟨rfl, hd⟩

end Go.Proofs.Ytloadbbndnmdlaa.PEndsOf
