-- Printed by a program of this claim's writer (wip/ext): an extension of the kit's print.
import Derived.Test.YteioadnojajjoaaPOfferSaysx0
import Derived.Test.YteioadnojajjoaaPOfferSaysx2
import Derived.Test.YteioadnojajjoaaPOfferSaysx3
import Derived.Test.YteioadnojajjoaaPOfferSaysx4
import Derived.Test.YteioadnojajjoaaPOfferSaysx5
import Derived.Test.YteioadnojajjoaaPOfferSaysx6
import Derived.Test.YteioadnojajjoaaPOfferSaysx7b
namespace Go.Proofs.Yteioadnojajjoaa.POfferSays
open Go.RowKit Go.Proofs.YteioadnojajjoaaW.PrintWords Go.Proofs.YteioadnojajjoaaW.PrintLast Go.Proofs.YteioadnojajjoaaW.PrintMore
attribute [local go_sem] max2_int min2_int max_two min_two max_three min_three max_four min_four   -- for this text's walks alone
set_option linter.unusedVariables false
set_option linter.unusedSimpArgs false
attribute [local go_sem high] eqA25
set_option maxHeartbeats 80000000 in
set_option maxRecDepth 100000 in
def gamehalllaw3_OfferSays_rest4 : {P : Prop // P → (gamehalllaw3_OfferSays_rest3.1)} := by
           apply Subtype.mk
           intro hP_
           intro zz_
           unhygienic intros
           clear zz_
           clear HC359; (try clear p2); (try clear p6); (try clear p64); (try clear p2); (try clear p6); (try clear p64)
           obtain ⟨kq, x24_358, rfl, HA, HJ358, BK138, BK147, BK155, BK163, BK171, BK179, BK180, HB⟩ := hcut
           cases kq with
           | zero => exact absurd HA.out (by simp [gamehalllaw3_OfferSays.j6])
           | succ kj358 =>
            have H := HA.out; clear HA
            simp only [gamehalllaw3_OfferSays.j6] at H
            have HC438 := Aside0.mk H; clear H
            go_upto_region 37 with (fail)
            go_cut [251] (fun vs251 wc => ∃ (kq : Nat) (x251_437 : Bool), vs251 = .bool x251_437 ∧ Aside0 (gamehalllaw3_OfferSays.j7 kq a1 a2 a3 t154 t162 x251_437 a0_0 a0_1 a0_2 a0_3 a0_4 a0_5 t148 t149 t150 t151 t152 t153 t156 t157 t158 t159 t160 t161 0 0 0 0 0 0 = some r) ∧ Aside0 (kq ≤ kj358) ∧ Aside0 (wc.heap[gb138]? = some (.cells #[.int .i64 a0_0, .int .i64 a0_1, .int .i64 a0_2, .int .i64 a0_3, .int .i64 a0_4, .int .i64 a0_5] 25 (0, 0))) ∧ Aside0 (wc.heap[gb147]? = some (.cells #[.int .i64 t140, .int .i64 t141, .int .i64 t142, .int .i64 t143, .int .i64 t144, .int .i64 t145] 25 (0, 0))) ∧ Aside0 (wc.heap[gb155]? = some (.cells #[.int .i64 t148, .int .i64 t149, .int .i64 t150, .int .i64 t151, .int .i64 t152, .int .i64 t153] 25 (0, 0))) ∧ Aside0 (wc.heap[gb163]? = some (.cells #[.int .i64 t156, .int .i64 t157, .int .i64 t158, .int .i64 t159, .int .i64 t160, .int .i64 t161] 25 (0, 0))) ∧ Aside0 (wc.heap[gb171]? = some (.cells #[.int .i64 t164, .int .i64 t165, .int .i64 t166, .int .i64 t167, .int .i64 t168, .int .i64 t169] 25 (0, 0))) ∧ Aside0 (wc.heap[gb179]? = some (.cells #[.int .i64 t172, .int .i64 t173, .int .i64 t174, .int .i64 t175, .int .i64 t176, .int .i64 t177] 25 (0, 0))) ∧ Aside0 (wc.heap[gb180]? = some (.cells #[.int .i64 0, .int .i64 0, .int .i64 0, .int .i64 0, .int .i64 0, .int .i64 0] 25 (0, 0))) ∧ Aside0 (Below w.heap.size w wc))
            case first =>
             refine box_ ?g1;letI i:type_of% ?g1:=⟨by
             have H := HC438.out; clear HC438
             by_cases c439 : t146 = x24_358
             ·refine box_ ?g2;letI i:type_of% ?g2:=⟨by
              rw [if_pos c439] at H
              have c439b0 : (t146 == x24_358) = true := beq_iff_eq.mpr c439
              have c439b1 : (t146 != x24_358) = false := bne_eq_false_iff_eq.mpr c439
              clear c439
              (first | rw [c439b0] | (simp only [i64_w, i32_w]; rw [c439b0]) | skip)
              by_cases c440 : t146 = 0
              ·refine box_ ?g3;letI i:type_of% ?g3:=⟨by
               rw [if_pos c440] at H
               have c440b0 : (t146 == 0) = true := beq_iff_eq.mpr c440
               have c440b1 : (t146 != 0) = false := bne_eq_false_iff_eq.mpr c440
               clear c440
               by_cases c441 : 0 ≤ a1
               ·refine box_ ?g4;letI i:type_of% ?g4:=⟨by
                rw [if_pos c441] at H
                have c441b0 : decide (0 ≤ a1) = true := decide_eq_true c441
                clear c441
                by_cases c442 : a1 < 2
                ·refine box_ ?g5;letI i:type_of% ?g5:=⟨by
                 rw [if_pos c442] at H
                 have c442b0 : decide (a1 < 2) = true := decide_eq_true c442
                 clear c442
                 by_cases c443 : a1 = 0
                 ·refine box_ ?g6;letI i:type_of% ?g6:=⟨by
                  rw [if_pos c443] at H
                  have c443b0 : (a1 == 0) = true := beq_iff_eq.mpr c443
                  have c443b1 : (a1 != 0) = false := bne_eq_false_iff_eq.mpr c443
                  clear c443; obtain ⟨c444b, c444g, c444c, c444d⟩ := xar (a1 : Int) 0 0 2
                  by_cases c445 : t140 = a2
                  ·refine box_ ?g7;letI i:type_of% ?g7:=⟨by
                   rw [if_pos c445] at H
                   have c445b0 : (t140 == a2) = true := beq_iff_eq.mpr c445
                   have c445b1 : (t140 != a2) = false := bne_eq_false_iff_eq.mpr c445
                   clear c445; obtain ⟨c446b, c446g, c446c, c446d⟩ := xar (a1 : Int) 0 0 2
                   by_cases c447 : 0 ≤ a2
                   ·refine box_ ?g8;letI i:type_of% ?g8:=⟨by
                    rw [if_pos c447] at H
                    have c447b0 : decide (0 ≤ a2) = true := decide_eq_true c447
                    clear c447
                    by_cases c448 : a2 < 2
                    ·refine box_ ?g9;letI i:type_of% ?g9:=⟨by
                     rw [if_pos c448] at H
                     have c448b0 : decide (a2 < 2) = true := decide_eq_true c448
                     clear c448
                     by_cases c449 : a2 = 0
                     ·refine box_ ?g10;letI i:type_of% ?g10:=⟨by
                      rw [if_pos c449] at H
                      have c449b0 : (a2 == 0) = true := beq_iff_eq.mpr c449
                      have c449b1 : (a2 != 0) = false := bne_eq_false_iff_eq.mpr c449
                      clear c449; obtain ⟨c450b, c450g, c450c, c450d⟩ := xar (a2 : Int) 0 0 2
                      by_cases c451 : t142 = a3
                      ·refine box_ ?g11;letI i:type_of% ?g11:=⟨by
                       rw [if_pos c451] at H
                       have c451b0 : (t142 == a3) = true := beq_iff_eq.mpr c451
                       have c451b1 : (t142 != a3) = false := bne_eq_false_iff_eq.mpr c451
                       clear c451
                       obtain ⟨ji452, hji452⟩ : ∃ j_ : Int, (wrap64 (1 - a1)) = j_ := ⟨_, rfl⟩
                       (first | rw [hji452] at H | simp only [hji452] at H)
                       have hji452w : (IntKind.i64.wrap (1 - a1)) = ji452 := (i64_w _).trans hji452
                       by_cases c453 : 0 ≤ (ji452)
                       ·refine box_ ?g12;letI i:type_of% ?g12:=⟨by
                        rw [if_pos c453] at H
                        have c453b0 : decide (0 ≤ (ji452)) = true := decide_eq_true c453
                        clear c453
                        by_cases c454 : (ji452) < 2
                        ·refine box_ ?g13;letI i:type_of% ?g13:=⟨by
                         rw [if_pos c454] at H
                         have c454b0 : decide ((ji452) < 2) = true := decide_eq_true c454
                         clear c454
                         by_cases c455 : (ji452) = 0
                         ·refine box_ ?g14;letI i:type_of% ?g14:=⟨by
                          rw [if_pos c455] at H
                          have c455b0 : ((ji452) == 0) = true := beq_iff_eq.mpr c455
                          have c455b1 : ((ji452) != 0) = false := bne_eq_false_iff_eq.mpr c455
                          clear c455; obtain ⟨c456b, c456g, c456c, c456d⟩ := xar ((ji452) : Int) 0 0 2; obtain ⟨c457b, c457g, c457c, c457d⟩ := xar ((ji452) : Int) 0 0 2
                          have H' := Aside0.mk H
                          clear H
                          try go_wp2
                          replace BK138 := Aside0.mk (blk_drew BK138.out); replace BK147 := Aside0.mk (blk_drew BK147.out); replace BK155 := Aside0.mk (blk_drew BK155.out); replace BK163 := Aside0.mk (blk_drew BK163.out); replace BK171 := Aside0.mk (blk_drew BK171.out); replace BK179 := Aside0.mk (blk_drew BK179.out); replace BK180 := Aside0.mk (blk_drew BK180.out); replace HB := Aside0.mk (below_drew1 HB.out)
                          refine start_ (n := 47) (S := fun w' => ce w' gb147 0 (.int .i64 t140) ∧ ce w' gb147 1 (.int .i64 t141) ∧ ce w' gb147 2 (.int .i64 t142) ∧ ce w' gb147 3 (.int .i64 t143) ∧ ce w' gb147 4 (.int .i64 t144) ∧ ce w' gb147 5 (.int .i64 t145) ∧ ce w' gb138 0 (.int .i64 a0_0) ∧ ce w' gb138 1 (.int .i64 a0_1) ∧ ce w' gb138 2 (.int .i64 a0_2) ∧ ce w' gb138 3 (.int .i64 a0_3) ∧ ce w' gb138 4 (.int .i64 a0_4) ∧ ce w' gb138 5 (.int .i64 a0_5)) (ds := []) (mk 47 0) kr_ rfl rfl ⟨xc BK147 0, xc BK147 1, xc BK147 2, xc BK147 3, xc BK147 4, xc BK147 5, xc BK138 0, xc BK138 1, xc BK138 2, xc BK138 3, xc BK138 4, xc BK138 5⟩ (fun hHeld => ?_); refine with_tabW gamehalllaw3_OfferSays.tab37 gamehalllaw3_OfferSays.bits37 (fun HT_ HW_ => ?_)
                          generalize wc.drew = w458 at BK138 BK147 BK155 BK163 BK171 BK179 BK180 HB hHeld ⊢; refine pu_ 0 205 HT_ ?_; refine pu_ 1 206 HT_ ?_; refine pu_ 2 207 HT_ ?_; refine pu_ 3 208 HT_ ?_; refine pu_ 4 209 HT_ ?_; refine pu_ 5 210 HT_ ?_; refine pu_ 6 211 HT_ ?_; refine pn_ 7 212 HT_ ?_; refine pn_ 8 213 HT_ ?_; refine pn_ 9 214 HT_ ?_; refine pu_ 10 215 HT_ ?_; refine pu_ 11 216 HT_ ?_; refine pu_ 12 217 HT_ ?_; refine pu_ 13 218 HT_ ?_; refine pu_ 14 219 HT_ ?_; refine pu_ 15 220 HT_ ?_; refine pu_ 16 221 HT_ ?_; refine pu_ 17 222 HT_ ?_; refine pu_ 18 223 HT_ ?_; refine pu_ 20 225 HT_ ?_; refine tk_ 19 224 HT_ HW_ hHeld ?_; refine pu_ 21 226 HT_ ?_; refine pu_ 22 227 HT_ ?_; refine pu_ 23 228 HT_ ?_; refine pu_ 24 229 HT_ ?_; refine pu_ 25 230 HT_ ?_; refine pu_ 26 231 HT_ ?_; refine pu_ 27 232 HT_ ?_; refine pu_ 29 234 HT_ ?_; refine tk_ 28 233 HT_ HW_ hHeld ?_; refine pu_ 30 235 HT_ ?_; refine pu_ 31 236 HT_ ?_; refine pu_ 32 237 HT_ ?_; refine pu_ 33 238 HT_ ?_; refine pu_ 34 239 HT_ ?_; refine pu_ 35 240 HT_ ?_; refine pu_ 36 241 HT_ ?_; refine pu_ 38 243 HT_ ?_; refine pu_ 39 244 HT_ ?_; refine pu_ 40 245 HT_ ?_; refine pu_ 41 246 HT_ ?_; refine tk_ 37 242 HT_ HW_ hHeld ?_; refine tk_ 42 247 HT_ HW_ hHeld ?_; refine pu_ 43 248 HT_ ?_; refine pu_ 44 249 HT_ ?_; refine pu_ 45 250 HT_ ?_; refine pu_ 46 251 HT_ ?_
                          refine done_ (done_of HT_.out kr_) ?_
                          try go_wp2
                          go_meet
                          case rel => exact ⟨_, ((t140 != a0_0)), (xrf), H', ⟨by have := HJ11.out; have := HJ182.out; have := HJ275.out; have := HJ358.out; first | omega | exact Nat.le_refl _⟩, ⟨xK BK138⟩, ⟨xK BK147⟩, ⟨xK BK155⟩, ⟨xK BK163⟩, ⟨xK BK171⟩, ⟨xK BK179⟩, ⟨xK BK180⟩, ⟨xW HB⟩⟩⟩
                          exact inferInstanceAs _
                         ·refine box_ ?g15;letI i:type_of% ?g15:=⟨by
                          rw [if_neg c455] at H
                          have c455b0 : ((ji452) == 0) = false := beq_eq_false_iff_ne.mpr c455
                          have c455b1 : ((ji452) != 0) = true := bne_iff_ne.mpr c455
                          obtain ⟨c459b, c459g, c459c, c459d⟩ := xar ((ji452) : Int) 1 1 2; obtain ⟨c460b, c460g, c460c, c460d⟩ := xar ((ji452) : Int) 1 1 2
                          have H' := Aside0.mk H
                          clear H
                          try go_wp2
                          replace BK138 := Aside0.mk (blk_drew BK138.out); replace BK147 := Aside0.mk (blk_drew BK147.out); replace BK155 := Aside0.mk (blk_drew BK155.out); replace BK163 := Aside0.mk (blk_drew BK163.out); replace BK171 := Aside0.mk (blk_drew BK171.out); replace BK179 := Aside0.mk (blk_drew BK179.out); replace BK180 := Aside0.mk (blk_drew BK180.out); replace HB := Aside0.mk (below_drew1 HB.out)
                          refine start_ (n := 47) (S := fun w' => ce w' gb147 0 (.int .i64 t140) ∧ ce w' gb147 1 (.int .i64 t141) ∧ ce w' gb147 2 (.int .i64 t142) ∧ ce w' gb147 3 (.int .i64 t143) ∧ ce w' gb147 4 (.int .i64 t144) ∧ ce w' gb147 5 (.int .i64 t145) ∧ ce w' gb138 0 (.int .i64 a0_0) ∧ ce w' gb138 1 (.int .i64 a0_1) ∧ ce w' gb138 2 (.int .i64 a0_2) ∧ ce w' gb138 3 (.int .i64 a0_3) ∧ ce w' gb138 4 (.int .i64 a0_4) ∧ ce w' gb138 5 (.int .i64 a0_5)) (ds := []) (mk 47 0) kr_ rfl rfl ⟨xc BK147 0, xc BK147 1, xc BK147 2, xc BK147 3, xc BK147 4, xc BK147 5, xc BK138 0, xc BK138 1, xc BK138 2, xc BK138 3, xc BK138 4, xc BK138 5⟩ (fun hHeld => ?_); refine with_tabW gamehalllaw3_OfferSays.tab37 gamehalllaw3_OfferSays.bits37 (fun HT_ HW_ => ?_)
                          generalize wc.drew = w461 at BK138 BK147 BK155 BK163 BK171 BK179 BK180 HB hHeld ⊢; refine pu_ 0 205 HT_ ?_; refine pu_ 1 206 HT_ ?_; refine pu_ 2 207 HT_ ?_; refine pu_ 3 208 HT_ ?_; refine pu_ 4 209 HT_ ?_; refine pu_ 5 210 HT_ ?_; refine pu_ 6 211 HT_ ?_; refine pn_ 7 212 HT_ ?_; refine pn_ 8 213 HT_ ?_; refine pn_ 9 214 HT_ ?_; refine pu_ 10 215 HT_ ?_; refine pu_ 11 216 HT_ ?_; refine pu_ 12 217 HT_ ?_; refine pu_ 13 218 HT_ ?_; refine pu_ 14 219 HT_ ?_; refine pu_ 15 220 HT_ ?_; refine pu_ 16 221 HT_ ?_; refine pu_ 17 222 HT_ ?_; refine pu_ 18 223 HT_ ?_; refine pu_ 20 225 HT_ ?_; refine tk_ 19 224 HT_ HW_ hHeld ?_; refine pu_ 21 226 HT_ ?_; refine pu_ 22 227 HT_ ?_; refine pu_ 23 228 HT_ ?_; refine pu_ 24 229 HT_ ?_; refine pu_ 25 230 HT_ ?_; refine pu_ 26 231 HT_ ?_; refine pu_ 27 232 HT_ ?_; refine pu_ 29 234 HT_ ?_; refine tk_ 28 233 HT_ HW_ hHeld ?_; refine pu_ 30 235 HT_ ?_; refine pu_ 31 236 HT_ ?_; refine pu_ 32 237 HT_ ?_; refine pu_ 33 238 HT_ ?_; refine pu_ 34 239 HT_ ?_; refine pu_ 35 240 HT_ ?_; refine pu_ 36 241 HT_ ?_; refine pu_ 38 243 HT_ ?_; refine pu_ 39 244 HT_ ?_; refine pu_ 40 245 HT_ ?_; refine pu_ 41 246 HT_ ?_; refine tk_ 37 242 HT_ HW_ hHeld ?_; refine tk_ 42 247 HT_ HW_ hHeld ?_; refine pu_ 43 248 HT_ ?_; refine pu_ 44 249 HT_ ?_; refine pu_ 45 250 HT_ ?_; refine pu_ 46 251 HT_ ?_
                          refine done_ (done_of HT_.out kr_) ?_
                          try go_wp2
                          go_meet
                          case rel => exact ⟨_, ((t141 != a0_1)), (xrf), H', ⟨by have := HJ11.out; have := HJ182.out; have := HJ275.out; have := HJ358.out; first | omega | exact Nat.le_refl _⟩, ⟨xK BK138⟩, ⟨xK BK147⟩, ⟨xK BK155⟩, ⟨xK BK163⟩, ⟨xK BK171⟩, ⟨xK BK179⟩, ⟨xK BK180⟩, ⟨xW HB⟩⟩⟩
                          exact inferInstanceAs _⟩
                         exact inferInstanceAs _
                        ·rw [if_neg c454] at H
                         exact absurd H (by simp)⟩
                        exact inferInstanceAs _
                       ·rw [if_neg c453] at H
                        exact absurd H (by simp)⟩
                       exact inferInstanceAs _
                      ·refine box_ ?g16;letI i:type_of% ?g16:=⟨by
                       rw [if_neg c451] at H
                       have c451b0 : (t142 == a3) = false := beq_eq_false_iff_ne.mpr c451
                       have c451b1 : (t142 != a3) = true := bne_iff_ne.mpr c451
                       have H' := Aside0.mk H
                       clear H
                       try go_wp2
                       replace BK138 := Aside0.mk (blk_drew BK138.out); replace BK147 := Aside0.mk (blk_drew BK147.out); replace BK155 := Aside0.mk (blk_drew BK155.out); replace BK163 := Aside0.mk (blk_drew BK163.out); replace BK171 := Aside0.mk (blk_drew BK171.out); replace BK179 := Aside0.mk (blk_drew BK179.out); replace BK180 := Aside0.mk (blk_drew BK180.out); replace HB := Aside0.mk (below_drew1 HB.out)
                       refine start_ (n := 47) (S := fun w' => ce w' gb147 0 (.int .i64 t140) ∧ ce w' gb147 1 (.int .i64 t141) ∧ ce w' gb147 2 (.int .i64 t142) ∧ ce w' gb147 3 (.int .i64 t143) ∧ ce w' gb147 4 (.int .i64 t144) ∧ ce w' gb147 5 (.int .i64 t145)) (ds := []) (mk 47 0) kr_ rfl rfl ⟨xc BK147 0, xc BK147 1, xc BK147 2, xc BK147 3, xc BK147 4, xc BK147 5⟩ (fun hHeld => ?_); refine with_tabW gamehalllaw3_OfferSays.tab37 gamehalllaw3_OfferSays.bits37 (fun HT_ HW_ => ?_)
                       generalize wc.drew = w462 at BK138 BK147 BK155 BK163 BK171 BK179 BK180 HB hHeld ⊢; refine pu_ 0 205 HT_ ?_; refine pu_ 1 206 HT_ ?_; refine pu_ 2 207 HT_ ?_; refine pu_ 3 208 HT_ ?_; refine pu_ 4 209 HT_ ?_; refine pu_ 5 210 HT_ ?_; refine pu_ 6 211 HT_ ?_; refine pn_ 7 212 HT_ ?_; refine pn_ 8 213 HT_ ?_; refine pn_ 9 214 HT_ ?_; refine pu_ 10 215 HT_ ?_; refine pu_ 11 216 HT_ ?_; refine pu_ 12 217 HT_ ?_; refine pu_ 13 218 HT_ ?_; refine pu_ 14 219 HT_ ?_; refine pu_ 15 220 HT_ ?_; refine pu_ 16 221 HT_ ?_; refine pu_ 17 222 HT_ ?_; refine pu_ 18 223 HT_ ?_; refine pu_ 20 225 HT_ ?_; refine tk_ 19 224 HT_ HW_ hHeld ?_; refine pu_ 21 226 HT_ ?_; refine pu_ 22 227 HT_ ?_; refine pu_ 23 228 HT_ ?_; refine pu_ 24 229 HT_ ?_; refine pu_ 25 230 HT_ ?_; refine pu_ 26 231 HT_ ?_; refine pu_ 27 232 HT_ ?_; refine pu_ 29 234 HT_ ?_; refine tk_ 28 233 HT_ HW_ hHeld ?_; refine pu_ 30 235 HT_ ?_; refine pu_ 31 236 HT_ ?_; refine pu_ 32 237 HT_ ?_; refine pn_ 33 238 HT_ ?_; refine pn_ 34 239 HT_ ?_; refine pn_ 35 240 HT_ ?_; refine pn_ 36 241 HT_ ?_; refine pn_ 37 242 HT_ ?_; refine pn_ 38 243 HT_ ?_; refine pn_ 39 244 HT_ ?_; refine pn_ 40 245 HT_ ?_; refine pn_ 41 246 HT_ ?_; refine pn_ 42 247 HT_ ?_; refine pn_ 43 248 HT_ ?_; refine pu_ 44 249 HT_ ?_; refine pu_ 45 250 HT_ ?_; refine pu_ 46 251 HT_ ?_
                       refine done_ (done_of HT_.out kr_) ?_
                       try go_wp2
                       go_meet
                       case rel => exact ⟨_, (true), (xrf), H', ⟨by have := HJ11.out; have := HJ182.out; have := HJ275.out; have := HJ358.out; first | omega | exact Nat.le_refl _⟩, ⟨xK BK138⟩, ⟨xK BK147⟩, ⟨xK BK155⟩, ⟨xK BK163⟩, ⟨xK BK171⟩, ⟨xK BK179⟩, ⟨xK BK180⟩, ⟨xW HB⟩⟩⟩
                       exact inferInstanceAs _⟩
                      exact inferInstanceAs _
                     ·refine box_ ?g17;letI i:type_of% ?g17:=⟨by
                      rw [if_neg c449] at H
                      have c449b0 : (a2 == 0) = false := beq_eq_false_iff_ne.mpr c449
                      have c449b1 : (a2 != 0) = true := bne_iff_ne.mpr c449
                      obtain ⟨c463b, c463g, c463c, c463d⟩ := xar (a2 : Int) 1 1 2
                      by_cases c464 : t143 = a3
                      ·refine box_ ?g18;letI i:type_of% ?g18:=⟨by
                       rw [if_pos c464] at H
                       have c464b0 : (t143 == a3) = true := beq_iff_eq.mpr c464
                       have c464b1 : (t143 != a3) = false := bne_eq_false_iff_eq.mpr c464
                       clear c464
                       obtain ⟨ji465, hji465⟩ : ∃ j_ : Int, (wrap64 (1 - a1)) = j_ := ⟨_, rfl⟩
                       (first | rw [hji465] at H | simp only [hji465] at H)
                       have hji465w : (IntKind.i64.wrap (1 - a1)) = ji465 := (i64_w _).trans hji465
                       by_cases c466 : 0 ≤ (ji465)
                       ·refine box_ ?g19;letI i:type_of% ?g19:=⟨by
                        rw [if_pos c466] at H
                        have c466b0 : decide (0 ≤ (ji465)) = true := decide_eq_true c466
                        clear c466
                        by_cases c467 : (ji465) < 2
                        ·refine box_ ?g20;letI i:type_of% ?g20:=⟨by
                         rw [if_pos c467] at H
                         have c467b0 : decide ((ji465) < 2) = true := decide_eq_true c467
                         clear c467
                         by_cases c468 : (ji465) = 0
                         ·refine box_ ?g21;letI i:type_of% ?g21:=⟨by
                          rw [if_pos c468] at H
                          have c468b0 : ((ji465) == 0) = true := beq_iff_eq.mpr c468
                          have c468b1 : ((ji465) != 0) = false := bne_eq_false_iff_eq.mpr c468
                          clear c468; obtain ⟨c469b, c469g, c469c, c469d⟩ := xar ((ji465) : Int) 0 0 2; obtain ⟨c470b, c470g, c470c, c470d⟩ := xar ((ji465) : Int) 0 0 2
                          have H' := Aside0.mk H
                          clear H
                          try go_wp2
                          replace BK138 := Aside0.mk (blk_drew BK138.out); replace BK147 := Aside0.mk (blk_drew BK147.out); replace BK155 := Aside0.mk (blk_drew BK155.out); replace BK163 := Aside0.mk (blk_drew BK163.out); replace BK171 := Aside0.mk (blk_drew BK171.out); replace BK179 := Aside0.mk (blk_drew BK179.out); replace BK180 := Aside0.mk (blk_drew BK180.out); replace HB := Aside0.mk (below_drew1 HB.out)
                          refine start_ (n := 47) (S := fun w' => ce w' gb147 0 (.int .i64 t140) ∧ ce w' gb147 1 (.int .i64 t141) ∧ ce w' gb147 2 (.int .i64 t142) ∧ ce w' gb147 3 (.int .i64 t143) ∧ ce w' gb147 4 (.int .i64 t144) ∧ ce w' gb147 5 (.int .i64 t145) ∧ ce w' gb138 0 (.int .i64 a0_0) ∧ ce w' gb138 1 (.int .i64 a0_1) ∧ ce w' gb138 2 (.int .i64 a0_2) ∧ ce w' gb138 3 (.int .i64 a0_3) ∧ ce w' gb138 4 (.int .i64 a0_4) ∧ ce w' gb138 5 (.int .i64 a0_5)) (ds := []) (mk 47 0) kr_ rfl rfl ⟨xc BK147 0, xc BK147 1, xc BK147 2, xc BK147 3, xc BK147 4, xc BK147 5, xc BK138 0, xc BK138 1, xc BK138 2, xc BK138 3, xc BK138 4, xc BK138 5⟩ (fun hHeld => ?_); refine with_tabW gamehalllaw3_OfferSays.tab37 gamehalllaw3_OfferSays.bits37 (fun HT_ HW_ => ?_)
                          generalize wc.drew = w471 at BK138 BK147 BK155 BK163 BK171 BK179 BK180 HB hHeld ⊢; refine pu_ 0 205 HT_ ?_; refine pu_ 1 206 HT_ ?_; refine pu_ 2 207 HT_ ?_; refine pu_ 3 208 HT_ ?_; refine pu_ 4 209 HT_ ?_; refine pu_ 5 210 HT_ ?_; refine pu_ 6 211 HT_ ?_; refine pn_ 7 212 HT_ ?_; refine pn_ 8 213 HT_ ?_; refine pn_ 9 214 HT_ ?_; refine pu_ 10 215 HT_ ?_; refine pu_ 11 216 HT_ ?_; refine pu_ 12 217 HT_ ?_; refine pu_ 13 218 HT_ ?_; refine pu_ 14 219 HT_ ?_; refine pu_ 15 220 HT_ ?_; refine pu_ 16 221 HT_ ?_; refine pu_ 17 222 HT_ ?_; refine pu_ 18 223 HT_ ?_; refine pu_ 20 225 HT_ ?_; refine tk_ 19 224 HT_ HW_ hHeld ?_; refine pu_ 21 226 HT_ ?_; refine pu_ 22 227 HT_ ?_; refine pu_ 23 228 HT_ ?_; refine pu_ 24 229 HT_ ?_; refine pu_ 25 230 HT_ ?_; refine pu_ 26 231 HT_ ?_; refine pu_ 27 232 HT_ ?_; refine pu_ 29 234 HT_ ?_; refine tk_ 28 233 HT_ HW_ hHeld ?_; refine pu_ 30 235 HT_ ?_; refine pu_ 31 236 HT_ ?_; refine pu_ 32 237 HT_ ?_; refine pu_ 33 238 HT_ ?_; refine pu_ 34 239 HT_ ?_; refine pu_ 35 240 HT_ ?_; refine pu_ 36 241 HT_ ?_; refine pu_ 38 243 HT_ ?_; refine pu_ 39 244 HT_ ?_; refine pu_ 40 245 HT_ ?_; refine pu_ 41 246 HT_ ?_; refine tk_ 37 242 HT_ HW_ hHeld ?_; refine tk_ 42 247 HT_ HW_ hHeld ?_; refine pu_ 43 248 HT_ ?_; refine pu_ 44 249 HT_ ?_; refine pu_ 45 250 HT_ ?_; refine pu_ 46 251 HT_ ?_
                          refine done_ (done_of HT_.out kr_) ?_
                          try go_wp2
                          go_meet
                          case rel => exact ⟨_, ((t140 != a0_0)), (xrf), H', ⟨by have := HJ11.out; have := HJ182.out; have := HJ275.out; have := HJ358.out; first | omega | exact Nat.le_refl _⟩, ⟨xK BK138⟩, ⟨xK BK147⟩, ⟨xK BK155⟩, ⟨xK BK163⟩, ⟨xK BK171⟩, ⟨xK BK179⟩, ⟨xK BK180⟩, ⟨xW HB⟩⟩⟩
                          exact inferInstanceAs _
                         ·refine box_ ?g22;letI i:type_of% ?g22:=⟨by
                          rw [if_neg c468] at H
                          have c468b0 : ((ji465) == 0) = false := beq_eq_false_iff_ne.mpr c468
                          have c468b1 : ((ji465) != 0) = true := bne_iff_ne.mpr c468
                          obtain ⟨c472b, c472g, c472c, c472d⟩ := xar ((ji465) : Int) 1 1 2; obtain ⟨c473b, c473g, c473c, c473d⟩ := xar ((ji465) : Int) 1 1 2
                          have H' := Aside0.mk H
                          clear H
                          try go_wp2
                          replace BK138 := Aside0.mk (blk_drew BK138.out); replace BK147 := Aside0.mk (blk_drew BK147.out); replace BK155 := Aside0.mk (blk_drew BK155.out); replace BK163 := Aside0.mk (blk_drew BK163.out); replace BK171 := Aside0.mk (blk_drew BK171.out); replace BK179 := Aside0.mk (blk_drew BK179.out); replace BK180 := Aside0.mk (blk_drew BK180.out); replace HB := Aside0.mk (below_drew1 HB.out)
                          refine start_ (n := 47) (S := fun w' => ce w' gb147 0 (.int .i64 t140) ∧ ce w' gb147 1 (.int .i64 t141) ∧ ce w' gb147 2 (.int .i64 t142) ∧ ce w' gb147 3 (.int .i64 t143) ∧ ce w' gb147 4 (.int .i64 t144) ∧ ce w' gb147 5 (.int .i64 t145) ∧ ce w' gb138 0 (.int .i64 a0_0) ∧ ce w' gb138 1 (.int .i64 a0_1) ∧ ce w' gb138 2 (.int .i64 a0_2) ∧ ce w' gb138 3 (.int .i64 a0_3) ∧ ce w' gb138 4 (.int .i64 a0_4) ∧ ce w' gb138 5 (.int .i64 a0_5)) (ds := []) (mk 47 0) kr_ rfl rfl ⟨xc BK147 0, xc BK147 1, xc BK147 2, xc BK147 3, xc BK147 4, xc BK147 5, xc BK138 0, xc BK138 1, xc BK138 2, xc BK138 3, xc BK138 4, xc BK138 5⟩ (fun hHeld => ?_); refine with_tabW gamehalllaw3_OfferSays.tab37 gamehalllaw3_OfferSays.bits37 (fun HT_ HW_ => ?_)
                          generalize wc.drew = w474 at BK138 BK147 BK155 BK163 BK171 BK179 BK180 HB hHeld ⊢; refine pu_ 0 205 HT_ ?_; refine pu_ 1 206 HT_ ?_; refine pu_ 2 207 HT_ ?_; refine pu_ 3 208 HT_ ?_; refine pu_ 4 209 HT_ ?_; refine pu_ 5 210 HT_ ?_; refine pu_ 6 211 HT_ ?_; refine pn_ 7 212 HT_ ?_; refine pn_ 8 213 HT_ ?_; refine pn_ 9 214 HT_ ?_; refine pu_ 10 215 HT_ ?_; refine pu_ 11 216 HT_ ?_; refine pu_ 12 217 HT_ ?_; refine pu_ 13 218 HT_ ?_; refine pu_ 14 219 HT_ ?_; refine pu_ 15 220 HT_ ?_; refine pu_ 16 221 HT_ ?_; refine pu_ 17 222 HT_ ?_; refine pu_ 18 223 HT_ ?_; refine pu_ 20 225 HT_ ?_; refine tk_ 19 224 HT_ HW_ hHeld ?_; refine pu_ 21 226 HT_ ?_; refine pu_ 22 227 HT_ ?_; refine pu_ 23 228 HT_ ?_; refine pu_ 24 229 HT_ ?_; refine pu_ 25 230 HT_ ?_; refine pu_ 26 231 HT_ ?_; refine pu_ 27 232 HT_ ?_; refine pu_ 29 234 HT_ ?_; refine tk_ 28 233 HT_ HW_ hHeld ?_; refine pu_ 30 235 HT_ ?_; refine pu_ 31 236 HT_ ?_; refine pu_ 32 237 HT_ ?_; refine pu_ 33 238 HT_ ?_; refine pu_ 34 239 HT_ ?_; refine pu_ 35 240 HT_ ?_; refine pu_ 36 241 HT_ ?_; refine pu_ 38 243 HT_ ?_; refine pu_ 39 244 HT_ ?_; refine pu_ 40 245 HT_ ?_; refine pu_ 41 246 HT_ ?_; refine tk_ 37 242 HT_ HW_ hHeld ?_; refine tk_ 42 247 HT_ HW_ hHeld ?_; refine pu_ 43 248 HT_ ?_; refine pu_ 44 249 HT_ ?_; refine pu_ 45 250 HT_ ?_; refine pu_ 46 251 HT_ ?_
                          refine done_ (done_of HT_.out kr_) ?_
                          try go_wp2
                          go_meet
                          case rel => exact ⟨_, ((t141 != a0_1)), (xrf), H', ⟨by have := HJ11.out; have := HJ182.out; have := HJ275.out; have := HJ358.out; first | omega | exact Nat.le_refl _⟩, ⟨xK BK138⟩, ⟨xK BK147⟩, ⟨xK BK155⟩, ⟨xK BK163⟩, ⟨xK BK171⟩, ⟨xK BK179⟩, ⟨xK BK180⟩, ⟨xW HB⟩⟩⟩
                          exact inferInstanceAs _⟩
                         exact inferInstanceAs _
                        ·rw [if_neg c467] at H
                         exact absurd H (by simp)⟩
                        exact inferInstanceAs _
                       ·rw [if_neg c466] at H
                        exact absurd H (by simp)⟩
                       exact inferInstanceAs _
                      ·refine box_ ?g23;letI i:type_of% ?g23:=⟨by
                       rw [if_neg c464] at H
                       have c464b0 : (t143 == a3) = false := beq_eq_false_iff_ne.mpr c464
                       have c464b1 : (t143 != a3) = true := bne_iff_ne.mpr c464
                       have H' := Aside0.mk H
                       clear H
                       try go_wp2
                       replace BK138 := Aside0.mk (blk_drew BK138.out); replace BK147 := Aside0.mk (blk_drew BK147.out); replace BK155 := Aside0.mk (blk_drew BK155.out); replace BK163 := Aside0.mk (blk_drew BK163.out); replace BK171 := Aside0.mk (blk_drew BK171.out); replace BK179 := Aside0.mk (blk_drew BK179.out); replace BK180 := Aside0.mk (blk_drew BK180.out); replace HB := Aside0.mk (below_drew1 HB.out)
                       refine start_ (n := 47) (S := fun w' => ce w' gb147 0 (.int .i64 t140) ∧ ce w' gb147 1 (.int .i64 t141) ∧ ce w' gb147 2 (.int .i64 t142) ∧ ce w' gb147 3 (.int .i64 t143) ∧ ce w' gb147 4 (.int .i64 t144) ∧ ce w' gb147 5 (.int .i64 t145)) (ds := []) (mk 47 0) kr_ rfl rfl ⟨xc BK147 0, xc BK147 1, xc BK147 2, xc BK147 3, xc BK147 4, xc BK147 5⟩ (fun hHeld => ?_); refine with_tabW gamehalllaw3_OfferSays.tab37 gamehalllaw3_OfferSays.bits37 (fun HT_ HW_ => ?_)
                       generalize wc.drew = w475 at BK138 BK147 BK155 BK163 BK171 BK179 BK180 HB hHeld ⊢; refine pu_ 0 205 HT_ ?_; refine pu_ 1 206 HT_ ?_; refine pu_ 2 207 HT_ ?_; refine pu_ 3 208 HT_ ?_; refine pu_ 4 209 HT_ ?_; refine pu_ 5 210 HT_ ?_; refine pu_ 6 211 HT_ ?_; refine pn_ 7 212 HT_ ?_; refine pn_ 8 213 HT_ ?_; refine pn_ 9 214 HT_ ?_; refine pu_ 10 215 HT_ ?_; refine pu_ 11 216 HT_ ?_; refine pu_ 12 217 HT_ ?_; refine pu_ 13 218 HT_ ?_; refine pu_ 14 219 HT_ ?_; refine pu_ 15 220 HT_ ?_; refine pu_ 16 221 HT_ ?_; refine pu_ 17 222 HT_ ?_; refine pu_ 18 223 HT_ ?_; refine pu_ 20 225 HT_ ?_; refine tk_ 19 224 HT_ HW_ hHeld ?_; refine pu_ 21 226 HT_ ?_; refine pu_ 22 227 HT_ ?_; refine pu_ 23 228 HT_ ?_; refine pu_ 24 229 HT_ ?_; refine pu_ 25 230 HT_ ?_; refine pu_ 26 231 HT_ ?_; refine pu_ 27 232 HT_ ?_; refine pu_ 29 234 HT_ ?_; refine tk_ 28 233 HT_ HW_ hHeld ?_; refine pu_ 30 235 HT_ ?_; refine pu_ 31 236 HT_ ?_; refine pu_ 32 237 HT_ ?_; refine pn_ 33 238 HT_ ?_; refine pn_ 34 239 HT_ ?_; refine pn_ 35 240 HT_ ?_; refine pn_ 36 241 HT_ ?_; refine pn_ 37 242 HT_ ?_; refine pn_ 38 243 HT_ ?_; refine pn_ 39 244 HT_ ?_; refine pn_ 40 245 HT_ ?_; refine pn_ 41 246 HT_ ?_; refine pn_ 42 247 HT_ ?_; refine pn_ 43 248 HT_ ?_; refine pu_ 44 249 HT_ ?_; refine pu_ 45 250 HT_ ?_; refine pu_ 46 251 HT_ ?_
                       refine done_ (done_of HT_.out kr_) ?_
                       try go_wp2
                       go_meet
                       case rel => exact ⟨_, (true), (xrf), H', ⟨by have := HJ11.out; have := HJ182.out; have := HJ275.out; have := HJ358.out; first | omega | exact Nat.le_refl _⟩, ⟨xK BK138⟩, ⟨xK BK147⟩, ⟨xK BK155⟩, ⟨xK BK163⟩, ⟨xK BK171⟩, ⟨xK BK179⟩, ⟨xK BK180⟩, ⟨xW HB⟩⟩⟩
                       exact inferInstanceAs _⟩
                      exact inferInstanceAs _⟩
                     exact inferInstanceAs _
                    ·rw [if_neg c448] at H
                     exact absurd H (by simp)⟩
                    exact inferInstanceAs _
                   ·rw [if_neg c447] at H
                    exact absurd H (by simp)⟩
                   exact inferInstanceAs _
                  ·refine box_ ?g24;letI i:type_of% ?g24:=⟨by
                   rw [if_neg c445] at H
                   have c445b0 : (t140 == a2) = false := beq_eq_false_iff_ne.mpr c445
                   have c445b1 : (t140 != a2) = true := bne_iff_ne.mpr c445
                   have H' := Aside0.mk H
                   clear H
                   try go_wp2
                   replace BK138 := Aside0.mk (blk_drew BK138.out); replace BK147 := Aside0.mk (blk_drew BK147.out); replace BK155 := Aside0.mk (blk_drew BK155.out); replace BK163 := Aside0.mk (blk_drew BK163.out); replace BK171 := Aside0.mk (blk_drew BK171.out); replace BK179 := Aside0.mk (blk_drew BK179.out); replace BK180 := Aside0.mk (blk_drew BK180.out); replace HB := Aside0.mk (below_drew1 HB.out)
                   refine start_ (n := 47) (S := fun w' => ce w' gb147 0 (.int .i64 t140) ∧ ce w' gb147 1 (.int .i64 t141) ∧ ce w' gb147 2 (.int .i64 t142) ∧ ce w' gb147 3 (.int .i64 t143) ∧ ce w' gb147 4 (.int .i64 t144) ∧ ce w' gb147 5 (.int .i64 t145)) (ds := []) (mk 47 0) kr_ rfl rfl ⟨xc BK147 0, xc BK147 1, xc BK147 2, xc BK147 3, xc BK147 4, xc BK147 5⟩ (fun hHeld => ?_); refine with_tabW gamehalllaw3_OfferSays.tab37 gamehalllaw3_OfferSays.bits37 (fun HT_ HW_ => ?_)
                   generalize wc.drew = w476 at BK138 BK147 BK155 BK163 BK171 BK179 BK180 HB hHeld ⊢; refine pu_ 0 205 HT_ ?_; refine pu_ 1 206 HT_ ?_; refine pu_ 2 207 HT_ ?_; refine pu_ 3 208 HT_ ?_; refine pu_ 4 209 HT_ ?_; refine pu_ 5 210 HT_ ?_; refine pu_ 6 211 HT_ ?_; refine pn_ 7 212 HT_ ?_; refine pn_ 8 213 HT_ ?_; refine pn_ 9 214 HT_ ?_; refine pu_ 10 215 HT_ ?_; refine pu_ 11 216 HT_ ?_; refine pu_ 12 217 HT_ ?_; refine pu_ 13 218 HT_ ?_; refine pu_ 14 219 HT_ ?_; refine pu_ 15 220 HT_ ?_; refine pu_ 16 221 HT_ ?_; refine pu_ 17 222 HT_ ?_; refine pu_ 18 223 HT_ ?_; refine pu_ 20 225 HT_ ?_; refine tk_ 19 224 HT_ HW_ hHeld ?_; refine pu_ 21 226 HT_ ?_; refine pu_ 22 227 HT_ ?_; refine pn_ 23 228 HT_ ?_; refine pn_ 24 229 HT_ ?_; refine pn_ 25 230 HT_ ?_; refine pn_ 26 231 HT_ ?_; refine pn_ 27 232 HT_ ?_; refine pn_ 28 233 HT_ ?_; refine pn_ 29 234 HT_ ?_; refine pn_ 30 235 HT_ ?_; refine pu_ 31 236 HT_ ?_; refine pu_ 32 237 HT_ ?_; refine pn_ 33 238 HT_ ?_; refine pn_ 34 239 HT_ ?_; refine pn_ 35 240 HT_ ?_; refine pn_ 36 241 HT_ ?_; refine pn_ 37 242 HT_ ?_; refine pn_ 38 243 HT_ ?_; refine pn_ 39 244 HT_ ?_; refine pn_ 40 245 HT_ ?_; refine pn_ 41 246 HT_ ?_; refine pn_ 42 247 HT_ ?_; refine pn_ 43 248 HT_ ?_; refine pu_ 44 249 HT_ ?_; refine pu_ 45 250 HT_ ?_; refine pu_ 46 251 HT_ ?_
                   refine done_ (done_of HT_.out kr_) ?_
                   try go_wp2
                   go_meet
                   case rel => exact ⟨_, (true), (xrf), H', ⟨by have := HJ11.out; have := HJ182.out; have := HJ275.out; have := HJ358.out; first | omega | exact Nat.le_refl _⟩, ⟨xK BK138⟩, ⟨xK BK147⟩, ⟨xK BK155⟩, ⟨xK BK163⟩, ⟨xK BK171⟩, ⟨xK BK179⟩, ⟨xK BK180⟩, ⟨xW HB⟩⟩⟩
                   exact inferInstanceAs _⟩
                  exact inferInstanceAs _
                 ·refine box_ ?g25;letI i:type_of% ?g25:=⟨by
                  rw [if_neg c443] at H
                  have c443b0 : (a1 == 0) = false := beq_eq_false_iff_ne.mpr c443
                  have c443b1 : (a1 != 0) = true := bne_iff_ne.mpr c443
                  obtain ⟨c477b, c477g, c477c, c477d⟩ := xar (a1 : Int) 1 1 2
                  by_cases c478 : t141 = a2
                  ·refine box_ ?g26;letI i:type_of% ?g26:=⟨by
                   rw [if_pos c478] at H
                   have c478b0 : (t141 == a2) = true := beq_iff_eq.mpr c478
                   have c478b1 : (t141 != a2) = false := bne_eq_false_iff_eq.mpr c478
                   clear c478; obtain ⟨c479b, c479g, c479c, c479d⟩ := xar (a1 : Int) 1 1 2
                   by_cases c480 : 0 ≤ a2
                   ·refine box_ ?g27;letI i:type_of% ?g27:=⟨by
                    rw [if_pos c480] at H
                    have c480b0 : decide (0 ≤ a2) = true := decide_eq_true c480
                    clear c480
                    by_cases c481 : a2 < 2
                    ·refine box_ ?g28;letI i:type_of% ?g28:=⟨by
                     rw [if_pos c481] at H
                     have c481b0 : decide (a2 < 2) = true := decide_eq_true c481
                     clear c481
                     by_cases c482 : a2 = 0
                     ·refine box_ ?g29;letI i:type_of% ?g29:=⟨by
                      rw [if_pos c482] at H
                      have c482b0 : (a2 == 0) = true := beq_iff_eq.mpr c482
                      have c482b1 : (a2 != 0) = false := bne_eq_false_iff_eq.mpr c482
                      clear c482; obtain ⟨c483b, c483g, c483c, c483d⟩ := xar (a2 : Int) 0 0 2
                      by_cases c484 : t144 = a3
                      ·refine box_ ?g30;letI i:type_of% ?g30:=⟨by
                       rw [if_pos c484] at H
                       have c484b0 : (t144 == a3) = true := beq_iff_eq.mpr c484
                       have c484b1 : (t144 != a3) = false := bne_eq_false_iff_eq.mpr c484
                       clear c484
                       obtain ⟨ji485, hji485⟩ : ∃ j_ : Int, (wrap64 (1 - a1)) = j_ := ⟨_, rfl⟩
                       (first | rw [hji485] at H | simp only [hji485] at H)
                       have hji485w : (IntKind.i64.wrap (1 - a1)) = ji485 := (i64_w _).trans hji485
                       by_cases c486 : 0 ≤ (ji485)
                       ·refine box_ ?g31;letI i:type_of% ?g31:=⟨by
                        rw [if_pos c486] at H
                        have c486b0 : decide (0 ≤ (ji485)) = true := decide_eq_true c486
                        clear c486
                        by_cases c487 : (ji485) < 2
                        ·refine box_ ?g32;letI i:type_of% ?g32:=⟨by
                         rw [if_pos c487] at H
                         have c487b0 : decide ((ji485) < 2) = true := decide_eq_true c487
                         clear c487
                         by_cases c488 : (ji485) = 0
                         ·refine box_ ?g33;letI i:type_of% ?g33:=⟨by
                          rw [if_pos c488] at H
                          have c488b0 : ((ji485) == 0) = true := beq_iff_eq.mpr c488
                          have c488b1 : ((ji485) != 0) = false := bne_eq_false_iff_eq.mpr c488
                          clear c488; obtain ⟨c489b, c489g, c489c, c489d⟩ := xar ((ji485) : Int) 0 0 2; obtain ⟨c490b, c490g, c490c, c490d⟩ := xar ((ji485) : Int) 0 0 2
                          have H' := Aside0.mk H
                          clear H
                          try go_wp2
                          replace BK138 := Aside0.mk (blk_drew BK138.out); replace BK147 := Aside0.mk (blk_drew BK147.out); replace BK155 := Aside0.mk (blk_drew BK155.out); replace BK163 := Aside0.mk (blk_drew BK163.out); replace BK171 := Aside0.mk (blk_drew BK171.out); replace BK179 := Aside0.mk (blk_drew BK179.out); replace BK180 := Aside0.mk (blk_drew BK180.out); replace HB := Aside0.mk (below_drew1 HB.out)
                          refine start_ (n := 47) (S := fun w' => ce w' gb147 0 (.int .i64 t140) ∧ ce w' gb147 1 (.int .i64 t141) ∧ ce w' gb147 2 (.int .i64 t142) ∧ ce w' gb147 3 (.int .i64 t143) ∧ ce w' gb147 4 (.int .i64 t144) ∧ ce w' gb147 5 (.int .i64 t145) ∧ ce w' gb138 0 (.int .i64 a0_0) ∧ ce w' gb138 1 (.int .i64 a0_1) ∧ ce w' gb138 2 (.int .i64 a0_2) ∧ ce w' gb138 3 (.int .i64 a0_3) ∧ ce w' gb138 4 (.int .i64 a0_4) ∧ ce w' gb138 5 (.int .i64 a0_5)) (ds := []) (mk 47 0) kr_ rfl rfl ⟨xc BK147 0, xc BK147 1, xc BK147 2, xc BK147 3, xc BK147 4, xc BK147 5, xc BK138 0, xc BK138 1, xc BK138 2, xc BK138 3, xc BK138 4, xc BK138 5⟩ (fun hHeld => ?_); refine with_tabW gamehalllaw3_OfferSays.tab37 gamehalllaw3_OfferSays.bits37 (fun HT_ HW_ => ?_)
                          generalize wc.drew = w491 at BK138 BK147 BK155 BK163 BK171 BK179 BK180 HB hHeld ⊢; refine pu_ 0 205 HT_ ?_; refine pu_ 1 206 HT_ ?_; refine pu_ 2 207 HT_ ?_; refine pu_ 3 208 HT_ ?_; refine pu_ 4 209 HT_ ?_; refine pu_ 5 210 HT_ ?_; refine pu_ 6 211 HT_ ?_; refine pn_ 7 212 HT_ ?_; refine pn_ 8 213 HT_ ?_; refine pn_ 9 214 HT_ ?_; refine pu_ 10 215 HT_ ?_; refine pu_ 11 216 HT_ ?_; refine pu_ 12 217 HT_ ?_; refine pu_ 13 218 HT_ ?_; refine pu_ 14 219 HT_ ?_; refine pu_ 15 220 HT_ ?_; refine pu_ 16 221 HT_ ?_; refine pu_ 17 222 HT_ ?_; refine pu_ 18 223 HT_ ?_; refine pu_ 20 225 HT_ ?_; refine tk_ 19 224 HT_ HW_ hHeld ?_; refine pu_ 21 226 HT_ ?_; refine pu_ 22 227 HT_ ?_; refine pu_ 23 228 HT_ ?_; refine pu_ 24 229 HT_ ?_; refine pu_ 25 230 HT_ ?_; refine pu_ 26 231 HT_ ?_; refine pu_ 27 232 HT_ ?_; refine pu_ 29 234 HT_ ?_; refine tk_ 28 233 HT_ HW_ hHeld ?_; refine pu_ 30 235 HT_ ?_; refine pu_ 31 236 HT_ ?_; refine pu_ 32 237 HT_ ?_; refine pu_ 33 238 HT_ ?_; refine pu_ 34 239 HT_ ?_; refine pu_ 35 240 HT_ ?_; refine pu_ 36 241 HT_ ?_; refine pu_ 38 243 HT_ ?_; refine pu_ 39 244 HT_ ?_; refine pu_ 40 245 HT_ ?_; refine pu_ 41 246 HT_ ?_; refine tk_ 37 242 HT_ HW_ hHeld ?_; refine tk_ 42 247 HT_ HW_ hHeld ?_; refine pu_ 43 248 HT_ ?_; refine pu_ 44 249 HT_ ?_; refine pu_ 45 250 HT_ ?_; refine pu_ 46 251 HT_ ?_
                          refine done_ (done_of HT_.out kr_) ?_
                          try go_wp2
                          go_meet
                          case rel => exact ⟨_, ((t140 != a0_0)), (xrf), H', ⟨by have := HJ11.out; have := HJ182.out; have := HJ275.out; have := HJ358.out; first | omega | exact Nat.le_refl _⟩, ⟨xK BK138⟩, ⟨xK BK147⟩, ⟨xK BK155⟩, ⟨xK BK163⟩, ⟨xK BK171⟩, ⟨xK BK179⟩, ⟨xK BK180⟩, ⟨xW HB⟩⟩⟩
                          exact inferInstanceAs _
                         ·refine box_ ?g34;letI i:type_of% ?g34:=⟨by
                          rw [if_neg c488] at H
                          have c488b0 : ((ji485) == 0) = false := beq_eq_false_iff_ne.mpr c488
                          have c488b1 : ((ji485) != 0) = true := bne_iff_ne.mpr c488
                          obtain ⟨c492b, c492g, c492c, c492d⟩ := xar ((ji485) : Int) 1 1 2; obtain ⟨c493b, c493g, c493c, c493d⟩ := xar ((ji485) : Int) 1 1 2
                          have H' := Aside0.mk H
                          clear H
                          try go_wp2
                          replace BK138 := Aside0.mk (blk_drew BK138.out); replace BK147 := Aside0.mk (blk_drew BK147.out); replace BK155 := Aside0.mk (blk_drew BK155.out); replace BK163 := Aside0.mk (blk_drew BK163.out); replace BK171 := Aside0.mk (blk_drew BK171.out); replace BK179 := Aside0.mk (blk_drew BK179.out); replace BK180 := Aside0.mk (blk_drew BK180.out); replace HB := Aside0.mk (below_drew1 HB.out)
                          refine start_ (n := 47) (S := fun w' => ce w' gb147 0 (.int .i64 t140) ∧ ce w' gb147 1 (.int .i64 t141) ∧ ce w' gb147 2 (.int .i64 t142) ∧ ce w' gb147 3 (.int .i64 t143) ∧ ce w' gb147 4 (.int .i64 t144) ∧ ce w' gb147 5 (.int .i64 t145) ∧ ce w' gb138 0 (.int .i64 a0_0) ∧ ce w' gb138 1 (.int .i64 a0_1) ∧ ce w' gb138 2 (.int .i64 a0_2) ∧ ce w' gb138 3 (.int .i64 a0_3) ∧ ce w' gb138 4 (.int .i64 a0_4) ∧ ce w' gb138 5 (.int .i64 a0_5)) (ds := []) (mk 47 0) kr_ rfl rfl ⟨xc BK147 0, xc BK147 1, xc BK147 2, xc BK147 3, xc BK147 4, xc BK147 5, xc BK138 0, xc BK138 1, xc BK138 2, xc BK138 3, xc BK138 4, xc BK138 5⟩ (fun hHeld => ?_); refine with_tabW gamehalllaw3_OfferSays.tab37 gamehalllaw3_OfferSays.bits37 (fun HT_ HW_ => ?_)
                          generalize wc.drew = w494 at BK138 BK147 BK155 BK163 BK171 BK179 BK180 HB hHeld ⊢; refine pu_ 0 205 HT_ ?_; refine pu_ 1 206 HT_ ?_; refine pu_ 2 207 HT_ ?_; refine pu_ 3 208 HT_ ?_; refine pu_ 4 209 HT_ ?_; refine pu_ 5 210 HT_ ?_; refine pu_ 6 211 HT_ ?_; refine pn_ 7 212 HT_ ?_; refine pn_ 8 213 HT_ ?_; refine pn_ 9 214 HT_ ?_; refine pu_ 10 215 HT_ ?_; refine pu_ 11 216 HT_ ?_; refine pu_ 12 217 HT_ ?_; refine pu_ 13 218 HT_ ?_; refine pu_ 14 219 HT_ ?_; refine pu_ 15 220 HT_ ?_; refine pu_ 16 221 HT_ ?_; refine pu_ 17 222 HT_ ?_; refine pu_ 18 223 HT_ ?_; refine pu_ 20 225 HT_ ?_; refine tk_ 19 224 HT_ HW_ hHeld ?_; refine pu_ 21 226 HT_ ?_; refine pu_ 22 227 HT_ ?_; refine pu_ 23 228 HT_ ?_; refine pu_ 24 229 HT_ ?_; refine pu_ 25 230 HT_ ?_; refine pu_ 26 231 HT_ ?_; refine pu_ 27 232 HT_ ?_; refine pu_ 29 234 HT_ ?_; refine tk_ 28 233 HT_ HW_ hHeld ?_; refine pu_ 30 235 HT_ ?_; refine pu_ 31 236 HT_ ?_; refine pu_ 32 237 HT_ ?_; refine pu_ 33 238 HT_ ?_; refine pu_ 34 239 HT_ ?_; refine pu_ 35 240 HT_ ?_; refine pu_ 36 241 HT_ ?_; refine pu_ 38 243 HT_ ?_; refine pu_ 39 244 HT_ ?_; refine pu_ 40 245 HT_ ?_; refine pu_ 41 246 HT_ ?_; refine tk_ 37 242 HT_ HW_ hHeld ?_; refine tk_ 42 247 HT_ HW_ hHeld ?_; refine pu_ 43 248 HT_ ?_; refine pu_ 44 249 HT_ ?_; refine pu_ 45 250 HT_ ?_; refine pu_ 46 251 HT_ ?_
                          refine done_ (done_of HT_.out kr_) ?_
                          try go_wp2
                          go_meet
                          case rel => exact ⟨_, ((t141 != a0_1)), (xrf), H', ⟨by have := HJ11.out; have := HJ182.out; have := HJ275.out; have := HJ358.out; first | omega | exact Nat.le_refl _⟩, ⟨xK BK138⟩, ⟨xK BK147⟩, ⟨xK BK155⟩, ⟨xK BK163⟩, ⟨xK BK171⟩, ⟨xK BK179⟩, ⟨xK BK180⟩, ⟨xW HB⟩⟩⟩
                          exact inferInstanceAs _⟩
                         exact inferInstanceAs _
                        ·rw [if_neg c487] at H
                         exact absurd H (by simp)⟩
                        exact inferInstanceAs _
                       ·rw [if_neg c486] at H
                        exact absurd H (by simp)⟩
                       exact inferInstanceAs _
                      ·refine box_ ?g35;letI i:type_of% ?g35:=⟨by
                       rw [if_neg c484] at H
                       have c484b0 : (t144 == a3) = false := beq_eq_false_iff_ne.mpr c484
                       have c484b1 : (t144 != a3) = true := bne_iff_ne.mpr c484
                       have H' := Aside0.mk H
                       clear H
                       try go_wp2
                       replace BK138 := Aside0.mk (blk_drew BK138.out); replace BK147 := Aside0.mk (blk_drew BK147.out); replace BK155 := Aside0.mk (blk_drew BK155.out); replace BK163 := Aside0.mk (blk_drew BK163.out); replace BK171 := Aside0.mk (blk_drew BK171.out); replace BK179 := Aside0.mk (blk_drew BK179.out); replace BK180 := Aside0.mk (blk_drew BK180.out); replace HB := Aside0.mk (below_drew1 HB.out)
                       refine start_ (n := 47) (S := fun w' => ce w' gb147 0 (.int .i64 t140) ∧ ce w' gb147 1 (.int .i64 t141) ∧ ce w' gb147 2 (.int .i64 t142) ∧ ce w' gb147 3 (.int .i64 t143) ∧ ce w' gb147 4 (.int .i64 t144) ∧ ce w' gb147 5 (.int .i64 t145)) (ds := []) (mk 47 0) kr_ rfl rfl ⟨xc BK147 0, xc BK147 1, xc BK147 2, xc BK147 3, xc BK147 4, xc BK147 5⟩ (fun hHeld => ?_); refine with_tabW gamehalllaw3_OfferSays.tab37 gamehalllaw3_OfferSays.bits37 (fun HT_ HW_ => ?_)
                       generalize wc.drew = w495 at BK138 BK147 BK155 BK163 BK171 BK179 BK180 HB hHeld ⊢; refine pu_ 0 205 HT_ ?_; refine pu_ 1 206 HT_ ?_; refine pu_ 2 207 HT_ ?_; refine pu_ 3 208 HT_ ?_; refine pu_ 4 209 HT_ ?_; refine pu_ 5 210 HT_ ?_; refine pu_ 6 211 HT_ ?_; refine pn_ 7 212 HT_ ?_; refine pn_ 8 213 HT_ ?_; refine pn_ 9 214 HT_ ?_; refine pu_ 10 215 HT_ ?_; refine pu_ 11 216 HT_ ?_; refine pu_ 12 217 HT_ ?_; refine pu_ 13 218 HT_ ?_; refine pu_ 14 219 HT_ ?_; refine pu_ 15 220 HT_ ?_; refine pu_ 16 221 HT_ ?_; refine pu_ 17 222 HT_ ?_; refine pu_ 18 223 HT_ ?_; refine pu_ 20 225 HT_ ?_; refine tk_ 19 224 HT_ HW_ hHeld ?_; refine pu_ 21 226 HT_ ?_; refine pu_ 22 227 HT_ ?_; refine pu_ 23 228 HT_ ?_; refine pu_ 24 229 HT_ ?_; refine pu_ 25 230 HT_ ?_; refine pu_ 26 231 HT_ ?_; refine pu_ 27 232 HT_ ?_; refine pu_ 29 234 HT_ ?_; refine tk_ 28 233 HT_ HW_ hHeld ?_; refine pu_ 30 235 HT_ ?_; refine pu_ 31 236 HT_ ?_; refine pu_ 32 237 HT_ ?_; refine pn_ 33 238 HT_ ?_; refine pn_ 34 239 HT_ ?_; refine pn_ 35 240 HT_ ?_; refine pn_ 36 241 HT_ ?_; refine pn_ 37 242 HT_ ?_; refine pn_ 38 243 HT_ ?_; refine pn_ 39 244 HT_ ?_; refine pn_ 40 245 HT_ ?_; refine pn_ 41 246 HT_ ?_; refine pn_ 42 247 HT_ ?_; refine pn_ 43 248 HT_ ?_; refine pu_ 44 249 HT_ ?_; refine pu_ 45 250 HT_ ?_; refine pu_ 46 251 HT_ ?_
                       refine done_ (done_of HT_.out kr_) ?_
                       try go_wp2
                       go_meet
                       case rel => exact ⟨_, (true), (xrf), H', ⟨by have := HJ11.out; have := HJ182.out; have := HJ275.out; have := HJ358.out; first | omega | exact Nat.le_refl _⟩, ⟨xK BK138⟩, ⟨xK BK147⟩, ⟨xK BK155⟩, ⟨xK BK163⟩, ⟨xK BK171⟩, ⟨xK BK179⟩, ⟨xK BK180⟩, ⟨xW HB⟩⟩⟩
                       exact inferInstanceAs _⟩
                      exact inferInstanceAs _
                     ·refine box_ ?g36;letI i:type_of% ?g36:=⟨by
                      rw [if_neg c482] at H
                      have c482b0 : (a2 == 0) = false := beq_eq_false_iff_ne.mpr c482
                      have c482b1 : (a2 != 0) = true := bne_iff_ne.mpr c482
                      obtain ⟨c496b, c496g, c496c, c496d⟩ := xar (a2 : Int) 1 1 2
                      by_cases c497 : t145 = a3
                      ·refine box_ ?g37;letI i:type_of% ?g37:=⟨by
                       rw [if_pos c497] at H
                       have c497b0 : (t145 == a3) = true := beq_iff_eq.mpr c497
                       have c497b1 : (t145 != a3) = false := bne_eq_false_iff_eq.mpr c497
                       clear c497
                       obtain ⟨ji498, hji498⟩ : ∃ j_ : Int, (wrap64 (1 - a1)) = j_ := ⟨_, rfl⟩
                       (first | rw [hji498] at H | simp only [hji498] at H)
                       have hji498w : (IntKind.i64.wrap (1 - a1)) = ji498 := (i64_w _).trans hji498
                       by_cases c499 : 0 ≤ (ji498)
                       ·refine box_ ?g38;letI i:type_of% ?g38:=⟨by
                        rw [if_pos c499] at H
                        have c499b0 : decide (0 ≤ (ji498)) = true := decide_eq_true c499
                        clear c499
                        by_cases c500 : (ji498) < 2
                        ·refine box_ ?g39;letI i:type_of% ?g39:=⟨by
                         rw [if_pos c500] at H
                         have c500b0 : decide ((ji498) < 2) = true := decide_eq_true c500
                         clear c500
                         by_cases c501 : (ji498) = 0
                         ·refine box_ ?g40;letI i:type_of% ?g40:=⟨by
                          rw [if_pos c501] at H
                          have c501b0 : ((ji498) == 0) = true := beq_iff_eq.mpr c501
                          have c501b1 : ((ji498) != 0) = false := bne_eq_false_iff_eq.mpr c501
                          clear c501; obtain ⟨c502b, c502g, c502c, c502d⟩ := xar ((ji498) : Int) 0 0 2; obtain ⟨c503b, c503g, c503c, c503d⟩ := xar ((ji498) : Int) 0 0 2
                          have H' := Aside0.mk H
                          clear H
                          try go_wp2
                          replace BK138 := Aside0.mk (blk_drew BK138.out); replace BK147 := Aside0.mk (blk_drew BK147.out); replace BK155 := Aside0.mk (blk_drew BK155.out); replace BK163 := Aside0.mk (blk_drew BK163.out); replace BK171 := Aside0.mk (blk_drew BK171.out); replace BK179 := Aside0.mk (blk_drew BK179.out); replace BK180 := Aside0.mk (blk_drew BK180.out); replace HB := Aside0.mk (below_drew1 HB.out)
                          refine start_ (n := 47) (S := fun w' => ce w' gb147 0 (.int .i64 t140) ∧ ce w' gb147 1 (.int .i64 t141) ∧ ce w' gb147 2 (.int .i64 t142) ∧ ce w' gb147 3 (.int .i64 t143) ∧ ce w' gb147 4 (.int .i64 t144) ∧ ce w' gb147 5 (.int .i64 t145) ∧ ce w' gb138 0 (.int .i64 a0_0) ∧ ce w' gb138 1 (.int .i64 a0_1) ∧ ce w' gb138 2 (.int .i64 a0_2) ∧ ce w' gb138 3 (.int .i64 a0_3) ∧ ce w' gb138 4 (.int .i64 a0_4) ∧ ce w' gb138 5 (.int .i64 a0_5)) (ds := []) (mk 47 0) kr_ rfl rfl ⟨xc BK147 0, xc BK147 1, xc BK147 2, xc BK147 3, xc BK147 4, xc BK147 5, xc BK138 0, xc BK138 1, xc BK138 2, xc BK138 3, xc BK138 4, xc BK138 5⟩ (fun hHeld => ?_); refine with_tabW gamehalllaw3_OfferSays.tab37 gamehalllaw3_OfferSays.bits37 (fun HT_ HW_ => ?_)
                          generalize wc.drew = w504 at BK138 BK147 BK155 BK163 BK171 BK179 BK180 HB hHeld ⊢; refine pu_ 0 205 HT_ ?_; refine pu_ 1 206 HT_ ?_; refine pu_ 2 207 HT_ ?_; refine pu_ 3 208 HT_ ?_; refine pu_ 4 209 HT_ ?_; refine pu_ 5 210 HT_ ?_; refine pu_ 6 211 HT_ ?_; refine pn_ 7 212 HT_ ?_; refine pn_ 8 213 HT_ ?_; refine pn_ 9 214 HT_ ?_; refine pu_ 10 215 HT_ ?_; refine pu_ 11 216 HT_ ?_; refine pu_ 12 217 HT_ ?_; refine pu_ 13 218 HT_ ?_; refine pu_ 14 219 HT_ ?_; refine pu_ 15 220 HT_ ?_; refine pu_ 16 221 HT_ ?_; refine pu_ 17 222 HT_ ?_; refine pu_ 18 223 HT_ ?_; refine pu_ 20 225 HT_ ?_; refine tk_ 19 224 HT_ HW_ hHeld ?_; refine pu_ 21 226 HT_ ?_; refine pu_ 22 227 HT_ ?_; refine pu_ 23 228 HT_ ?_; refine pu_ 24 229 HT_ ?_; refine pu_ 25 230 HT_ ?_; refine pu_ 26 231 HT_ ?_; refine pu_ 27 232 HT_ ?_; refine pu_ 29 234 HT_ ?_; refine tk_ 28 233 HT_ HW_ hHeld ?_; refine pu_ 30 235 HT_ ?_; refine pu_ 31 236 HT_ ?_; refine pu_ 32 237 HT_ ?_; refine pu_ 33 238 HT_ ?_; refine pu_ 34 239 HT_ ?_; refine pu_ 35 240 HT_ ?_; refine pu_ 36 241 HT_ ?_; refine pu_ 38 243 HT_ ?_; refine pu_ 39 244 HT_ ?_; refine pu_ 40 245 HT_ ?_; refine pu_ 41 246 HT_ ?_; refine tk_ 37 242 HT_ HW_ hHeld ?_; refine tk_ 42 247 HT_ HW_ hHeld ?_; refine pu_ 43 248 HT_ ?_; refine pu_ 44 249 HT_ ?_; refine pu_ 45 250 HT_ ?_; refine pu_ 46 251 HT_ ?_
                          refine done_ (done_of HT_.out kr_) ?_
                          try go_wp2
                          go_meet
                          case rel => exact ⟨_, ((t140 != a0_0)), (xrf), H', ⟨by have := HJ11.out; have := HJ182.out; have := HJ275.out; have := HJ358.out; first | omega | exact Nat.le_refl _⟩, ⟨xK BK138⟩, ⟨xK BK147⟩, ⟨xK BK155⟩, ⟨xK BK163⟩, ⟨xK BK171⟩, ⟨xK BK179⟩, ⟨xK BK180⟩, ⟨xW HB⟩⟩⟩
                          exact inferInstanceAs _
                         ·refine box_ ?g41;letI i:type_of% ?g41:=⟨by
                          rw [if_neg c501] at H
                          have c501b0 : ((ji498) == 0) = false := beq_eq_false_iff_ne.mpr c501
                          have c501b1 : ((ji498) != 0) = true := bne_iff_ne.mpr c501
                          obtain ⟨c505b, c505g, c505c, c505d⟩ := xar ((ji498) : Int) 1 1 2; obtain ⟨c506b, c506g, c506c, c506d⟩ := xar ((ji498) : Int) 1 1 2
                          have H' := Aside0.mk H
                          clear H
                          try go_wp2
                          replace BK138 := Aside0.mk (blk_drew BK138.out); replace BK147 := Aside0.mk (blk_drew BK147.out); replace BK155 := Aside0.mk (blk_drew BK155.out); replace BK163 := Aside0.mk (blk_drew BK163.out); replace BK171 := Aside0.mk (blk_drew BK171.out); replace BK179 := Aside0.mk (blk_drew BK179.out); replace BK180 := Aside0.mk (blk_drew BK180.out); replace HB := Aside0.mk (below_drew1 HB.out)
                          refine start_ (n := 47) (S := fun w' => ce w' gb147 0 (.int .i64 t140) ∧ ce w' gb147 1 (.int .i64 t141) ∧ ce w' gb147 2 (.int .i64 t142) ∧ ce w' gb147 3 (.int .i64 t143) ∧ ce w' gb147 4 (.int .i64 t144) ∧ ce w' gb147 5 (.int .i64 t145) ∧ ce w' gb138 0 (.int .i64 a0_0) ∧ ce w' gb138 1 (.int .i64 a0_1) ∧ ce w' gb138 2 (.int .i64 a0_2) ∧ ce w' gb138 3 (.int .i64 a0_3) ∧ ce w' gb138 4 (.int .i64 a0_4) ∧ ce w' gb138 5 (.int .i64 a0_5)) (ds := []) (mk 47 0) kr_ rfl rfl ⟨xc BK147 0, xc BK147 1, xc BK147 2, xc BK147 3, xc BK147 4, xc BK147 5, xc BK138 0, xc BK138 1, xc BK138 2, xc BK138 3, xc BK138 4, xc BK138 5⟩ (fun hHeld => ?_); refine with_tabW gamehalllaw3_OfferSays.tab37 gamehalllaw3_OfferSays.bits37 (fun HT_ HW_ => ?_)
                          generalize wc.drew = w507 at BK138 BK147 BK155 BK163 BK171 BK179 BK180 HB hHeld ⊢; refine pu_ 0 205 HT_ ?_; refine pu_ 1 206 HT_ ?_; refine pu_ 2 207 HT_ ?_; refine pu_ 3 208 HT_ ?_; refine pu_ 4 209 HT_ ?_; refine pu_ 5 210 HT_ ?_; refine pu_ 6 211 HT_ ?_; refine pn_ 7 212 HT_ ?_; refine pn_ 8 213 HT_ ?_; refine pn_ 9 214 HT_ ?_; refine pu_ 10 215 HT_ ?_; refine pu_ 11 216 HT_ ?_; refine pu_ 12 217 HT_ ?_; refine pu_ 13 218 HT_ ?_; refine pu_ 14 219 HT_ ?_; refine pu_ 15 220 HT_ ?_; refine pu_ 16 221 HT_ ?_; refine pu_ 17 222 HT_ ?_; refine pu_ 18 223 HT_ ?_; refine pu_ 20 225 HT_ ?_; refine tk_ 19 224 HT_ HW_ hHeld ?_; refine pu_ 21 226 HT_ ?_; refine pu_ 22 227 HT_ ?_; refine pu_ 23 228 HT_ ?_; refine pu_ 24 229 HT_ ?_; refine pu_ 25 230 HT_ ?_; refine pu_ 26 231 HT_ ?_; refine pu_ 27 232 HT_ ?_; refine pu_ 29 234 HT_ ?_; refine tk_ 28 233 HT_ HW_ hHeld ?_; refine pu_ 30 235 HT_ ?_; refine pu_ 31 236 HT_ ?_; refine pu_ 32 237 HT_ ?_; refine pu_ 33 238 HT_ ?_; refine pu_ 34 239 HT_ ?_; refine pu_ 35 240 HT_ ?_; refine pu_ 36 241 HT_ ?_; refine pu_ 38 243 HT_ ?_; refine pu_ 39 244 HT_ ?_; refine pu_ 40 245 HT_ ?_; refine pu_ 41 246 HT_ ?_; refine tk_ 37 242 HT_ HW_ hHeld ?_; refine tk_ 42 247 HT_ HW_ hHeld ?_; refine pu_ 43 248 HT_ ?_; refine pu_ 44 249 HT_ ?_; refine pu_ 45 250 HT_ ?_; refine pu_ 46 251 HT_ ?_
                          refine done_ (done_of HT_.out kr_) ?_
                          try go_wp2
                          go_meet
                          case rel => exact ⟨_, ((t141 != a0_1)), (xrf), H', ⟨by have := HJ11.out; have := HJ182.out; have := HJ275.out; have := HJ358.out; first | omega | exact Nat.le_refl _⟩, ⟨xK BK138⟩, ⟨xK BK147⟩, ⟨xK BK155⟩, ⟨xK BK163⟩, ⟨xK BK171⟩, ⟨xK BK179⟩, ⟨xK BK180⟩, ⟨xW HB⟩⟩⟩
                          exact inferInstanceAs _⟩
                         exact inferInstanceAs _
                        ·rw [if_neg c500] at H
                         exact absurd H (by simp)⟩
                        exact inferInstanceAs _
                       ·rw [if_neg c499] at H
                        exact absurd H (by simp)⟩
                       exact inferInstanceAs _
                      ·refine box_ ?g42;letI i:type_of% ?g42:=⟨by
                       rw [if_neg c497] at H
                       have c497b0 : (t145 == a3) = false := beq_eq_false_iff_ne.mpr c497
                       have c497b1 : (t145 != a3) = true := bne_iff_ne.mpr c497
                       have H' := Aside0.mk H
                       clear H
                       try go_wp2
                       replace BK138 := Aside0.mk (blk_drew BK138.out); replace BK147 := Aside0.mk (blk_drew BK147.out); replace BK155 := Aside0.mk (blk_drew BK155.out); replace BK163 := Aside0.mk (blk_drew BK163.out); replace BK171 := Aside0.mk (blk_drew BK171.out); replace BK179 := Aside0.mk (blk_drew BK179.out); replace BK180 := Aside0.mk (blk_drew BK180.out); replace HB := Aside0.mk (below_drew1 HB.out)
                       refine start_ (n := 47) (S := fun w' => ce w' gb147 0 (.int .i64 t140) ∧ ce w' gb147 1 (.int .i64 t141) ∧ ce w' gb147 2 (.int .i64 t142) ∧ ce w' gb147 3 (.int .i64 t143) ∧ ce w' gb147 4 (.int .i64 t144) ∧ ce w' gb147 5 (.int .i64 t145)) (ds := []) (mk 47 0) kr_ rfl rfl ⟨xc BK147 0, xc BK147 1, xc BK147 2, xc BK147 3, xc BK147 4, xc BK147 5⟩ (fun hHeld => ?_); refine with_tabW gamehalllaw3_OfferSays.tab37 gamehalllaw3_OfferSays.bits37 (fun HT_ HW_ => ?_)
                       generalize wc.drew = w508 at BK138 BK147 BK155 BK163 BK171 BK179 BK180 HB hHeld ⊢; refine pu_ 0 205 HT_ ?_; refine pu_ 1 206 HT_ ?_; refine pu_ 2 207 HT_ ?_; refine pu_ 3 208 HT_ ?_; refine pu_ 4 209 HT_ ?_; refine pu_ 5 210 HT_ ?_; refine pu_ 6 211 HT_ ?_; refine pn_ 7 212 HT_ ?_; refine pn_ 8 213 HT_ ?_; refine pn_ 9 214 HT_ ?_; refine pu_ 10 215 HT_ ?_; refine pu_ 11 216 HT_ ?_; refine pu_ 12 217 HT_ ?_; refine pu_ 13 218 HT_ ?_; refine pu_ 14 219 HT_ ?_; refine pu_ 15 220 HT_ ?_; refine pu_ 16 221 HT_ ?_; refine pu_ 17 222 HT_ ?_; refine pu_ 18 223 HT_ ?_; refine pu_ 20 225 HT_ ?_; refine tk_ 19 224 HT_ HW_ hHeld ?_; refine pu_ 21 226 HT_ ?_; refine pu_ 22 227 HT_ ?_; refine pu_ 23 228 HT_ ?_; refine pu_ 24 229 HT_ ?_; refine pu_ 25 230 HT_ ?_; refine pu_ 26 231 HT_ ?_; refine pu_ 27 232 HT_ ?_; refine pu_ 29 234 HT_ ?_; refine tk_ 28 233 HT_ HW_ hHeld ?_; refine pu_ 30 235 HT_ ?_; refine pu_ 31 236 HT_ ?_; refine pu_ 32 237 HT_ ?_; refine pn_ 33 238 HT_ ?_; refine pn_ 34 239 HT_ ?_; refine pn_ 35 240 HT_ ?_; refine pn_ 36 241 HT_ ?_; refine pn_ 37 242 HT_ ?_; refine pn_ 38 243 HT_ ?_; refine pn_ 39 244 HT_ ?_; refine pn_ 40 245 HT_ ?_; refine pn_ 41 246 HT_ ?_; refine pn_ 42 247 HT_ ?_; refine pn_ 43 248 HT_ ?_; refine pu_ 44 249 HT_ ?_; refine pu_ 45 250 HT_ ?_; refine pu_ 46 251 HT_ ?_
                       refine done_ (done_of HT_.out kr_) ?_
                       try go_wp2
                       go_meet
                       case rel => exact ⟨_, (true), (xrf), H', ⟨by have := HJ11.out; have := HJ182.out; have := HJ275.out; have := HJ358.out; first | omega | exact Nat.le_refl _⟩, ⟨xK BK138⟩, ⟨xK BK147⟩, ⟨xK BK155⟩, ⟨xK BK163⟩, ⟨xK BK171⟩, ⟨xK BK179⟩, ⟨xK BK180⟩, ⟨xW HB⟩⟩⟩
                       exact inferInstanceAs _⟩
                      exact inferInstanceAs _⟩
                     exact inferInstanceAs _
                    ·rw [if_neg c481] at H
                     exact absurd H (by simp)⟩
                    exact inferInstanceAs _
                   ·rw [if_neg c480] at H
                    exact absurd H (by simp)⟩
                   exact inferInstanceAs _
                  ·refine box_ ?g43;letI i:type_of% ?g43:=⟨by
                   rw [if_neg c478] at H
                   have c478b0 : (t141 == a2) = false := beq_eq_false_iff_ne.mpr c478
                   have c478b1 : (t141 != a2) = true := bne_iff_ne.mpr c478
                   have H' := Aside0.mk H
                   clear H
                   try go_wp2
                   replace BK138 := Aside0.mk (blk_drew BK138.out); replace BK147 := Aside0.mk (blk_drew BK147.out); replace BK155 := Aside0.mk (blk_drew BK155.out); replace BK163 := Aside0.mk (blk_drew BK163.out); replace BK171 := Aside0.mk (blk_drew BK171.out); replace BK179 := Aside0.mk (blk_drew BK179.out); replace BK180 := Aside0.mk (blk_drew BK180.out); replace HB := Aside0.mk (below_drew1 HB.out)
                   refine start_ (n := 47) (S := fun w' => ce w' gb147 0 (.int .i64 t140) ∧ ce w' gb147 1 (.int .i64 t141) ∧ ce w' gb147 2 (.int .i64 t142) ∧ ce w' gb147 3 (.int .i64 t143) ∧ ce w' gb147 4 (.int .i64 t144) ∧ ce w' gb147 5 (.int .i64 t145)) (ds := []) (mk 47 0) kr_ rfl rfl ⟨xc BK147 0, xc BK147 1, xc BK147 2, xc BK147 3, xc BK147 4, xc BK147 5⟩ (fun hHeld => ?_); refine with_tabW gamehalllaw3_OfferSays.tab37 gamehalllaw3_OfferSays.bits37 (fun HT_ HW_ => ?_)
                   generalize wc.drew = w509 at BK138 BK147 BK155 BK163 BK171 BK179 BK180 HB hHeld ⊢; refine pu_ 0 205 HT_ ?_; refine pu_ 1 206 HT_ ?_; refine pu_ 2 207 HT_ ?_; refine pu_ 3 208 HT_ ?_; refine pu_ 4 209 HT_ ?_; refine pu_ 5 210 HT_ ?_; refine pu_ 6 211 HT_ ?_; refine pn_ 7 212 HT_ ?_; refine pn_ 8 213 HT_ ?_; refine pn_ 9 214 HT_ ?_; refine pu_ 10 215 HT_ ?_; refine pu_ 11 216 HT_ ?_; refine pu_ 12 217 HT_ ?_; refine pu_ 13 218 HT_ ?_; refine pu_ 14 219 HT_ ?_; refine pu_ 15 220 HT_ ?_; refine pu_ 16 221 HT_ ?_; refine pu_ 17 222 HT_ ?_; refine pu_ 18 223 HT_ ?_; refine pu_ 20 225 HT_ ?_; refine tk_ 19 224 HT_ HW_ hHeld ?_; refine pu_ 21 226 HT_ ?_; refine pu_ 22 227 HT_ ?_; refine pn_ 23 228 HT_ ?_; refine pn_ 24 229 HT_ ?_; refine pn_ 25 230 HT_ ?_; refine pn_ 26 231 HT_ ?_; refine pn_ 27 232 HT_ ?_; refine pn_ 28 233 HT_ ?_; refine pn_ 29 234 HT_ ?_; refine pn_ 30 235 HT_ ?_; refine pu_ 31 236 HT_ ?_; refine pu_ 32 237 HT_ ?_; refine pn_ 33 238 HT_ ?_; refine pn_ 34 239 HT_ ?_; refine pn_ 35 240 HT_ ?_; refine pn_ 36 241 HT_ ?_; refine pn_ 37 242 HT_ ?_; refine pn_ 38 243 HT_ ?_; refine pn_ 39 244 HT_ ?_; refine pn_ 40 245 HT_ ?_; refine pn_ 41 246 HT_ ?_; refine pn_ 42 247 HT_ ?_; refine pn_ 43 248 HT_ ?_; refine pu_ 44 249 HT_ ?_; refine pu_ 45 250 HT_ ?_; refine pu_ 46 251 HT_ ?_
                   refine done_ (done_of HT_.out kr_) ?_
                   try go_wp2
                   go_meet
                   case rel => exact ⟨_, (true), (xrf), H', ⟨by have := HJ11.out; have := HJ182.out; have := HJ275.out; have := HJ358.out; first | omega | exact Nat.le_refl _⟩, ⟨xK BK138⟩, ⟨xK BK147⟩, ⟨xK BK155⟩, ⟨xK BK163⟩, ⟨xK BK171⟩, ⟨xK BK179⟩, ⟨xK BK180⟩, ⟨xW HB⟩⟩⟩
                   exact inferInstanceAs _⟩
                  exact inferInstanceAs _⟩
                 exact inferInstanceAs _
                ·rw [if_neg c442] at H
                 exact absurd H (by simp)⟩
                exact inferInstanceAs _
               ·rw [if_neg c441] at H
                exact absurd H (by simp)⟩
               exact inferInstanceAs _
              ·refine box_ ?g44;letI i:type_of% ?g44:=⟨by
               rw [if_neg c440] at H
               have c440b0 : (t146 == 0) = false := beq_eq_false_iff_ne.mpr c440
               have c440b1 : (t146 != 0) = true := bne_iff_ne.mpr c440
               by_cases c510 : ((!(t140 == 0) || (!(t141 == 0))) || (((!(t142 == 0) || (!(t143 == 0))) || ((!(t144 == 0) || (!(t145 == 0))))))) = true
               ·refine box_ ?g45;letI i:type_of% ?g45:=⟨by
                rw [if_pos c510] at H
                have c510b0 : ((!(t140 == 0) || (!(t141 == 0))) || (((!(t142 == 0) || (!(t143 == 0))) || ((!(t144 == 0) || (!(t145 == 0))))))) = true := c510
                clear c510
                have H' := Aside0.mk H
                clear H
                try go_wp2
                replace BK138 := Aside0.mk (blk_drew BK138.out); replace BK147 := Aside0.mk (blk_drew BK147.out); replace BK155 := Aside0.mk (blk_drew BK155.out); replace BK163 := Aside0.mk (blk_drew BK163.out); replace BK171 := Aside0.mk (blk_drew BK171.out); replace BK179 := Aside0.mk (blk_drew BK179.out); replace BK180 := Aside0.mk (blk_drew BK180.out); replace HB := Aside0.mk (below_drew1 HB.out)
                refine start_ (n := 47) (S := fun w' => ce w' gb147 0 (.int .i64 t140) ∧ ce w' gb147 1 (.int .i64 t141) ∧ ce w' gb147 2 (.int .i64 t142) ∧ ce w' gb147 3 (.int .i64 t143) ∧ ce w' gb147 4 (.int .i64 t144) ∧ ce w' gb147 5 (.int .i64 t145) ∧ ce w' gb180 0 (.int .i64 0) ∧ ce w' gb180 1 (.int .i64 0) ∧ ce w' gb180 2 (.int .i64 0) ∧ ce w' gb180 3 (.int .i64 0) ∧ ce w' gb180 4 (.int .i64 0) ∧ ce w' gb180 5 (.int .i64 0)) (ds := []) (mk 47 0) kr_ rfl rfl ⟨xc BK147 0, xc BK147 1, xc BK147 2, xc BK147 3, xc BK147 4, xc BK147 5, xc BK180 0, xc BK180 1, xc BK180 2, xc BK180 3, xc BK180 4, xc BK180 5⟩ (fun hHeld => ?_); refine with_tabW gamehalllaw3_OfferSays.tab37 gamehalllaw3_OfferSays.bits37 (fun HT_ HW_ => ?_)
                generalize wc.drew = w511 at BK138 BK147 BK155 BK163 BK171 BK179 BK180 HB hHeld ⊢; refine pu_ 0 205 HT_ ?_; refine pu_ 1 206 HT_ ?_; refine pu_ 2 207 HT_ ?_; refine pu_ 3 208 HT_ ?_; refine pu_ 4 209 HT_ ?_; refine pu_ 5 210 HT_ ?_; refine pu_ 6 211 HT_ ?_; refine tk_ 7 212 HT_ HW_ hHeld ?_; refine tk_ 8 213 HT_ HW_ hHeld ?_; refine pu_ 9 214 HT_ ?_; refine pu_ 10 215 HT_ ?_; refine pu_ 11 216 HT_ ?_; refine pu_ 12 217 HT_ ?_; refine pn_ 13 218 HT_ ?_; refine pn_ 14 219 HT_ ?_; refine pn_ 15 220 HT_ ?_; refine pn_ 16 221 HT_ ?_; refine pn_ 17 222 HT_ ?_; refine pn_ 18 223 HT_ ?_; refine pn_ 19 224 HT_ ?_; refine pn_ 20 225 HT_ ?_; refine pn_ 21 226 HT_ ?_; refine pn_ 22 227 HT_ ?_; refine pn_ 23 228 HT_ ?_; refine pn_ 24 229 HT_ ?_; refine pn_ 25 230 HT_ ?_; refine pn_ 26 231 HT_ ?_; refine pn_ 27 232 HT_ ?_; refine pn_ 28 233 HT_ ?_; refine pn_ 29 234 HT_ ?_; refine pn_ 30 235 HT_ ?_; refine pn_ 31 236 HT_ ?_; refine pn_ 32 237 HT_ ?_; refine pn_ 33 238 HT_ ?_; refine pn_ 34 239 HT_ ?_; refine pn_ 35 240 HT_ ?_; refine pn_ 36 241 HT_ ?_; refine pn_ 37 242 HT_ ?_; refine pn_ 38 243 HT_ ?_; refine pn_ 39 244 HT_ ?_; refine pn_ 40 245 HT_ ?_; refine pn_ 41 246 HT_ ?_; refine pn_ 42 247 HT_ ?_; refine pn_ 43 248 HT_ ?_; refine pn_ 44 249 HT_ ?_; refine pn_ 45 250 HT_ ?_; refine pu_ 46 251 HT_ ?_
                refine done_ (done_of HT_.out kr_) ?_
                try go_wp2
                go_meet
                case rel => exact ⟨_, (true), (xrf), H', ⟨by have := HJ11.out; have := HJ182.out; have := HJ275.out; have := HJ358.out; first | omega | exact Nat.le_refl _⟩, ⟨xK BK138⟩, ⟨xK BK147⟩, ⟨xK BK155⟩, ⟨xK BK163⟩, ⟨xK BK171⟩, ⟨xK BK179⟩, ⟨xK BK180⟩, ⟨xW HB⟩⟩⟩
                exact inferInstanceAs _
               ·refine box_ ?g46;letI i:type_of% ?g46:=⟨by
                rw [if_neg c510] at H
                have c510b0 : ((!(t140 == 0) || (!(t141 == 0))) || (((!(t142 == 0) || (!(t143 == 0))) || ((!(t144 == 0) || (!(t145 == 0))))))) = false := by simpa using c510
                clear c510
                have H' := Aside0.mk H
                clear H
                try go_wp2
                replace BK138 := Aside0.mk (blk_drew BK138.out); replace BK147 := Aside0.mk (blk_drew BK147.out); replace BK155 := Aside0.mk (blk_drew BK155.out); replace BK163 := Aside0.mk (blk_drew BK163.out); replace BK171 := Aside0.mk (blk_drew BK171.out); replace BK179 := Aside0.mk (blk_drew BK179.out); replace BK180 := Aside0.mk (blk_drew BK180.out); replace HB := Aside0.mk (below_drew1 HB.out)
                refine start_ (n := 47) (S := fun w' => ce w' gb147 0 (.int .i64 t140) ∧ ce w' gb147 1 (.int .i64 t141) ∧ ce w' gb147 2 (.int .i64 t142) ∧ ce w' gb147 3 (.int .i64 t143) ∧ ce w' gb147 4 (.int .i64 t144) ∧ ce w' gb147 5 (.int .i64 t145) ∧ ce w' gb180 0 (.int .i64 0) ∧ ce w' gb180 1 (.int .i64 0) ∧ ce w' gb180 2 (.int .i64 0) ∧ ce w' gb180 3 (.int .i64 0) ∧ ce w' gb180 4 (.int .i64 0) ∧ ce w' gb180 5 (.int .i64 0)) (ds := []) (mk 47 0) kr_ rfl rfl ⟨xc BK147 0, xc BK147 1, xc BK147 2, xc BK147 3, xc BK147 4, xc BK147 5, xc BK180 0, xc BK180 1, xc BK180 2, xc BK180 3, xc BK180 4, xc BK180 5⟩ (fun hHeld => ?_); refine with_tabW gamehalllaw3_OfferSays.tab37 gamehalllaw3_OfferSays.bits37 (fun HT_ HW_ => ?_)
                generalize wc.drew = w512 at BK138 BK147 BK155 BK163 BK171 BK179 BK180 HB hHeld ⊢; refine pu_ 0 205 HT_ ?_; refine pu_ 1 206 HT_ ?_; refine pu_ 2 207 HT_ ?_; refine pu_ 3 208 HT_ ?_; refine pu_ 4 209 HT_ ?_; refine pu_ 5 210 HT_ ?_; refine pu_ 6 211 HT_ ?_; refine tk_ 7 212 HT_ HW_ hHeld ?_; refine tk_ 8 213 HT_ HW_ hHeld ?_; refine pu_ 9 214 HT_ ?_; refine pu_ 10 215 HT_ ?_; refine pu_ 11 216 HT_ ?_; refine pu_ 12 217 HT_ ?_; refine pu_ 13 218 HT_ ?_; refine pu_ 14 219 HT_ ?_; refine pu_ 15 220 HT_ ?_; refine pn_ 16 221 HT_ ?_; refine pn_ 17 222 HT_ ?_; refine pn_ 18 223 HT_ ?_; refine pn_ 19 224 HT_ ?_; refine pn_ 20 225 HT_ ?_; refine pn_ 21 226 HT_ ?_; refine pn_ 22 227 HT_ ?_; refine pn_ 23 228 HT_ ?_; refine pn_ 24 229 HT_ ?_; refine pn_ 25 230 HT_ ?_; refine pn_ 26 231 HT_ ?_; refine pn_ 27 232 HT_ ?_; refine pn_ 28 233 HT_ ?_; refine pn_ 29 234 HT_ ?_; refine pn_ 30 235 HT_ ?_; refine pn_ 31 236 HT_ ?_; refine pn_ 32 237 HT_ ?_; refine pn_ 33 238 HT_ ?_; refine pn_ 34 239 HT_ ?_; refine pn_ 35 240 HT_ ?_; refine pn_ 36 241 HT_ ?_; refine pn_ 37 242 HT_ ?_; refine pn_ 38 243 HT_ ?_; refine pn_ 39 244 HT_ ?_; refine pn_ 40 245 HT_ ?_; refine pn_ 41 246 HT_ ?_; refine pn_ 42 247 HT_ ?_; refine pn_ 43 248 HT_ ?_; refine pn_ 44 249 HT_ ?_; refine pu_ 45 250 HT_ ?_; refine pu_ 46 251 HT_ ?_
                refine done_ (done_of HT_.out kr_) ?_
                try go_wp2
                go_meet
                case rel => exact ⟨_, (false), (xrf), H', ⟨by have := HJ11.out; have := HJ182.out; have := HJ275.out; have := HJ358.out; first | omega | exact Nat.le_refl _⟩, ⟨xK BK138⟩, ⟨xK BK147⟩, ⟨xK BK155⟩, ⟨xK BK163⟩, ⟨xK BK171⟩, ⟨xK BK179⟩, ⟨xK BK180⟩, ⟨xW HB⟩⟩⟩
                exact inferInstanceAs _⟩
               exact inferInstanceAs _⟩
              exact inferInstanceAs _
             ·refine box_ ?g47;letI i:type_of% ?g47:=⟨by
              rw [if_neg c439] at H
              have c439b0 : (t146 == x24_358) = false := beq_eq_false_iff_ne.mpr c439
              have c439b1 : (t146 != x24_358) = true := bne_iff_ne.mpr c439
              (first | rw [c439b0] | (simp only [i64_w, i32_w]; rw [c439b0]) | skip)
              have H' := Aside0.mk H
              clear H
              try go_wp2
              replace BK138 := Aside0.mk (blk_drew BK138.out); replace BK147 := Aside0.mk (blk_drew BK147.out); replace BK155 := Aside0.mk (blk_drew BK155.out); replace BK163 := Aside0.mk (blk_drew BK163.out); replace BK171 := Aside0.mk (blk_drew BK171.out); replace BK179 := Aside0.mk (blk_drew BK179.out); replace BK180 := Aside0.mk (blk_drew BK180.out); replace HB := Aside0.mk (below_drew1 HB.out)
              refine start_ (n := 47) (S := fun w' => True) (ds := []) (mk 47 0) kr_ rfl rfl trivial (fun hHeld => ?_); refine with_tabW gamehalllaw3_OfferSays.tab37 gamehalllaw3_OfferSays.bits37 (fun HT_ HW_ => ?_)
              generalize wc.drew = w513 at BK138 BK147 BK155 BK163 BK171 BK179 BK180 HB hHeld ⊢; refine pu_ 0 205 HT_ ?_; refine pu_ 1 206 HT_ ?_; refine pu_ 2 207 HT_ ?_; refine pu_ 3 208 HT_ ?_; refine pn_ 4 209 HT_ ?_; refine pn_ 5 210 HT_ ?_; refine pn_ 6 211 HT_ ?_; refine pn_ 7 212 HT_ ?_; refine pn_ 8 213 HT_ ?_; refine pn_ 9 214 HT_ ?_; refine pn_ 10 215 HT_ ?_; refine pu_ 11 216 HT_ ?_; refine pu_ 12 217 HT_ ?_; refine pn_ 13 218 HT_ ?_; refine pn_ 14 219 HT_ ?_; refine pn_ 15 220 HT_ ?_; refine pn_ 16 221 HT_ ?_; refine pn_ 17 222 HT_ ?_; refine pn_ 18 223 HT_ ?_; refine pn_ 19 224 HT_ ?_; refine pn_ 20 225 HT_ ?_; refine pn_ 21 226 HT_ ?_; refine pn_ 22 227 HT_ ?_; refine pn_ 23 228 HT_ ?_; refine pn_ 24 229 HT_ ?_; refine pn_ 25 230 HT_ ?_; refine pn_ 26 231 HT_ ?_; refine pn_ 27 232 HT_ ?_; refine pn_ 28 233 HT_ ?_; refine pn_ 29 234 HT_ ?_; refine pn_ 30 235 HT_ ?_; refine pn_ 31 236 HT_ ?_; refine pn_ 32 237 HT_ ?_; refine pn_ 33 238 HT_ ?_; refine pn_ 34 239 HT_ ?_; refine pn_ 35 240 HT_ ?_; refine pn_ 36 241 HT_ ?_; refine pn_ 37 242 HT_ ?_; refine pn_ 38 243 HT_ ?_; refine pn_ 39 244 HT_ ?_; refine pn_ 40 245 HT_ ?_; refine pn_ 41 246 HT_ ?_; refine pn_ 42 247 HT_ ?_; refine pn_ 43 248 HT_ ?_; refine pn_ 44 249 HT_ ?_; refine pn_ 45 250 HT_ ?_; refine pu_ 46 251 HT_ ?_
              refine done_ (done_of HT_.out kr_) ?_
              try go_wp2
              go_meet
              case rel => exact ⟨_, (true), (xrf), H', ⟨by have := HJ11.out; have := HJ182.out; have := HJ275.out; have := HJ358.out; first | omega | exact Nat.le_refl _⟩, ⟨xK BK138⟩, ⟨xK BK147⟩, ⟨xK BK155⟩, ⟨xK BK163⟩, ⟨xK BK171⟩, ⟨xK BK179⟩, ⟨xK BK180⟩, ⟨xW HB⟩⟩⟩
              exact inferInstanceAs _⟩
             exact inferInstanceAs _
            case rest =>
             repeat (rename_i xv4_; (first | (have zv_ : Value := xv4_; clear zv_; clear xv4_) | revert xv4_))
             (try revert xv0_); (try revert xv0__1); (try revert xv0__2); (try revert xv0__3); (try revert xv0__4); (try revert xv0__5); (try revert xv0__6); (try revert xv0__7); (try revert xv0__8); (try revert xv0__9); (try revert xv0__10); (try revert xv0__11); (try revert xv0__12)
             (try revert xv1_); (try revert xv1__1); (try revert xv1__2); (try revert xv1__3); (try revert xv1__4); (try revert xv1__5); (try revert xv1__6); (try revert xv1__7); (try revert xv1__8); (try revert xv1__9); (try revert xv1__10); (try revert xv1__11); (try revert xv1__12)
             (try revert xv2_); (try revert xv2__1); (try revert xv2__2); (try revert xv2__3); (try revert xv2__4); (try revert xv2__5); (try revert xv2__6); (try revert xv2__7); (try revert xv2__8); (try revert xv2__9); (try revert xv2__10); (try revert xv2__11); (try revert xv2__12)
             (try revert xv3_); (try revert xv3__1); (try revert xv3__2); (try revert xv3__3); (try revert xv3__4); (try revert xv3__5); (try revert xv3__6); (try revert xv3__7); (try revert xv3__8); (try revert xv3__9); (try revert xv3__10); (try revert xv3__11); (try revert xv3__12)
             (try revert vs251); (try revert kj358); (try revert HJ358); (try revert x24_358); (try revert vs24); (try revert w367); (try revert t185); (try revert kj275); (try revert HJ275); (try revert kj182); (try revert HJ182); (try revert kj11); (try revert HJ11); (try revert HA); (try revert x95_11); (try revert kq)
             (try revert wc); (try revert vs95); (try revert w50); (try revert gb180); (try revert w43); (try revert gb179); (try revert w42); (try revert w35); (try revert gb171); (try revert w34); (try revert w28); (try revert gb163); (try revert w27); (try revert w22); (try revert gb155); (try revert w21)
             (try revert w17); (try revert gb147); (try revert w16); (try revert rfl); (try revert w14); (try revert e); (try revert hb); (try revert hbox); (try revert w13); (try revert hg); (try revert gb138); (try revert t178); (try revert t177); (try revert t176); (try revert t175); (try revert t174)
             (try revert t173); (try revert t172); (try revert t170); (try revert t169); (try revert t168); (try revert t167); (try revert t166); (try revert t165); (try revert t164); (try revert t162); (try revert t161); (try revert t160); (try revert t159); (try revert t158); (try revert t157); (try revert t156)
             (try revert t154); (try revert t153); (try revert t152); (try revert t151); (try revert t150); (try revert t149); (try revert t148); (try revert t146); (try revert t145); (try revert t144); (try revert t143); (try revert t142); (try revert t141); (try revert t140); (try revert t182); (try revert t181)
             (try revert bt172); (try revert bt164); (try revert bt156); (try revert bt148); (try revert bt140); (try revert t139); (try revert hss_); (try revert h); (try revert w); (try revert r); (try revert a3); (try revert a2); (try revert a1); (try revert a0_5); (try revert a0_4); (try revert a0_3)
             (try revert a0_2); (try revert a0_1); (try revert a0_0); (try revert k); (try revert hu22); (try revert hu25); (try revert u324); (try revert u323); (try revert u322); (try revert u321); (try revert u320); (try revert u319); (try revert u318); (try revert u317); (try revert u316); (try revert u315)
             (try revert u314); (try revert u313); (try revert u312); (try revert u311); (try revert u310); (try revert u309); (try revert u308); (try revert u307); (try revert u306); (try revert u305); (try revert u304); (try revert u303); (try revert u302); (try revert u301); (try revert u300); (try revert u299)
             (try revert u298); (try revert u297); (try revert u296); (try revert u295); (try revert u294); (try revert u293); (try revert u292); (try revert u291); (try revert u290); (try revert u289); (try revert u288); (try revert u287); (try revert u286); (try revert u285); (try revert u284); (try revert u283)
             (try revert u282); (try revert u281); (try revert u280); (try revert u279); (try revert u278); (try revert u277); (try revert u276); (try revert u275); (try revert u274); (try revert u273); (try revert u272); (try revert u271); (try revert u270); (try revert u269); (try revert u268); (try revert u267)
             (try revert u266); (try revert u265); (try revert u264); (try revert u263); (try revert u262); (try revert u261); (try revert u260); (try revert u259); (try revert u258); (try revert u257); (try revert u256); (try revert u255); (try revert u254); (try revert u253); (try revert u252); (try revert u251)
             (try revert u250); (try revert u249); (try revert u248); (try revert u247); (try revert u246); (try revert u245); (try revert u244); (try revert u243); (try revert u242); (try revert u241); (try revert u240); (try revert u239); (try revert u238); (try revert u237); (try revert u236); (try revert u235)
             (try revert u234); (try revert u233); (try revert u232); (try revert u231); (try revert u230); (try revert u229); (try revert u228); (try revert u227); (try revert u226); (try revert u225); (try revert u224); (try revert u223); (try revert u222); (try revert u221); (try revert u220); (try revert u219)
             (try revert u218); (try revert u217); (try revert u216); (try revert u215); (try revert u214); (try revert u213); (try revert u212); (try revert u211); (try revert u210); (try revert u209); (try revert u208); (try revert u207); (try revert u206); (try revert u205); (try revert u204); (try revert u203)
             (try revert u202); (try revert u201); (try revert u200); (try revert u199); (try revert u198); (try revert u197); (try revert u196); (try revert u195); (try revert u194); (try revert u193); (try revert u192); (try revert u191); (try revert u190); (try revert u189); (try revert u188); (try revert u187)
             (try revert u186); (try revert u185); (try revert u184); (try revert u183); (try revert u182); (try revert u181); (try revert u180); (try revert u179); (try revert u178); (try revert u177); (try revert u176); (try revert u175); (try revert u174); (try revert u173); (try revert u172); (try revert u171)
             (try revert u170); (try revert u169); (try revert u168); (try revert u167); (try revert u166); (try revert u165); (try revert u164); (try revert u163); (try revert u162); (try revert u161); (try revert u160); (try revert u159); (try revert u158); (try revert u157); (try revert u156); (try revert u155)
             (try revert u154); (try revert u153); (try revert u152); (try revert u151); (try revert u150); (try revert u149); (try revert u148); (try revert u147); (try revert u146); (try revert u145); (try revert u144); (try revert u143); (try revert u142); (try revert u141); (try revert u140); (try revert u139)
             (try revert u138); (try revert u137); (try revert u136); (try revert u135); (try revert u134); (try revert u133); (try revert u132); (try revert u131); (try revert u130); (try revert u129); (try revert u128); (try revert u127); (try revert u126); (try revert u125); (try revert u124); (try revert u123)
             (try revert u122); (try revert u121); (try revert u120); (try revert u119); (try revert u118); (try revert u117); (try revert u116); (try revert u115); (try revert u114); (try revert u113); (try revert u112); (try revert u111); (try revert u110); (try revert u109); (try revert u108); (try revert u107)
             (try revert u106); (try revert u105); (try revert u104); (try revert u103); (try revert u102); (try revert u101); (try revert u100); (try revert u99); (try revert u98); (try revert u97); (try revert u96); (try revert u95); (try revert u94); (try revert u93); (try revert u92); (try revert u91)
             (try revert u90); (try revert u89); (try revert u88); (try revert u87); (try revert u86); (try revert u85); (try revert u84); (try revert u83); (try revert u82); (try revert u81); (try revert u80); (try revert u79); (try revert u78); (try revert u77); (try revert u76); (try revert u75)
             (try revert u74); (try revert u73); (try revert u72); (try revert u71); (try revert u70); (try revert u69); (try revert u68); (try revert u67); (try revert u66); (try revert u65); (try revert u64); (try revert u63); (try revert u62); (try revert u61); (try revert u60); (try revert u59)
             (try revert u58); (try revert u57); (try revert u56); (try revert u55); (try revert u54); (try revert u53); (try revert u52); (try revert u51); (try revert u50); (try revert u49); (try revert u48); (try revert u47); (try revert u46); (try revert u45); (try revert u44); (try revert u43)
             (try revert u42); (try revert u41); (try revert u40); (try revert u39); (try revert u38); (try revert u37); (try revert u36); (try revert u35); (try revert u34); (try revert u33); (try revert u32); (try revert u31); (try revert u30); (try revert u29); (try revert u28); (try revert u27)
             (try revert u26); (try revert u25); (try revert u24); (try revert u23); (try revert u22); (try revert u21); (try revert u20); (try revert u19); (try revert u18); (try revert u17); (try revert u16); (try revert u15); (try revert u14); (try revert u13); (try revert u12); (try revert u11)
             (try revert u10); (try revert u9); (try revert u8); (try revert u7); (try revert u6); (try revert u5); (try revert u4); (try revert u3); (try revert u2); (try revert u1); (try revert u0)
             repeat (rename_i xv4_; (first | (have zv_ : Value := xv4_; clear zv_; clear xv4_) | revert xv4_))
             (try revert xv0_); (try revert xv0__1); (try revert xv0__2); (try revert xv0__3); (try revert xv0__4); (try revert xv0__5); (try revert xv0__6); (try revert xv0__7); (try revert xv0__8); (try revert xv0__9); (try revert xv0__10); (try revert xv0__11); (try revert xv0__12)
             (try revert xv1_); (try revert xv1__1); (try revert xv1__2); (try revert xv1__3); (try revert xv1__4); (try revert xv1__5); (try revert xv1__6); (try revert xv1__7); (try revert xv1__8); (try revert xv1__9); (try revert xv1__10); (try revert xv1__11); (try revert xv1__12)
             (try revert xv2_); (try revert xv2__1); (try revert xv2__2); (try revert xv2__3); (try revert xv2__4); (try revert xv2__5); (try revert xv2__6); (try revert xv2__7); (try revert xv2__8); (try revert xv2__9); (try revert xv2__10); (try revert xv2__11); (try revert xv2__12)
             (try revert xv3_); (try revert xv3__1); (try revert xv3__2); (try revert xv3__3); (try revert xv3__4); (try revert xv3__5); (try revert xv3__6); (try revert xv3__7); (try revert xv3__8); (try revert xv3__9); (try revert xv3__10); (try revert xv3__11); (try revert xv3__12)
             repeat (rename_i xv4_; (first | (have zv_ : Value := xv4_; clear zv_; clear xv4_) | revert xv4_))
             have zz_ := True.intro
             revert zz_
             exact hP_
set_option maxHeartbeats 80000000 in
set_option maxRecDepth 100000 in
def gamehalllaw3_OfferSays_rest5 : {P : Prop // P → (gamehalllaw3_OfferSays_rest4.1)} := by
             apply Subtype.mk
             intro hP_
             intro zz_
             unhygienic intros
             clear zz_
             clear HC438; (try clear p2)
             obtain ⟨kq, x251_437, rfl, HA, HJ437, BK138, BK147, BK155, BK163, BK171, BK179, BK180, HB⟩ := hcut
             cases kq with
             | zero => exact absurd HA.out (by simp [gamehalllaw3_OfferSays.j7])
             | succ kj437 =>
              have H := HA.out; clear HA
              simp only [gamehalllaw3_OfferSays.j7] at H
              by_cases c514 : x251_437 = true
              ·subst c514
               rw [if_pos rfl] at H
               obtain rfl := Option.some.inj H
               go_wp2
               go_ret
               exact ⟨xer, xW HB⟩
              ·replace c514 := Bool.eq_false_iff.mpr c514
               subst c514
               rw [if_neg (show ¬ (false = true) by decide)] at H
               have HC515 := Aside0.mk H; clear H
               go_upto_region 39 with (fail)
               go_cut [258] (fun vs258 wc => ∃ (kq : Nat) (x258_514 : Bool), vs258 = .bool x258_514 ∧ Aside0 (gamehalllaw3_OfferSays.j8 kq a1 a2 a3 t154 t162 x258_514 a0_0 a0_1 a0_2 a0_3 a0_4 a0_5 t148 t149 t150 t151 t152 t153 t156 t157 t158 t159 t160 t161 0 0 0 0 0 0 = some r) ∧ Aside0 (kq ≤ kj437) ∧ Aside0 (wc.heap[gb138]? = some (.cells #[.int .i64 a0_0, .int .i64 a0_1, .int .i64 a0_2, .int .i64 a0_3, .int .i64 a0_4, .int .i64 a0_5] 25 (0, 0))) ∧ Aside0 (wc.heap[gb147]? = some (.cells #[.int .i64 t140, .int .i64 t141, .int .i64 t142, .int .i64 t143, .int .i64 t144, .int .i64 t145] 25 (0, 0))) ∧ Aside0 (wc.heap[gb155]? = some (.cells #[.int .i64 t148, .int .i64 t149, .int .i64 t150, .int .i64 t151, .int .i64 t152, .int .i64 t153] 25 (0, 0))) ∧ Aside0 (wc.heap[gb163]? = some (.cells #[.int .i64 t156, .int .i64 t157, .int .i64 t158, .int .i64 t159, .int .i64 t160, .int .i64 t161] 25 (0, 0))) ∧ Aside0 (wc.heap[gb171]? = some (.cells #[.int .i64 t164, .int .i64 t165, .int .i64 t166, .int .i64 t167, .int .i64 t168, .int .i64 t169] 25 (0, 0))) ∧ Aside0 (wc.heap[gb179]? = some (.cells #[.int .i64 t172, .int .i64 t173, .int .i64 t174, .int .i64 t175, .int .i64 t176, .int .i64 t177] 25 (0, 0))) ∧ Aside0 (wc.heap[gb180]? = some (.cells #[.int .i64 0, .int .i64 0, .int .i64 0, .int .i64 0, .int .i64 0, .int .i64 0] 25 (0, 0))) ∧ Aside0 (Below w.heap.size w wc))
               case first =>
                refine box_ ?g48;letI i:type_of% ?g48:=⟨by
                have H := HC515.out; clear HC515
                by_cases c516 : 0 ≤ a1
                ·refine box_ ?g49;letI i:type_of% ?g49:=⟨by
                 rw [if_pos c516] at H
                 have c516b0 : decide (0 ≤ a1) = true := decide_eq_true c516
                 clear c516
                 (first | rw [c516b0] | (simp only [i64_w, i32_w]; rw [c516b0]) | skip)
                 by_cases c517 : a1 < 2
                 ·refine box_ ?g50;letI i:type_of% ?g50:=⟨by
                  rw [if_pos c517] at H
                  have c517b0 : decide (a1 < 2) = true := decide_eq_true c517
                  clear c517
                  by_cases c518 : a1 = 0
                  ·refine box_ ?g51;letI i:type_of% ?g51:=⟨by
                   rw [if_pos c518] at H
                   have c518b0 : (a1 == 0) = true := beq_iff_eq.mpr c518
                   have c518b1 : (a1 != 0) = false := bne_eq_false_iff_eq.mpr c518
                   clear c518; obtain ⟨c519b, c519g, c519c, c519d⟩ := xar (a1 : Int) 0 0 2
                   have H' := Aside0.mk H
                   clear H; have hcz526_0 := blkc6 BK138.out
                   go_wp2
                   go_meet
                   case rel => exact ⟨_, ((a0_0 != (wrap64 (1 - a2)))), (xrf), H', ⟨by have := HJ11.out; have := HJ182.out; have := HJ275.out; have := HJ358.out; have := HJ437.out; first | omega | exact Nat.le_refl _⟩, ⟨xK BK138⟩, ⟨xK BK147⟩, ⟨xK BK155⟩, ⟨xK BK163⟩, ⟨xK BK171⟩, ⟨xK BK179⟩, ⟨xK BK180⟩, ⟨xW HB⟩⟩⟩
                   exact inferInstanceAs _
                  ·refine box_ ?g52;letI i:type_of% ?g52:=⟨by
                   rw [if_neg c518] at H
                   have c518b0 : (a1 == 0) = false := beq_eq_false_iff_ne.mpr c518
                   have c518b1 : (a1 != 0) = true := bne_iff_ne.mpr c518
                   obtain ⟨c527b, c527g, c527c, c527d⟩ := xar (a1 : Int) 1 1 2
                   have H' := Aside0.mk H
                   clear H; have hcz534_0 := blkc6 BK138.out
                   go_wp2
                   go_meet
                   case rel => exact ⟨_, ((a0_1 != (wrap64 (1 - a2)))), (xrf), H', ⟨by have := HJ11.out; have := HJ182.out; have := HJ275.out; have := HJ358.out; have := HJ437.out; first | omega | exact Nat.le_refl _⟩, ⟨xK BK138⟩, ⟨xK BK147⟩, ⟨xK BK155⟩, ⟨xK BK163⟩, ⟨xK BK171⟩, ⟨xK BK179⟩, ⟨xK BK180⟩, ⟨xW HB⟩⟩⟩
                   exact inferInstanceAs _⟩
                  exact inferInstanceAs _
                 ·rw [if_neg c517] at H
                  exact absurd H (by simp)⟩
                 exact inferInstanceAs _
                ·rw [if_neg c516] at H
                 exact absurd H (by simp)⟩
                exact inferInstanceAs _
               case rest =>
                repeat (rename_i xv5_; (first | (have zv_ : Value := xv5_; clear zv_; clear xv5_) | revert xv5_))
                (try revert xv0_); (try revert xv0__1); (try revert xv0__2); (try revert xv0__3); (try revert xv0__4); (try revert xv0__5); (try revert xv0__6); (try revert xv0__7); (try revert xv0__8); (try revert xv0__9); (try revert xv0__10); (try revert xv0__11); (try revert xv0__12)
                (try revert xv1_); (try revert xv1__1); (try revert xv1__2); (try revert xv1__3); (try revert xv1__4); (try revert xv1__5); (try revert xv1__6); (try revert xv1__7); (try revert xv1__8); (try revert xv1__9); (try revert xv1__10); (try revert xv1__11); (try revert xv1__12)
                (try revert xv2_); (try revert xv2__1); (try revert xv2__2); (try revert xv2__3); (try revert xv2__4); (try revert xv2__5); (try revert xv2__6); (try revert xv2__7); (try revert xv2__8); (try revert xv2__9); (try revert xv2__10); (try revert xv2__11); (try revert xv2__12)
                (try revert xv3_); (try revert xv3__1); (try revert xv3__2); (try revert xv3__3); (try revert xv3__4); (try revert xv3__5); (try revert xv3__6); (try revert xv3__7); (try revert xv3__8); (try revert xv3__9); (try revert xv3__10); (try revert xv3__11); (try revert xv3__12)
                (try revert xv4_); (try revert xv4__1); (try revert xv4__2); (try revert xv4__3); (try revert xv4__4); (try revert xv4__5); (try revert xv4__6); (try revert xv4__7); (try revert xv4__8); (try revert xv4__9); (try revert xv4__10); (try revert xv4__11); (try revert xv4__12)
                (try revert vs258); (try revert kj437); (try revert HJ437); (try revert x251_437); (try revert vs251); (try revert kj358); (try revert HJ358); (try revert x24_358); (try revert vs24); (try revert w367); (try revert t185); (try revert kj275); (try revert HJ275); (try revert kj182); (try revert HJ182); (try revert kj11)
                (try revert HJ11); (try revert HA); (try revert x95_11); (try revert kq); (try revert wc); (try revert vs95); (try revert w50); (try revert gb180); (try revert w43); (try revert gb179); (try revert w42); (try revert w35); (try revert gb171); (try revert w34); (try revert w28); (try revert gb163)
                (try revert w27); (try revert w22); (try revert gb155); (try revert w21); (try revert w17); (try revert gb147); (try revert w16); (try revert rfl); (try revert w14); (try revert e); (try revert hb); (try revert hbox); (try revert w13); (try revert hg); (try revert gb138); (try revert t178)
                (try revert t177); (try revert t176); (try revert t175); (try revert t174); (try revert t173); (try revert t172); (try revert t170); (try revert t169); (try revert t168); (try revert t167); (try revert t166); (try revert t165); (try revert t164); (try revert t162); (try revert t161); (try revert t160)
                (try revert t159); (try revert t158); (try revert t157); (try revert t156); (try revert t154); (try revert t153); (try revert t152); (try revert t151); (try revert t150); (try revert t149); (try revert t148); (try revert t146); (try revert t145); (try revert t144); (try revert t143); (try revert t142)
                (try revert t141); (try revert t140); (try revert t182); (try revert t181); (try revert bt172); (try revert bt164); (try revert bt156); (try revert bt148); (try revert bt140); (try revert t139); (try revert hss_); (try revert h); (try revert w); (try revert r); (try revert a3); (try revert a2)
                (try revert a1); (try revert a0_5); (try revert a0_4); (try revert a0_3); (try revert a0_2); (try revert a0_1); (try revert a0_0); (try revert k); (try revert hu22); (try revert hu25); (try revert u324); (try revert u323); (try revert u322); (try revert u321); (try revert u320); (try revert u319)
                (try revert u318); (try revert u317); (try revert u316); (try revert u315); (try revert u314); (try revert u313); (try revert u312); (try revert u311); (try revert u310); (try revert u309); (try revert u308); (try revert u307); (try revert u306); (try revert u305); (try revert u304); (try revert u303)
                (try revert u302); (try revert u301); (try revert u300); (try revert u299); (try revert u298); (try revert u297); (try revert u296); (try revert u295); (try revert u294); (try revert u293); (try revert u292); (try revert u291); (try revert u290); (try revert u289); (try revert u288); (try revert u287)
                (try revert u286); (try revert u285); (try revert u284); (try revert u283); (try revert u282); (try revert u281); (try revert u280); (try revert u279); (try revert u278); (try revert u277); (try revert u276); (try revert u275); (try revert u274); (try revert u273); (try revert u272); (try revert u271)
                (try revert u270); (try revert u269); (try revert u268); (try revert u267); (try revert u266); (try revert u265); (try revert u264); (try revert u263); (try revert u262); (try revert u261); (try revert u260); (try revert u259); (try revert u258); (try revert u257); (try revert u256); (try revert u255)
                (try revert u254); (try revert u253); (try revert u252); (try revert u251); (try revert u250); (try revert u249); (try revert u248); (try revert u247); (try revert u246); (try revert u245); (try revert u244); (try revert u243); (try revert u242); (try revert u241); (try revert u240); (try revert u239)
                (try revert u238); (try revert u237); (try revert u236); (try revert u235); (try revert u234); (try revert u233); (try revert u232); (try revert u231); (try revert u230); (try revert u229); (try revert u228); (try revert u227); (try revert u226); (try revert u225); (try revert u224); (try revert u223)
                (try revert u222); (try revert u221); (try revert u220); (try revert u219); (try revert u218); (try revert u217); (try revert u216); (try revert u215); (try revert u214); (try revert u213); (try revert u212); (try revert u211); (try revert u210); (try revert u209); (try revert u208); (try revert u207)
                (try revert u206); (try revert u205); (try revert u204); (try revert u203); (try revert u202); (try revert u201); (try revert u200); (try revert u199); (try revert u198); (try revert u197); (try revert u196); (try revert u195); (try revert u194); (try revert u193); (try revert u192); (try revert u191)
                (try revert u190); (try revert u189); (try revert u188); (try revert u187); (try revert u186); (try revert u185); (try revert u184); (try revert u183); (try revert u182); (try revert u181); (try revert u180); (try revert u179); (try revert u178); (try revert u177); (try revert u176); (try revert u175)
                (try revert u174); (try revert u173); (try revert u172); (try revert u171); (try revert u170); (try revert u169); (try revert u168); (try revert u167); (try revert u166); (try revert u165); (try revert u164); (try revert u163); (try revert u162); (try revert u161); (try revert u160); (try revert u159)
                (try revert u158); (try revert u157); (try revert u156); (try revert u155); (try revert u154); (try revert u153); (try revert u152); (try revert u151); (try revert u150); (try revert u149); (try revert u148); (try revert u147); (try revert u146); (try revert u145); (try revert u144); (try revert u143)
                (try revert u142); (try revert u141); (try revert u140); (try revert u139); (try revert u138); (try revert u137); (try revert u136); (try revert u135); (try revert u134); (try revert u133); (try revert u132); (try revert u131); (try revert u130); (try revert u129); (try revert u128); (try revert u127)
                (try revert u126); (try revert u125); (try revert u124); (try revert u123); (try revert u122); (try revert u121); (try revert u120); (try revert u119); (try revert u118); (try revert u117); (try revert u116); (try revert u115); (try revert u114); (try revert u113); (try revert u112); (try revert u111)
                (try revert u110); (try revert u109); (try revert u108); (try revert u107); (try revert u106); (try revert u105); (try revert u104); (try revert u103); (try revert u102); (try revert u101); (try revert u100); (try revert u99); (try revert u98); (try revert u97); (try revert u96); (try revert u95)
                (try revert u94); (try revert u93); (try revert u92); (try revert u91); (try revert u90); (try revert u89); (try revert u88); (try revert u87); (try revert u86); (try revert u85); (try revert u84); (try revert u83); (try revert u82); (try revert u81); (try revert u80); (try revert u79)
                (try revert u78); (try revert u77); (try revert u76); (try revert u75); (try revert u74); (try revert u73); (try revert u72); (try revert u71); (try revert u70); (try revert u69); (try revert u68); (try revert u67); (try revert u66); (try revert u65); (try revert u64); (try revert u63)
                (try revert u62); (try revert u61); (try revert u60); (try revert u59); (try revert u58); (try revert u57); (try revert u56); (try revert u55); (try revert u54); (try revert u53); (try revert u52); (try revert u51); (try revert u50); (try revert u49); (try revert u48); (try revert u47)
                (try revert u46); (try revert u45); (try revert u44); (try revert u43); (try revert u42); (try revert u41); (try revert u40); (try revert u39); (try revert u38); (try revert u37); (try revert u36); (try revert u35); (try revert u34); (try revert u33); (try revert u32); (try revert u31)
                (try revert u30); (try revert u29); (try revert u28); (try revert u27); (try revert u26); (try revert u25); (try revert u24); (try revert u23); (try revert u22); (try revert u21); (try revert u20); (try revert u19); (try revert u18); (try revert u17); (try revert u16); (try revert u15)
                (try revert u14); (try revert u13); (try revert u12); (try revert u11); (try revert u10); (try revert u9); (try revert u8); (try revert u7); (try revert u6); (try revert u5); (try revert u4); (try revert u3); (try revert u2); (try revert u1); (try revert u0)
                repeat (rename_i xv5_; (first | (have zv_ : Value := xv5_; clear zv_; clear xv5_) | revert xv5_))
                (try revert xv0_); (try revert xv0__1); (try revert xv0__2); (try revert xv0__3); (try revert xv0__4); (try revert xv0__5); (try revert xv0__6); (try revert xv0__7); (try revert xv0__8); (try revert xv0__9); (try revert xv0__10); (try revert xv0__11); (try revert xv0__12)
                (try revert xv1_); (try revert xv1__1); (try revert xv1__2); (try revert xv1__3); (try revert xv1__4); (try revert xv1__5); (try revert xv1__6); (try revert xv1__7); (try revert xv1__8); (try revert xv1__9); (try revert xv1__10); (try revert xv1__11); (try revert xv1__12)
                (try revert xv2_); (try revert xv2__1); (try revert xv2__2); (try revert xv2__3); (try revert xv2__4); (try revert xv2__5); (try revert xv2__6); (try revert xv2__7); (try revert xv2__8); (try revert xv2__9); (try revert xv2__10); (try revert xv2__11); (try revert xv2__12)
                (try revert xv3_); (try revert xv3__1); (try revert xv3__2); (try revert xv3__3); (try revert xv3__4); (try revert xv3__5); (try revert xv3__6); (try revert xv3__7); (try revert xv3__8); (try revert xv3__9); (try revert xv3__10); (try revert xv3__11); (try revert xv3__12)
                (try revert xv4_); (try revert xv4__1); (try revert xv4__2); (try revert xv4__3); (try revert xv4__4); (try revert xv4__5); (try revert xv4__6); (try revert xv4__7); (try revert xv4__8); (try revert xv4__9); (try revert xv4__10); (try revert xv4__11); (try revert xv4__12)
                repeat (rename_i xv5_; (first | (have zv_ : Value := xv5_; clear zv_; clear xv5_) | revert xv5_))
                have zz_ := True.intro
                revert zz_
                exact hP_
end Go.Proofs.Yteioadnojajjoaa.POfferSays
