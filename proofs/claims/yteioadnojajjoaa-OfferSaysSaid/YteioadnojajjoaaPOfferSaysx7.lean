-- Printed by a program of this claim's writer (wip/ext): an extension of the kit's print.
import Derived.Test.YteioadnojajjoaaPOfferSaysx0
import Derived.Test.YteioadnojajjoaaPOfferSaysx2
import Derived.Test.YteioadnojajjoaaPOfferSaysx3
import Derived.Test.YteioadnojajjoaaPOfferSaysx4
import Derived.Test.YteioadnojajjoaaPOfferSaysx5
import Derived.Test.YteioadnojajjoaaPOfferSaysx6
import Derived.Test.YteioadnojajjoaaPOfferSaysx7c
namespace Go.Proofs.Yteioadnojajjoaa.POfferSays
open Go.RowKit Go.Proofs.YteioadnojajjoaaW.PrintWords Go.Proofs.YteioadnojajjoaaW.PrintLast Go.Proofs.YteioadnojajjoaaW.PrintMore
attribute [local go_sem] max2_int min2_int max_two min_two max_three min_three max_four min_four   -- for this text's walks alone
set_option linter.unusedVariables false
set_option linter.unusedSimpArgs false
attribute [local go_sem high] eqA25
set_option maxHeartbeats 80000000 in
set_option maxRecDepth 100000 in
theorem gamehalllaw3_OfferSays_restLast : gamehalllaw3_OfferSays_rest5.1 := by
                intro zz_
                unhygienic intros
                clear zz_
                clear HC515; (try clear p2); (try clear p6); (try clear p64); (try clear p2)
                obtain ⟨kq, x258_514, rfl, HA, HJ514, BK138, BK147, BK155, BK163, BK171, BK179, BK180, HB⟩ := hcut
                cases kq with
                | zero => exact absurd HA.out (by simp [gamehalllaw3_OfferSays.j8])
                | succ kj514 =>
                 have H := HA.out; clear HA
                 simp only [gamehalllaw3_OfferSays.j8] at H
                 by_cases c535 : x258_514 = true
                 ·subst c535
                  rw [if_pos rfl] at H
                  by_cases c536 : t154 = 10
                  ·refine box_ ?g1;letI i:type_of% ?g1:=⟨by
                   rw [if_pos c536] at H
                   have c536b0 : (t154 == 10) = true := beq_iff_eq.mpr c536
                   have c536b1 : (t154 != 10) = false := bne_eq_false_iff_eq.mpr c536
                   clear c536
                   by_cases c537 : t162 = 10
                   ·refine box_ ?g2;letI i:type_of% ?g2:=⟨by
                    rw [if_pos c537] at H
                    have c537b0 : (t162 == 10) = true := beq_iff_eq.mpr c537
                    have c537b1 : (t162 != 10) = false := bne_eq_false_iff_eq.mpr c537
                    clear c537
                    by_cases c538 : ((t148 == 0 && (t149 == 0)) && (((t150 == 0 && (t151 == 0)) && ((t152 == 0 && (t153 == 0)))))) = true
                    ·refine box_ ?g3;letI i:type_of% ?g3:=⟨by
                     rw [if_pos c538] at H
                     have c538b0 : ((t148 == 0 && (t149 == 0)) && (((t150 == 0 && (t151 == 0)) && ((t152 == 0 && (t153 == 0)))))) = true := c538
                     clear c538
                     obtain rfl := Option.some.inj H
                     have hcz545_0 := blkc6 BK155.out; have hcz551_0 := blkc6 BK180.out; have hcz556_0 := blkc6 BK163.out
                     go_wp2
                     go_ret
                     exact ⟨xer, xW HB⟩⟩
                     exact inferInstanceAs _
                    ·refine box_ ?g4;letI i:type_of% ?g4:=⟨by
                     rw [if_neg c538] at H
                     have c538b0 : ((t148 == 0 && (t149 == 0)) && (((t150 == 0 && (t151 == 0)) && ((t152 == 0 && (t153 == 0)))))) = false := by simpa using c538
                     clear c538
                     obtain rfl := Option.some.inj H
                     have hcz563_0 := blkc6 BK155.out; have hcz569_0 := blkc6 BK180.out
                     go_wp2
                     go_ret
                     exact ⟨xer, xW HB⟩⟩
                     exact inferInstanceAs _⟩
                    exact inferInstanceAs _
                   ·rw [if_neg c537] at H
                    have c537b0 : (t162 == 10) = false := beq_eq_false_iff_ne.mpr c537
                    have c537b1 : (t162 != 10) = true := bne_iff_ne.mpr c537
                    obtain rfl := Option.some.inj H
                    go_wp2
                    go_ret
                    exact ⟨xer, xW HB⟩⟩
                   exact inferInstanceAs _
                  ·rw [if_neg c536] at H
                   have c536b0 : (t154 == 10) = false := beq_eq_false_iff_ne.mpr c536
                   have c536b1 : (t154 != 10) = true := bne_iff_ne.mpr c536
                   obtain rfl := Option.some.inj H
                   go_wp2
                   go_ret
                   exact ⟨xer, xW HB⟩
                 ·replace c535 := Bool.eq_false_iff.mpr c535
                  subst c535
                  rw [if_neg (show ¬ (false = true) by decide)] at H
                  by_cases c570 : 0 ≤ a1
                  ·refine box_ ?g5;letI i:type_of% ?g5:=⟨by
                   rw [if_pos c570] at H
                   have c570b0 : decide (0 ≤ a1) = true := decide_eq_true c570
                   clear c570
                   by_cases c571 : a1 < 2
                   ·refine box_ ?g6;letI i:type_of% ?g6:=⟨by
                    rw [if_pos c571] at H
                    have c571b0 : decide (a1 < 2) = true := decide_eq_true c571
                    clear c571
                    by_cases c572 : a1 = 0
                    ·refine box_ ?g7;letI i:type_of% ?g7:=⟨by
                     rw [if_pos c572] at H
                     have c572b0 : (a1 == 0) = true := beq_iff_eq.mpr c572
                     have c572b1 : (a1 != 0) = false := bne_eq_false_iff_eq.mpr c572
                     clear c572; obtain ⟨c573b, c573g, c573c, c573d⟩ := xar (a1 : Int) 0 0 2
                     by_cases c574 : t162 = 0
                     ·refine box_ ?g8;letI i:type_of% ?g8:=⟨by
                      rw [if_pos c574] at H
                      have c574b0 : (t162 == 0) = true := beq_iff_eq.mpr c574
                      have c574b1 : (t162 != 0) = false := bne_eq_false_iff_eq.mpr c574
                      clear c574
                      by_cases c575 : ((!(t156 == (-1)) || (!(t157 == a0_1))) || (((!(t158 == a0_2) || (!(t159 == a0_3))) || ((!(t160 == a0_4) || (!(t161 == a0_5))))))) = true
                      ·refine box_ ?g9;letI i:type_of% ?g9:=⟨by
                       rw [if_pos c575] at H
                       have c575b0 : ((!(t156 == (-1)) || (!(t157 == a0_1))) || (((!(t158 == a0_2) || (!(t159 == a0_3))) || ((!(t160 == a0_4) || (!(t161 == a0_5))))))) = true := c575
                       clear c575
                       obtain rfl := Option.some.inj H
                       have hcz582_0 := blkc6 BK138.out
                       go_wp2_with (first | ((with_reducible refine gate_dst (N := 25) rfl ?_); refine box_event ?hg (N := 25) ?hd (cs := #[.int .i64 0, .int .i64 0, .int .i64 0, .int .i64 0, .int .i64 0, .int .i64 0]) (t := 25) ?hr ?_; (case hd => rfl); (case hg => rfl); (case hr => first | (go_simp; done) | (go_simp; rfl)); intro gb186 hg w583 hbox hb; have BK186 := Aside0.mk (hbox); have GW186 := Aside0.mk (xZ HB hg); have GE186 := Aside0.mk (xZ HB hg); have NB138_186 := Aside0.mk (xN BK138 hg); have NB186_138 := Aside0.mk (xM BK138 hg); have NB147_186 := Aside0.mk (xN BK147 hg); have NB186_147 := Aside0.mk (xM BK147 hg); have NB155_186 := Aside0.mk (xN BK155 hg); have NB186_155 := Aside0.mk (xM BK155 hg); have NB163_186 := Aside0.mk (xN BK163 hg); have NB186_163 := Aside0.mk (xM BK163 hg); have NB171_186 := Aside0.mk (xN BK171 hg); have NB186_171 := Aside0.mk (xM BK171 hg); have NB179_186 := Aside0.mk (xN BK179 hg); have NB186_179 := Aside0.mk (xM BK179 hg); have NB180_186 := Aside0.mk (xN BK180 hg); have NB186_180 := Aside0.mk (xM BK180 hg); replace BK138 := Aside0.mk (xB BK138 hb); replace BK147 := Aside0.mk (xB BK147 hb); replace BK155 := Aside0.mk (xB BK155 hb); replace BK163 := Aside0.mk (xB BK163 hb); replace BK171 := Aside0.mk (xB BK171 hb); replace BK179 := Aside0.mk (xB BK179 hb); replace BK180 := Aside0.mk (xB BK180 hb); replace HB := Aside0.mk (xS HB hb); clear hb hbox hg; have hnb584 := xne NB186_138; have hnc584 := xne NB138_186; have hnb585 := xne NB186_147; have hnc585 := xne NB147_186; have hnb586 := xne NB186_155; have hnc586 := xne NB155_186; have hnb587 := xne NB186_163; have hnc587 := xne NB163_186; have hnb588 := xne NB186_171; have hnc588 := xne NB171_186; have hnb589 := xne NB186_179; have hnc589 := xne NB179_186; have hnb590 := xne NB186_180; have hnc590 := xne NB180_186; have hcz591_0 := blkc6 BK186.out; have hcz597_0 := blkc6 BK163.out))
                       go_ret
                       exact ⟨xer, xW HB⟩⟩
                       exact inferInstanceAs _
                      ·refine box_ ?g10;letI i:type_of% ?g10:=⟨by
                       rw [if_neg c575] at H
                       have c575b0 : ((!(t156 == (-1)) || (!(t157 == a0_1))) || (((!(t158 == a0_2) || (!(t159 == a0_3))) || ((!(t160 == a0_4) || (!(t161 == a0_5))))))) = false := by simpa using c575
                       clear c575; replace H := Option.bind_eq_some_iff.mp H
                       obtain ⟨t187, A5980, H⟩ := H
                       try dsimp only at H
                       have A598 := Aside0.mk A5980; clear A5980
                       by_cases c599 : t154 = 0
                       ·refine box_ ?g11;letI i:type_of% ?g11:=⟨by
                        rw [if_pos c599] at H
                        have c599b0 : (t154 == 0) = true := beq_iff_eq.mpr c599
                        have c599b1 : (t154 != 0) = false := bne_eq_false_iff_eq.mpr c599
                        clear c599
                        by_cases c600 : ((t148 == (-1) && (t149 == (-1))) && (((t150 == a0_2 && (t151 == a0_3)) && ((t152 == a0_4 && (t153 == a0_5)))))) = true
                        ·refine box_ ?g12;letI i:type_of% ?g12:=⟨by
                         rw [if_pos c600] at H
                         have c600b0 : ((t148 == (-1) && (t149 == (-1))) && (((t150 == a0_2 && (t151 == a0_3)) && ((t152 == a0_4 && (t153 == a0_5)))))) = true := c600
                         clear c600
                         by_cases c601 : a3 = 0
                         ·refine box_ ?g13;letI i:type_of% ?g13:=⟨by
                          rw [if_pos c601] at H
                          have c601b0 : (a3 == 0) = true := beq_iff_eq.mpr c601
                          have c601b1 : (a3 != 0) = false := bne_eq_false_iff_eq.mpr c601
                          clear c601
                          obtain rfl := Option.some.inj H
                          have hcz608_0 := blkc6 BK138.out
                          go_wp2_with (first | ((with_reducible refine gate_dst (N := 25) rfl ?_); refine box_event ?hg (N := 25) ?hd (cs := #[.int .i64 0, .int .i64 0, .int .i64 0, .int .i64 0, .int .i64 0, .int .i64 0]) (t := 25) ?hr ?_; (case hd => rfl); (case hg => rfl); (case hr => first | (go_simp; done) | (go_simp; rfl)); intro gb186 hg w609 hbox hb; have BK186 := Aside0.mk (hbox); have GW186 := Aside0.mk (xZ HB hg); have GE186 := Aside0.mk (xZ HB hg); have NB138_186 := Aside0.mk (xN BK138 hg); have NB186_138 := Aside0.mk (xM BK138 hg); have NB147_186 := Aside0.mk (xN BK147 hg); have NB186_147 := Aside0.mk (xM BK147 hg); have NB155_186 := Aside0.mk (xN BK155 hg); have NB186_155 := Aside0.mk (xM BK155 hg); have NB163_186 := Aside0.mk (xN BK163 hg); have NB186_163 := Aside0.mk (xM BK163 hg); have NB171_186 := Aside0.mk (xN BK171 hg); have NB186_171 := Aside0.mk (xM BK171 hg); have NB179_186 := Aside0.mk (xN BK179 hg); have NB186_179 := Aside0.mk (xM BK179 hg); have NB180_186 := Aside0.mk (xN BK180 hg); have NB186_180 := Aside0.mk (xM BK180 hg); replace BK138 := Aside0.mk (xB BK138 hb); replace BK147 := Aside0.mk (xB BK147 hb); replace BK155 := Aside0.mk (xB BK155 hb); replace BK163 := Aside0.mk (xB BK163 hb); replace BK171 := Aside0.mk (xB BK171 hb); replace BK179 := Aside0.mk (xB BK179 hb); replace BK180 := Aside0.mk (xB BK180 hb); replace HB := Aside0.mk (xS HB hb); clear hb hbox hg; have hnb610 := xne NB186_138; have hnc610 := xne NB138_186; have hnb611 := xne NB186_147; have hnc611 := xne NB147_186; have hnb612 := xne NB186_155; have hnc612 := xne NB155_186; have hnb613 := xne NB186_163; have hnc613 := xne NB163_186; have hnb614 := xne NB186_171; have hnc614 := xne NB171_186; have hnb615 := xne NB186_179; have hnc615 := xne NB179_186; have hnb616 := xne NB186_180; have hnc616 := xne NB180_186; have hcz617_0 := blkc6 BK186.out; have hcz623_0 := blkc6 BK163.out) | ((with_reducible refine gate_callee (f := 11) rfl ?_); refine goesL_ (some 291) rfl rfl Try.func11 kr_ rfl #[.int .i64 (wrap64 (1 - a2)), .int .i64 a3] rfl (by (try simp only [List.map_toArray, List.map_cons, List.map_nil]); first | done | rfl | (simp only [List.length_drop, List.length_take]; rfl)) ?_; (with_reducible refine (offer_Plies.calls kj514 (wrap64 (1 - a2)) a3 t187 _ A598.out).mono ?_); rintro e w' ⟨rfl, ⟨nd, rfl⟩⟩; refine ⟨_, rfl, ?_⟩; have hcz628_0 := blkc6 BK155.out))
                          go_ret
                          exact ⟨xer, xW HB⟩⟩
                          exact inferInstanceAs _
                         ·refine box_ ?g14;letI i:type_of% ?g14:=⟨by
                          rw [if_neg c601] at H
                          have c601b0 : (a3 == 0) = false := beq_eq_false_iff_ne.mpr c601
                          have c601b1 : (a3 != 0) = true := bne_iff_ne.mpr c601
                          by_cases c629 : t187 = (wrap64 (1 + (Int.tmod (wrap64 (a3 + a2)) 2)))
                          ·refine box_ ?g15;letI i:type_of% ?g15:=⟨by
                           rw [if_pos c629] at H
                           have c629b0 : (t187 == (wrap64 (1 + (Int.tmod (wrap64 (a3 + a2)) 2)))) = true := beq_iff_eq.mpr c629
                           have c629b1 : (t187 != (wrap64 (1 + (Int.tmod (wrap64 (a3 + a2)) 2)))) = false := bne_eq_false_iff_eq.mpr c629
                           clear c629
                           obtain rfl := Option.some.inj H
                           have hcz636_0 := blkc6 BK138.out
                           go_wp2_with (first | ((with_reducible refine gate_dst (N := 25) rfl ?_); refine box_event ?hg (N := 25) ?hd (cs := #[.int .i64 0, .int .i64 0, .int .i64 0, .int .i64 0, .int .i64 0, .int .i64 0]) (t := 25) ?hr ?_; (case hd => rfl); (case hg => rfl); (case hr => first | (go_simp; done) | (go_simp; rfl)); intro gb186 hg w637 hbox hb; have BK186 := Aside0.mk (hbox); have GW186 := Aside0.mk (xZ HB hg); have GE186 := Aside0.mk (xZ HB hg); have NB138_186 := Aside0.mk (xN BK138 hg); have NB186_138 := Aside0.mk (xM BK138 hg); have NB147_186 := Aside0.mk (xN BK147 hg); have NB186_147 := Aside0.mk (xM BK147 hg); have NB155_186 := Aside0.mk (xN BK155 hg); have NB186_155 := Aside0.mk (xM BK155 hg); have NB163_186 := Aside0.mk (xN BK163 hg); have NB186_163 := Aside0.mk (xM BK163 hg); have NB171_186 := Aside0.mk (xN BK171 hg); have NB186_171 := Aside0.mk (xM BK171 hg); have NB179_186 := Aside0.mk (xN BK179 hg); have NB186_179 := Aside0.mk (xM BK179 hg); have NB180_186 := Aside0.mk (xN BK180 hg); have NB186_180 := Aside0.mk (xM BK180 hg); replace BK138 := Aside0.mk (xB BK138 hb); replace BK147 := Aside0.mk (xB BK147 hb); replace BK155 := Aside0.mk (xB BK155 hb); replace BK163 := Aside0.mk (xB BK163 hb); replace BK171 := Aside0.mk (xB BK171 hb); replace BK179 := Aside0.mk (xB BK179 hb); replace BK180 := Aside0.mk (xB BK180 hb); replace HB := Aside0.mk (xS HB hb); clear hb hbox hg; have hnb638 := xne NB186_138; have hnc638 := xne NB138_186; have hnb639 := xne NB186_147; have hnc639 := xne NB147_186; have hnb640 := xne NB186_155; have hnc640 := xne NB155_186; have hnb641 := xne NB186_163; have hnc641 := xne NB163_186; have hnb642 := xne NB186_171; have hnc642 := xne NB171_186; have hnb643 := xne NB186_179; have hnc643 := xne NB179_186; have hnb644 := xne NB186_180; have hnc644 := xne NB180_186; have hcz645_0 := blkc6 BK186.out; have hcz651_0 := blkc6 BK163.out) | ((with_reducible refine gate_callee (f := 11) rfl ?_); refine goesL_ (some 291) rfl rfl Try.func11 kr_ rfl #[.int .i64 (wrap64 (1 - a2)), .int .i64 a3] rfl (by (try simp only [List.map_toArray, List.map_cons, List.map_nil]); first | done | rfl | (simp only [List.length_drop, List.length_take]; rfl)) ?_; (with_reducible refine (offer_Plies.calls kj514 (wrap64 (1 - a2)) a3 t187 _ A598.out).mono ?_); rintro e w' ⟨rfl, ⟨nd, rfl⟩⟩; refine ⟨_, rfl, ?_⟩; have hcz656_0 := blkc6 BK155.out))
                           go_ret
                           exact ⟨xer, xW HB⟩⟩
                           exact inferInstanceAs _
                          ·refine box_ ?g16;letI i:type_of% ?g16:=⟨by
                           rw [if_neg c629] at H
                           have c629b0 : (t187 == (wrap64 (1 + (Int.tmod (wrap64 (a3 + a2)) 2)))) = false := beq_eq_false_iff_ne.mpr c629
                           have c629b1 : (t187 != (wrap64 (1 + (Int.tmod (wrap64 (a3 + a2)) 2)))) = true := bne_iff_ne.mpr c629
                           by_cases c657 : t187 = 0
                           ·refine box_ ?g17;letI i:type_of% ?g17:=⟨by
                            rw [if_pos c657] at H
                            have c657b0 : (t187 == 0) = true := beq_iff_eq.mpr c657
                            have c657b1 : (t187 != 0) = false := bne_eq_false_iff_eq.mpr c657
                            clear c657
                            obtain rfl := Option.some.inj H
                            have hcz664_0 := blkc6 BK138.out
                            go_wp2_with (first | ((with_reducible refine gate_dst (N := 25) rfl ?_); refine box_event ?hg (N := 25) ?hd (cs := #[.int .i64 0, .int .i64 0, .int .i64 0, .int .i64 0, .int .i64 0, .int .i64 0]) (t := 25) ?hr ?_; (case hd => rfl); (case hg => rfl); (case hr => first | (go_simp; done) | (go_simp; rfl)); intro gb186 hg w665 hbox hb; have BK186 := Aside0.mk (hbox); have GW186 := Aside0.mk (xZ HB hg); have GE186 := Aside0.mk (xZ HB hg); have NB138_186 := Aside0.mk (xN BK138 hg); have NB186_138 := Aside0.mk (xM BK138 hg); have NB147_186 := Aside0.mk (xN BK147 hg); have NB186_147 := Aside0.mk (xM BK147 hg); have NB155_186 := Aside0.mk (xN BK155 hg); have NB186_155 := Aside0.mk (xM BK155 hg); have NB163_186 := Aside0.mk (xN BK163 hg); have NB186_163 := Aside0.mk (xM BK163 hg); have NB171_186 := Aside0.mk (xN BK171 hg); have NB186_171 := Aside0.mk (xM BK171 hg); have NB179_186 := Aside0.mk (xN BK179 hg); have NB186_179 := Aside0.mk (xM BK179 hg); have NB180_186 := Aside0.mk (xN BK180 hg); have NB186_180 := Aside0.mk (xM BK180 hg); replace BK138 := Aside0.mk (xB BK138 hb); replace BK147 := Aside0.mk (xB BK147 hb); replace BK155 := Aside0.mk (xB BK155 hb); replace BK163 := Aside0.mk (xB BK163 hb); replace BK171 := Aside0.mk (xB BK171 hb); replace BK179 := Aside0.mk (xB BK179 hb); replace BK180 := Aside0.mk (xB BK180 hb); replace HB := Aside0.mk (xS HB hb); clear hb hbox hg; have hnb666 := xne NB186_138; have hnc666 := xne NB138_186; have hnb667 := xne NB186_147; have hnc667 := xne NB147_186; have hnb668 := xne NB186_155; have hnc668 := xne NB155_186; have hnb669 := xne NB186_163; have hnc669 := xne NB163_186; have hnb670 := xne NB186_171; have hnc670 := xne NB171_186; have hnb671 := xne NB186_179; have hnc671 := xne NB179_186; have hnb672 := xne NB186_180; have hnc672 := xne NB180_186; have hcz673_0 := blkc6 BK186.out; have hcz679_0 := blkc6 BK163.out) | ((with_reducible refine gate_callee (f := 11) rfl ?_); refine goesL_ (some 291) rfl rfl Try.func11 kr_ rfl #[.int .i64 (wrap64 (1 - a2)), .int .i64 a3] rfl (by (try simp only [List.map_toArray, List.map_cons, List.map_nil]); first | done | rfl | (simp only [List.length_drop, List.length_take]; rfl)) ?_; (with_reducible refine (offer_Plies.calls kj514 (wrap64 (1 - a2)) a3 t187 _ A598.out).mono ?_); rintro e w' ⟨rfl, ⟨nd, rfl⟩⟩; refine ⟨_, rfl, ?_⟩; have hcz684_0 := blkc6 BK155.out))
                            go_ret
                            exact ⟨xer, xW HB⟩⟩
                            exact inferInstanceAs _
                           ·refine box_ ?g18;letI i:type_of% ?g18:=⟨by
                            rw [if_neg c657] at H
                            have c657b0 : (t187 == 0) = false := beq_eq_false_iff_ne.mpr c657
                            have c657b1 : (t187 != 0) = true := bne_iff_ne.mpr c657
                            obtain rfl := Option.some.inj H
                            have hcz691_0 := blkc6 BK138.out
                            go_wp2_with (first | ((with_reducible refine gate_dst (N := 25) rfl ?_); refine box_event ?hg (N := 25) ?hd (cs := #[.int .i64 0, .int .i64 0, .int .i64 0, .int .i64 0, .int .i64 0, .int .i64 0]) (t := 25) ?hr ?_; (case hd => rfl); (case hg => rfl); (case hr => first | (go_simp; done) | (go_simp; rfl)); intro gb186 hg w692 hbox hb; have BK186 := Aside0.mk (hbox); have GW186 := Aside0.mk (xZ HB hg); have GE186 := Aside0.mk (xZ HB hg); have NB138_186 := Aside0.mk (xN BK138 hg); have NB186_138 := Aside0.mk (xM BK138 hg); have NB147_186 := Aside0.mk (xN BK147 hg); have NB186_147 := Aside0.mk (xM BK147 hg); have NB155_186 := Aside0.mk (xN BK155 hg); have NB186_155 := Aside0.mk (xM BK155 hg); have NB163_186 := Aside0.mk (xN BK163 hg); have NB186_163 := Aside0.mk (xM BK163 hg); have NB171_186 := Aside0.mk (xN BK171 hg); have NB186_171 := Aside0.mk (xM BK171 hg); have NB179_186 := Aside0.mk (xN BK179 hg); have NB186_179 := Aside0.mk (xM BK179 hg); have NB180_186 := Aside0.mk (xN BK180 hg); have NB186_180 := Aside0.mk (xM BK180 hg); replace BK138 := Aside0.mk (xB BK138 hb); replace BK147 := Aside0.mk (xB BK147 hb); replace BK155 := Aside0.mk (xB BK155 hb); replace BK163 := Aside0.mk (xB BK163 hb); replace BK171 := Aside0.mk (xB BK171 hb); replace BK179 := Aside0.mk (xB BK179 hb); replace BK180 := Aside0.mk (xB BK180 hb); replace HB := Aside0.mk (xS HB hb); clear hb hbox hg; have hnb693 := xne NB186_138; have hnc693 := xne NB138_186; have hnb694 := xne NB186_147; have hnc694 := xne NB147_186; have hnb695 := xne NB186_155; have hnc695 := xne NB155_186; have hnb696 := xne NB186_163; have hnc696 := xne NB163_186; have hnb697 := xne NB186_171; have hnc697 := xne NB171_186; have hnb698 := xne NB186_179; have hnc698 := xne NB179_186; have hnb699 := xne NB186_180; have hnc699 := xne NB180_186; have hcz700_0 := blkc6 BK186.out; have hcz706_0 := blkc6 BK163.out) | ((with_reducible refine gate_callee (f := 11) rfl ?_); refine goesL_ (some 291) rfl rfl Try.func11 kr_ rfl #[.int .i64 (wrap64 (1 - a2)), .int .i64 a3] rfl (by (try simp only [List.map_toArray, List.map_cons, List.map_nil]); first | done | rfl | (simp only [List.length_drop, List.length_take]; rfl)) ?_; (with_reducible refine (offer_Plies.calls kj514 (wrap64 (1 - a2)) a3 t187 _ A598.out).mono ?_); rintro e w' ⟨rfl, ⟨nd, rfl⟩⟩; refine ⟨_, rfl, ?_⟩; have hcz711_0 := blkc6 BK155.out))
                            go_ret
                            exact ⟨xer, xW HB⟩⟩
                            exact inferInstanceAs _⟩
                           exact inferInstanceAs _⟩
                          exact inferInstanceAs _⟩
                         exact inferInstanceAs _
                        ·refine box_ ?g19;letI i:type_of% ?g19:=⟨by
                         rw [if_neg c600] at H
                         have c600b0 : ((t148 == (-1) && (t149 == (-1))) && (((t150 == a0_2 && (t151 == a0_3)) && ((t152 == a0_4 && (t153 == a0_5)))))) = false := by simpa using c600
                         clear c600
                         obtain rfl := Option.some.inj H
                         have hcz718_0 := blkc6 BK138.out
                         go_wp2_with (first | ((with_reducible refine gate_dst (N := 25) rfl ?_); refine box_event ?hg (N := 25) ?hd (cs := #[.int .i64 0, .int .i64 0, .int .i64 0, .int .i64 0, .int .i64 0, .int .i64 0]) (t := 25) ?hr ?_; (case hd => rfl); (case hg => rfl); (case hr => first | (go_simp; done) | (go_simp; rfl)); intro gb186 hg w719 hbox hb; have BK186 := Aside0.mk (hbox); have GW186 := Aside0.mk (xZ HB hg); have GE186 := Aside0.mk (xZ HB hg); have NB138_186 := Aside0.mk (xN BK138 hg); have NB186_138 := Aside0.mk (xM BK138 hg); have NB147_186 := Aside0.mk (xN BK147 hg); have NB186_147 := Aside0.mk (xM BK147 hg); have NB155_186 := Aside0.mk (xN BK155 hg); have NB186_155 := Aside0.mk (xM BK155 hg); have NB163_186 := Aside0.mk (xN BK163 hg); have NB186_163 := Aside0.mk (xM BK163 hg); have NB171_186 := Aside0.mk (xN BK171 hg); have NB186_171 := Aside0.mk (xM BK171 hg); have NB179_186 := Aside0.mk (xN BK179 hg); have NB186_179 := Aside0.mk (xM BK179 hg); have NB180_186 := Aside0.mk (xN BK180 hg); have NB186_180 := Aside0.mk (xM BK180 hg); replace BK138 := Aside0.mk (xB BK138 hb); replace BK147 := Aside0.mk (xB BK147 hb); replace BK155 := Aside0.mk (xB BK155 hb); replace BK163 := Aside0.mk (xB BK163 hb); replace BK171 := Aside0.mk (xB BK171 hb); replace BK179 := Aside0.mk (xB BK179 hb); replace BK180 := Aside0.mk (xB BK180 hb); replace HB := Aside0.mk (xS HB hb); clear hb hbox hg; have hnb720 := xne NB186_138; have hnc720 := xne NB138_186; have hnb721 := xne NB186_147; have hnc721 := xne NB147_186; have hnb722 := xne NB186_155; have hnc722 := xne NB155_186; have hnb723 := xne NB186_163; have hnc723 := xne NB163_186; have hnb724 := xne NB186_171; have hnc724 := xne NB171_186; have hnb725 := xne NB186_179; have hnc725 := xne NB179_186; have hnb726 := xne NB186_180; have hnc726 := xne NB180_186; have hcz727_0 := blkc6 BK186.out; have hcz733_0 := blkc6 BK163.out) | ((with_reducible refine gate_callee (f := 11) rfl ?_); refine goesL_ (some 291) rfl rfl Try.func11 kr_ rfl #[.int .i64 (wrap64 (1 - a2)), .int .i64 a3] rfl (by (try simp only [List.map_toArray, List.map_cons, List.map_nil]); first | done | rfl | (simp only [List.length_drop, List.length_take]; rfl)) ?_; (with_reducible refine (offer_Plies.calls kj514 (wrap64 (1 - a2)) a3 t187 _ A598.out).mono ?_); rintro e w' ⟨rfl, ⟨nd, rfl⟩⟩; refine ⟨_, rfl, ?_⟩; have hcz738_0 := blkc6 BK155.out))
                         go_ret
                         exact ⟨xer, xW HB⟩⟩
                         exact inferInstanceAs _⟩
                        exact inferInstanceAs _
                       ·refine box_ ?g20;letI i:type_of% ?g20:=⟨by
                        rw [if_neg c599] at H
                        have c599b0 : (t154 == 0) = false := beq_eq_false_iff_ne.mpr c599
                        have c599b1 : (t154 != 0) = true := bne_iff_ne.mpr c599
                        obtain rfl := Option.some.inj H
                        have hcz745_0 := blkc6 BK138.out
                        go_wp2_with (first | ((with_reducible refine gate_dst (N := 25) rfl ?_); refine box_event ?hg (N := 25) ?hd (cs := #[.int .i64 0, .int .i64 0, .int .i64 0, .int .i64 0, .int .i64 0, .int .i64 0]) (t := 25) ?hr ?_; (case hd => rfl); (case hg => rfl); (case hr => first | (go_simp; done) | (go_simp; rfl)); intro gb186 hg w746 hbox hb; have BK186 := Aside0.mk (hbox); have GW186 := Aside0.mk (xZ HB hg); have GE186 := Aside0.mk (xZ HB hg); have NB138_186 := Aside0.mk (xN BK138 hg); have NB186_138 := Aside0.mk (xM BK138 hg); have NB147_186 := Aside0.mk (xN BK147 hg); have NB186_147 := Aside0.mk (xM BK147 hg); have NB155_186 := Aside0.mk (xN BK155 hg); have NB186_155 := Aside0.mk (xM BK155 hg); have NB163_186 := Aside0.mk (xN BK163 hg); have NB186_163 := Aside0.mk (xM BK163 hg); have NB171_186 := Aside0.mk (xN BK171 hg); have NB186_171 := Aside0.mk (xM BK171 hg); have NB179_186 := Aside0.mk (xN BK179 hg); have NB186_179 := Aside0.mk (xM BK179 hg); have NB180_186 := Aside0.mk (xN BK180 hg); have NB186_180 := Aside0.mk (xM BK180 hg); replace BK138 := Aside0.mk (xB BK138 hb); replace BK147 := Aside0.mk (xB BK147 hb); replace BK155 := Aside0.mk (xB BK155 hb); replace BK163 := Aside0.mk (xB BK163 hb); replace BK171 := Aside0.mk (xB BK171 hb); replace BK179 := Aside0.mk (xB BK179 hb); replace BK180 := Aside0.mk (xB BK180 hb); replace HB := Aside0.mk (xS HB hb); clear hb hbox hg; have hnb747 := xne NB186_138; have hnc747 := xne NB138_186; have hnb748 := xne NB186_147; have hnc748 := xne NB147_186; have hnb749 := xne NB186_155; have hnc749 := xne NB155_186; have hnb750 := xne NB186_163; have hnc750 := xne NB163_186; have hnb751 := xne NB186_171; have hnc751 := xne NB171_186; have hnb752 := xne NB186_179; have hnc752 := xne NB179_186; have hnb753 := xne NB186_180; have hnc753 := xne NB180_186; have hcz754_0 := blkc6 BK186.out; have hcz760_0 := blkc6 BK163.out) | ((with_reducible refine gate_callee (f := 11) rfl ?_); refine goesL_ (some 291) rfl rfl Try.func11 kr_ rfl #[.int .i64 (wrap64 (1 - a2)), .int .i64 a3] rfl (by (try simp only [List.map_toArray, List.map_cons, List.map_nil]); first | done | rfl | (simp only [List.length_drop, List.length_take]; rfl)) ?_; (with_reducible refine (offer_Plies.calls kj514 (wrap64 (1 - a2)) a3 t187 _ A598.out).mono ?_); rintro e w' ⟨rfl, ⟨nd, rfl⟩⟩; refine ⟨_, rfl, ?_⟩))
                        go_ret
                        exact ⟨xer, xW HB⟩⟩
                        exact inferInstanceAs _⟩
                       exact inferInstanceAs _⟩
                      exact inferInstanceAs _
                     ·refine box_ ?g21;letI i:type_of% ?g21:=⟨by
                      rw [if_neg c574] at H
                      have c574b0 : (t162 == 0) = false := beq_eq_false_iff_ne.mpr c574
                      have c574b1 : (t162 != 0) = true := bne_iff_ne.mpr c574
                      obtain rfl := Option.some.inj H
                      have hcz767_0 := blkc6 BK138.out
                      go_wp2_with (first | ((with_reducible refine gate_dst (N := 25) rfl ?_); refine box_event ?hg (N := 25) ?hd (cs := #[.int .i64 0, .int .i64 0, .int .i64 0, .int .i64 0, .int .i64 0, .int .i64 0]) (t := 25) ?hr ?_; (case hd => rfl); (case hg => rfl); (case hr => first | (go_simp; done) | (go_simp; rfl)); intro gb186 hg w768 hbox hb; have BK186 := Aside0.mk (hbox); have GW186 := Aside0.mk (xZ HB hg); have GE186 := Aside0.mk (xZ HB hg); have NB138_186 := Aside0.mk (xN BK138 hg); have NB186_138 := Aside0.mk (xM BK138 hg); have NB147_186 := Aside0.mk (xN BK147 hg); have NB186_147 := Aside0.mk (xM BK147 hg); have NB155_186 := Aside0.mk (xN BK155 hg); have NB186_155 := Aside0.mk (xM BK155 hg); have NB163_186 := Aside0.mk (xN BK163 hg); have NB186_163 := Aside0.mk (xM BK163 hg); have NB171_186 := Aside0.mk (xN BK171 hg); have NB186_171 := Aside0.mk (xM BK171 hg); have NB179_186 := Aside0.mk (xN BK179 hg); have NB186_179 := Aside0.mk (xM BK179 hg); have NB180_186 := Aside0.mk (xN BK180 hg); have NB186_180 := Aside0.mk (xM BK180 hg); replace BK138 := Aside0.mk (xB BK138 hb); replace BK147 := Aside0.mk (xB BK147 hb); replace BK155 := Aside0.mk (xB BK155 hb); replace BK163 := Aside0.mk (xB BK163 hb); replace BK171 := Aside0.mk (xB BK171 hb); replace BK179 := Aside0.mk (xB BK179 hb); replace BK180 := Aside0.mk (xB BK180 hb); replace HB := Aside0.mk (xS HB hb); clear hb hbox hg; have hnb769 := xne NB186_138; have hnc769 := xne NB138_186; have hnb770 := xne NB186_147; have hnc770 := xne NB147_186; have hnb771 := xne NB186_155; have hnc771 := xne NB155_186; have hnb772 := xne NB186_163; have hnc772 := xne NB163_186; have hnb773 := xne NB186_171; have hnc773 := xne NB171_186; have hnb774 := xne NB186_179; have hnc774 := xne NB179_186; have hnb775 := xne NB186_180; have hnc775 := xne NB180_186; have hcz776_0 := blkc6 BK186.out))
                      go_ret
                      exact ⟨xer, xW HB⟩⟩
                      exact inferInstanceAs _⟩
                     exact inferInstanceAs _
                    ·refine box_ ?g22;letI i:type_of% ?g22:=⟨by
                     rw [if_neg c572] at H
                     have c572b0 : (a1 == 0) = false := beq_eq_false_iff_ne.mpr c572
                     have c572b1 : (a1 != 0) = true := bne_iff_ne.mpr c572
                     obtain ⟨c777b, c777g, c777c, c777d⟩ := xar (a1 : Int) 1 1 2
                     by_cases c778 : t162 = 0
                     ·refine box_ ?g23;letI i:type_of% ?g23:=⟨by
                      rw [if_pos c778] at H
                      have c778b0 : (t162 == 0) = true := beq_iff_eq.mpr c778
                      have c778b1 : (t162 != 0) = false := bne_eq_false_iff_eq.mpr c778
                      clear c778
                      by_cases c779 : ((!(t156 == a0_0) || (!(t157 == (-1)))) || (((!(t158 == a0_2) || (!(t159 == a0_3))) || ((!(t160 == a0_4) || (!(t161 == a0_5))))))) = true
                      ·refine box_ ?g24;letI i:type_of% ?g24:=⟨by
                       rw [if_pos c779] at H
                       have c779b0 : ((!(t156 == a0_0) || (!(t157 == (-1)))) || (((!(t158 == a0_2) || (!(t159 == a0_3))) || ((!(t160 == a0_4) || (!(t161 == a0_5))))))) = true := c779
                       clear c779
                       obtain rfl := Option.some.inj H
                       have hcz786_0 := blkc6 BK138.out
                       go_wp2_with (first | ((with_reducible refine gate_dst (N := 25) rfl ?_); refine box_event ?hg (N := 25) ?hd (cs := #[.int .i64 0, .int .i64 0, .int .i64 0, .int .i64 0, .int .i64 0, .int .i64 0]) (t := 25) ?hr ?_; (case hd => rfl); (case hg => rfl); (case hr => first | (go_simp; done) | (go_simp; rfl)); intro gb186 hg w787 hbox hb; have BK186 := Aside0.mk (hbox); have GW186 := Aside0.mk (xZ HB hg); have GE186 := Aside0.mk (xZ HB hg); have NB138_186 := Aside0.mk (xN BK138 hg); have NB186_138 := Aside0.mk (xM BK138 hg); have NB147_186 := Aside0.mk (xN BK147 hg); have NB186_147 := Aside0.mk (xM BK147 hg); have NB155_186 := Aside0.mk (xN BK155 hg); have NB186_155 := Aside0.mk (xM BK155 hg); have NB163_186 := Aside0.mk (xN BK163 hg); have NB186_163 := Aside0.mk (xM BK163 hg); have NB171_186 := Aside0.mk (xN BK171 hg); have NB186_171 := Aside0.mk (xM BK171 hg); have NB179_186 := Aside0.mk (xN BK179 hg); have NB186_179 := Aside0.mk (xM BK179 hg); have NB180_186 := Aside0.mk (xN BK180 hg); have NB186_180 := Aside0.mk (xM BK180 hg); replace BK138 := Aside0.mk (xB BK138 hb); replace BK147 := Aside0.mk (xB BK147 hb); replace BK155 := Aside0.mk (xB BK155 hb); replace BK163 := Aside0.mk (xB BK163 hb); replace BK171 := Aside0.mk (xB BK171 hb); replace BK179 := Aside0.mk (xB BK179 hb); replace BK180 := Aside0.mk (xB BK180 hb); replace HB := Aside0.mk (xS HB hb); clear hb hbox hg; have hnb788 := xne NB186_138; have hnc788 := xne NB138_186; have hnb789 := xne NB186_147; have hnc789 := xne NB147_186; have hnb790 := xne NB186_155; have hnc790 := xne NB155_186; have hnb791 := xne NB186_163; have hnc791 := xne NB163_186; have hnb792 := xne NB186_171; have hnc792 := xne NB171_186; have hnb793 := xne NB186_179; have hnc793 := xne NB179_186; have hnb794 := xne NB186_180; have hnc794 := xne NB180_186; have hcz795_0 := blkc6 BK186.out; have hcz801_0 := blkc6 BK163.out))
                       go_ret
                       exact ⟨xer, xW HB⟩⟩
                       exact inferInstanceAs _
                      ·refine box_ ?g25;letI i:type_of% ?g25:=⟨by
                       rw [if_neg c779] at H
                       have c779b0 : ((!(t156 == a0_0) || (!(t157 == (-1)))) || (((!(t158 == a0_2) || (!(t159 == a0_3))) || ((!(t160 == a0_4) || (!(t161 == a0_5))))))) = false := by simpa using c779
                       clear c779; replace H := Option.bind_eq_some_iff.mp H
                       obtain ⟨t188, A8020, H⟩ := H
                       try dsimp only at H
                       have A802 := Aside0.mk A8020; clear A8020
                       by_cases c803 : t154 = 0
                       ·refine box_ ?g26;letI i:type_of% ?g26:=⟨by
                        rw [if_pos c803] at H
                        have c803b0 : (t154 == 0) = true := beq_iff_eq.mpr c803
                        have c803b1 : (t154 != 0) = false := bne_eq_false_iff_eq.mpr c803
                        clear c803
                        by_cases c804 : ((t148 == (-1) && (t149 == (-1))) && (((t150 == a0_2 && (t151 == a0_3)) && ((t152 == a0_4 && (t153 == a0_5)))))) = true
                        ·refine box_ ?g27;letI i:type_of% ?g27:=⟨by
                         rw [if_pos c804] at H
                         have c804b0 : ((t148 == (-1) && (t149 == (-1))) && (((t150 == a0_2 && (t151 == a0_3)) && ((t152 == a0_4 && (t153 == a0_5)))))) = true := c804
                         clear c804
                         by_cases c805 : a3 = 0
                         ·refine box_ ?g28;letI i:type_of% ?g28:=⟨by
                          rw [if_pos c805] at H
                          have c805b0 : (a3 == 0) = true := beq_iff_eq.mpr c805
                          have c805b1 : (a3 != 0) = false := bne_eq_false_iff_eq.mpr c805
                          clear c805
                          obtain rfl := Option.some.inj H
                          have hcz812_0 := blkc6 BK138.out
                          go_wp2_with (first | ((with_reducible refine gate_dst (N := 25) rfl ?_); refine box_event ?hg (N := 25) ?hd (cs := #[.int .i64 0, .int .i64 0, .int .i64 0, .int .i64 0, .int .i64 0, .int .i64 0]) (t := 25) ?hr ?_; (case hd => rfl); (case hg => rfl); (case hr => first | (go_simp; done) | (go_simp; rfl)); intro gb186 hg w813 hbox hb; have BK186 := Aside0.mk (hbox); have GW186 := Aside0.mk (xZ HB hg); have GE186 := Aside0.mk (xZ HB hg); have NB138_186 := Aside0.mk (xN BK138 hg); have NB186_138 := Aside0.mk (xM BK138 hg); have NB147_186 := Aside0.mk (xN BK147 hg); have NB186_147 := Aside0.mk (xM BK147 hg); have NB155_186 := Aside0.mk (xN BK155 hg); have NB186_155 := Aside0.mk (xM BK155 hg); have NB163_186 := Aside0.mk (xN BK163 hg); have NB186_163 := Aside0.mk (xM BK163 hg); have NB171_186 := Aside0.mk (xN BK171 hg); have NB186_171 := Aside0.mk (xM BK171 hg); have NB179_186 := Aside0.mk (xN BK179 hg); have NB186_179 := Aside0.mk (xM BK179 hg); have NB180_186 := Aside0.mk (xN BK180 hg); have NB186_180 := Aside0.mk (xM BK180 hg); replace BK138 := Aside0.mk (xB BK138 hb); replace BK147 := Aside0.mk (xB BK147 hb); replace BK155 := Aside0.mk (xB BK155 hb); replace BK163 := Aside0.mk (xB BK163 hb); replace BK171 := Aside0.mk (xB BK171 hb); replace BK179 := Aside0.mk (xB BK179 hb); replace BK180 := Aside0.mk (xB BK180 hb); replace HB := Aside0.mk (xS HB hb); clear hb hbox hg; have hnb814 := xne NB186_138; have hnc814 := xne NB138_186; have hnb815 := xne NB186_147; have hnc815 := xne NB147_186; have hnb816 := xne NB186_155; have hnc816 := xne NB155_186; have hnb817 := xne NB186_163; have hnc817 := xne NB163_186; have hnb818 := xne NB186_171; have hnc818 := xne NB171_186; have hnb819 := xne NB186_179; have hnc819 := xne NB179_186; have hnb820 := xne NB186_180; have hnc820 := xne NB180_186; have hcz821_0 := blkc6 BK186.out; have hcz827_0 := blkc6 BK163.out) | ((with_reducible refine gate_callee (f := 11) rfl ?_); refine goesL_ (some 291) rfl rfl Try.func11 kr_ rfl #[.int .i64 (wrap64 (1 - a2)), .int .i64 a3] rfl (by (try simp only [List.map_toArray, List.map_cons, List.map_nil]); first | done | rfl | (simp only [List.length_drop, List.length_take]; rfl)) ?_; (with_reducible refine (offer_Plies.calls kj514 (wrap64 (1 - a2)) a3 t188 _ A802.out).mono ?_); rintro e w' ⟨rfl, ⟨nd, rfl⟩⟩; refine ⟨_, rfl, ?_⟩; have hcz832_0 := blkc6 BK155.out))
                          go_ret
                          exact ⟨xer, xW HB⟩⟩
                          exact inferInstanceAs _
                         ·refine box_ ?g29;letI i:type_of% ?g29:=⟨by
                          rw [if_neg c805] at H
                          have c805b0 : (a3 == 0) = false := beq_eq_false_iff_ne.mpr c805
                          have c805b1 : (a3 != 0) = true := bne_iff_ne.mpr c805
                          by_cases c833 : t188 = (wrap64 (1 + (Int.tmod (wrap64 (a3 + a2)) 2)))
                          ·refine box_ ?g30;letI i:type_of% ?g30:=⟨by
                           rw [if_pos c833] at H
                           have c833b0 : (t188 == (wrap64 (1 + (Int.tmod (wrap64 (a3 + a2)) 2)))) = true := beq_iff_eq.mpr c833
                           have c833b1 : (t188 != (wrap64 (1 + (Int.tmod (wrap64 (a3 + a2)) 2)))) = false := bne_eq_false_iff_eq.mpr c833
                           clear c833
                           obtain rfl := Option.some.inj H
                           have hcz840_0 := blkc6 BK138.out
                           go_wp2_with (first | ((with_reducible refine gate_dst (N := 25) rfl ?_); refine box_event ?hg (N := 25) ?hd (cs := #[.int .i64 0, .int .i64 0, .int .i64 0, .int .i64 0, .int .i64 0, .int .i64 0]) (t := 25) ?hr ?_; (case hd => rfl); (case hg => rfl); (case hr => first | (go_simp; done) | (go_simp; rfl)); intro gb186 hg w841 hbox hb; have BK186 := Aside0.mk (hbox); have GW186 := Aside0.mk (xZ HB hg); have GE186 := Aside0.mk (xZ HB hg); have NB138_186 := Aside0.mk (xN BK138 hg); have NB186_138 := Aside0.mk (xM BK138 hg); have NB147_186 := Aside0.mk (xN BK147 hg); have NB186_147 := Aside0.mk (xM BK147 hg); have NB155_186 := Aside0.mk (xN BK155 hg); have NB186_155 := Aside0.mk (xM BK155 hg); have NB163_186 := Aside0.mk (xN BK163 hg); have NB186_163 := Aside0.mk (xM BK163 hg); have NB171_186 := Aside0.mk (xN BK171 hg); have NB186_171 := Aside0.mk (xM BK171 hg); have NB179_186 := Aside0.mk (xN BK179 hg); have NB186_179 := Aside0.mk (xM BK179 hg); have NB180_186 := Aside0.mk (xN BK180 hg); have NB186_180 := Aside0.mk (xM BK180 hg); replace BK138 := Aside0.mk (xB BK138 hb); replace BK147 := Aside0.mk (xB BK147 hb); replace BK155 := Aside0.mk (xB BK155 hb); replace BK163 := Aside0.mk (xB BK163 hb); replace BK171 := Aside0.mk (xB BK171 hb); replace BK179 := Aside0.mk (xB BK179 hb); replace BK180 := Aside0.mk (xB BK180 hb); replace HB := Aside0.mk (xS HB hb); clear hb hbox hg; have hnb842 := xne NB186_138; have hnc842 := xne NB138_186; have hnb843 := xne NB186_147; have hnc843 := xne NB147_186; have hnb844 := xne NB186_155; have hnc844 := xne NB155_186; have hnb845 := xne NB186_163; have hnc845 := xne NB163_186; have hnb846 := xne NB186_171; have hnc846 := xne NB171_186; have hnb847 := xne NB186_179; have hnc847 := xne NB179_186; have hnb848 := xne NB186_180; have hnc848 := xne NB180_186; have hcz849_0 := blkc6 BK186.out; have hcz855_0 := blkc6 BK163.out) | ((with_reducible refine gate_callee (f := 11) rfl ?_); refine goesL_ (some 291) rfl rfl Try.func11 kr_ rfl #[.int .i64 (wrap64 (1 - a2)), .int .i64 a3] rfl (by (try simp only [List.map_toArray, List.map_cons, List.map_nil]); first | done | rfl | (simp only [List.length_drop, List.length_take]; rfl)) ?_; (with_reducible refine (offer_Plies.calls kj514 (wrap64 (1 - a2)) a3 t188 _ A802.out).mono ?_); rintro e w' ⟨rfl, ⟨nd, rfl⟩⟩; refine ⟨_, rfl, ?_⟩; have hcz860_0 := blkc6 BK155.out))
                           go_ret
                           exact ⟨xer, xW HB⟩⟩
                           exact inferInstanceAs _
                          ·refine box_ ?g31;letI i:type_of% ?g31:=⟨by
                           rw [if_neg c833] at H
                           have c833b0 : (t188 == (wrap64 (1 + (Int.tmod (wrap64 (a3 + a2)) 2)))) = false := beq_eq_false_iff_ne.mpr c833
                           have c833b1 : (t188 != (wrap64 (1 + (Int.tmod (wrap64 (a3 + a2)) 2)))) = true := bne_iff_ne.mpr c833
                           by_cases c861 : t188 = 0
                           ·refine box_ ?g32;letI i:type_of% ?g32:=⟨by
                            rw [if_pos c861] at H
                            have c861b0 : (t188 == 0) = true := beq_iff_eq.mpr c861
                            have c861b1 : (t188 != 0) = false := bne_eq_false_iff_eq.mpr c861
                            clear c861
                            obtain rfl := Option.some.inj H
                            have hcz868_0 := blkc6 BK138.out
                            go_wp2_with (first | ((with_reducible refine gate_dst (N := 25) rfl ?_); refine box_event ?hg (N := 25) ?hd (cs := #[.int .i64 0, .int .i64 0, .int .i64 0, .int .i64 0, .int .i64 0, .int .i64 0]) (t := 25) ?hr ?_; (case hd => rfl); (case hg => rfl); (case hr => first | (go_simp; done) | (go_simp; rfl)); intro gb186 hg w869 hbox hb; have BK186 := Aside0.mk (hbox); have GW186 := Aside0.mk (xZ HB hg); have GE186 := Aside0.mk (xZ HB hg); have NB138_186 := Aside0.mk (xN BK138 hg); have NB186_138 := Aside0.mk (xM BK138 hg); have NB147_186 := Aside0.mk (xN BK147 hg); have NB186_147 := Aside0.mk (xM BK147 hg); have NB155_186 := Aside0.mk (xN BK155 hg); have NB186_155 := Aside0.mk (xM BK155 hg); have NB163_186 := Aside0.mk (xN BK163 hg); have NB186_163 := Aside0.mk (xM BK163 hg); have NB171_186 := Aside0.mk (xN BK171 hg); have NB186_171 := Aside0.mk (xM BK171 hg); have NB179_186 := Aside0.mk (xN BK179 hg); have NB186_179 := Aside0.mk (xM BK179 hg); have NB180_186 := Aside0.mk (xN BK180 hg); have NB186_180 := Aside0.mk (xM BK180 hg); replace BK138 := Aside0.mk (xB BK138 hb); replace BK147 := Aside0.mk (xB BK147 hb); replace BK155 := Aside0.mk (xB BK155 hb); replace BK163 := Aside0.mk (xB BK163 hb); replace BK171 := Aside0.mk (xB BK171 hb); replace BK179 := Aside0.mk (xB BK179 hb); replace BK180 := Aside0.mk (xB BK180 hb); replace HB := Aside0.mk (xS HB hb); clear hb hbox hg; have hnb870 := xne NB186_138; have hnc870 := xne NB138_186; have hnb871 := xne NB186_147; have hnc871 := xne NB147_186; have hnb872 := xne NB186_155; have hnc872 := xne NB155_186; have hnb873 := xne NB186_163; have hnc873 := xne NB163_186; have hnb874 := xne NB186_171; have hnc874 := xne NB171_186; have hnb875 := xne NB186_179; have hnc875 := xne NB179_186; have hnb876 := xne NB186_180; have hnc876 := xne NB180_186; have hcz877_0 := blkc6 BK186.out; have hcz883_0 := blkc6 BK163.out) | ((with_reducible refine gate_callee (f := 11) rfl ?_); refine goesL_ (some 291) rfl rfl Try.func11 kr_ rfl #[.int .i64 (wrap64 (1 - a2)), .int .i64 a3] rfl (by (try simp only [List.map_toArray, List.map_cons, List.map_nil]); first | done | rfl | (simp only [List.length_drop, List.length_take]; rfl)) ?_; (with_reducible refine (offer_Plies.calls kj514 (wrap64 (1 - a2)) a3 t188 _ A802.out).mono ?_); rintro e w' ⟨rfl, ⟨nd, rfl⟩⟩; refine ⟨_, rfl, ?_⟩; have hcz888_0 := blkc6 BK155.out))
                            go_ret
                            exact ⟨xer, xW HB⟩⟩
                            exact inferInstanceAs _
                           ·refine box_ ?g33;letI i:type_of% ?g33:=⟨by
                            rw [if_neg c861] at H
                            have c861b0 : (t188 == 0) = false := beq_eq_false_iff_ne.mpr c861
                            have c861b1 : (t188 != 0) = true := bne_iff_ne.mpr c861
                            obtain rfl := Option.some.inj H
                            have hcz895_0 := blkc6 BK138.out
                            go_wp2_with (first | ((with_reducible refine gate_dst (N := 25) rfl ?_); refine box_event ?hg (N := 25) ?hd (cs := #[.int .i64 0, .int .i64 0, .int .i64 0, .int .i64 0, .int .i64 0, .int .i64 0]) (t := 25) ?hr ?_; (case hd => rfl); (case hg => rfl); (case hr => first | (go_simp; done) | (go_simp; rfl)); intro gb186 hg w896 hbox hb; have BK186 := Aside0.mk (hbox); have GW186 := Aside0.mk (xZ HB hg); have GE186 := Aside0.mk (xZ HB hg); have NB138_186 := Aside0.mk (xN BK138 hg); have NB186_138 := Aside0.mk (xM BK138 hg); have NB147_186 := Aside0.mk (xN BK147 hg); have NB186_147 := Aside0.mk (xM BK147 hg); have NB155_186 := Aside0.mk (xN BK155 hg); have NB186_155 := Aside0.mk (xM BK155 hg); have NB163_186 := Aside0.mk (xN BK163 hg); have NB186_163 := Aside0.mk (xM BK163 hg); have NB171_186 := Aside0.mk (xN BK171 hg); have NB186_171 := Aside0.mk (xM BK171 hg); have NB179_186 := Aside0.mk (xN BK179 hg); have NB186_179 := Aside0.mk (xM BK179 hg); have NB180_186 := Aside0.mk (xN BK180 hg); have NB186_180 := Aside0.mk (xM BK180 hg); replace BK138 := Aside0.mk (xB BK138 hb); replace BK147 := Aside0.mk (xB BK147 hb); replace BK155 := Aside0.mk (xB BK155 hb); replace BK163 := Aside0.mk (xB BK163 hb); replace BK171 := Aside0.mk (xB BK171 hb); replace BK179 := Aside0.mk (xB BK179 hb); replace BK180 := Aside0.mk (xB BK180 hb); replace HB := Aside0.mk (xS HB hb); clear hb hbox hg; have hnb897 := xne NB186_138; have hnc897 := xne NB138_186; have hnb898 := xne NB186_147; have hnc898 := xne NB147_186; have hnb899 := xne NB186_155; have hnc899 := xne NB155_186; have hnb900 := xne NB186_163; have hnc900 := xne NB163_186; have hnb901 := xne NB186_171; have hnc901 := xne NB171_186; have hnb902 := xne NB186_179; have hnc902 := xne NB179_186; have hnb903 := xne NB186_180; have hnc903 := xne NB180_186; have hcz904_0 := blkc6 BK186.out; have hcz910_0 := blkc6 BK163.out) | ((with_reducible refine gate_callee (f := 11) rfl ?_); refine goesL_ (some 291) rfl rfl Try.func11 kr_ rfl #[.int .i64 (wrap64 (1 - a2)), .int .i64 a3] rfl (by (try simp only [List.map_toArray, List.map_cons, List.map_nil]); first | done | rfl | (simp only [List.length_drop, List.length_take]; rfl)) ?_; (with_reducible refine (offer_Plies.calls kj514 (wrap64 (1 - a2)) a3 t188 _ A802.out).mono ?_); rintro e w' ⟨rfl, ⟨nd, rfl⟩⟩; refine ⟨_, rfl, ?_⟩; have hcz915_0 := blkc6 BK155.out))
                            go_ret
                            exact ⟨xer, xW HB⟩⟩
                            exact inferInstanceAs _⟩
                           exact inferInstanceAs _⟩
                          exact inferInstanceAs _⟩
                         exact inferInstanceAs _
                        ·refine box_ ?g34;letI i:type_of% ?g34:=⟨by
                         rw [if_neg c804] at H
                         have c804b0 : ((t148 == (-1) && (t149 == (-1))) && (((t150 == a0_2 && (t151 == a0_3)) && ((t152 == a0_4 && (t153 == a0_5)))))) = false := by simpa using c804
                         clear c804
                         obtain rfl := Option.some.inj H
                         have hcz922_0 := blkc6 BK138.out
                         go_wp2_with (first | ((with_reducible refine gate_dst (N := 25) rfl ?_); refine box_event ?hg (N := 25) ?hd (cs := #[.int .i64 0, .int .i64 0, .int .i64 0, .int .i64 0, .int .i64 0, .int .i64 0]) (t := 25) ?hr ?_; (case hd => rfl); (case hg => rfl); (case hr => first | (go_simp; done) | (go_simp; rfl)); intro gb186 hg w923 hbox hb; have BK186 := Aside0.mk (hbox); have GW186 := Aside0.mk (xZ HB hg); have GE186 := Aside0.mk (xZ HB hg); have NB138_186 := Aside0.mk (xN BK138 hg); have NB186_138 := Aside0.mk (xM BK138 hg); have NB147_186 := Aside0.mk (xN BK147 hg); have NB186_147 := Aside0.mk (xM BK147 hg); have NB155_186 := Aside0.mk (xN BK155 hg); have NB186_155 := Aside0.mk (xM BK155 hg); have NB163_186 := Aside0.mk (xN BK163 hg); have NB186_163 := Aside0.mk (xM BK163 hg); have NB171_186 := Aside0.mk (xN BK171 hg); have NB186_171 := Aside0.mk (xM BK171 hg); have NB179_186 := Aside0.mk (xN BK179 hg); have NB186_179 := Aside0.mk (xM BK179 hg); have NB180_186 := Aside0.mk (xN BK180 hg); have NB186_180 := Aside0.mk (xM BK180 hg); replace BK138 := Aside0.mk (xB BK138 hb); replace BK147 := Aside0.mk (xB BK147 hb); replace BK155 := Aside0.mk (xB BK155 hb); replace BK163 := Aside0.mk (xB BK163 hb); replace BK171 := Aside0.mk (xB BK171 hb); replace BK179 := Aside0.mk (xB BK179 hb); replace BK180 := Aside0.mk (xB BK180 hb); replace HB := Aside0.mk (xS HB hb); clear hb hbox hg; have hnb924 := xne NB186_138; have hnc924 := xne NB138_186; have hnb925 := xne NB186_147; have hnc925 := xne NB147_186; have hnb926 := xne NB186_155; have hnc926 := xne NB155_186; have hnb927 := xne NB186_163; have hnc927 := xne NB163_186; have hnb928 := xne NB186_171; have hnc928 := xne NB171_186; have hnb929 := xne NB186_179; have hnc929 := xne NB179_186; have hnb930 := xne NB186_180; have hnc930 := xne NB180_186; have hcz931_0 := blkc6 BK186.out; have hcz937_0 := blkc6 BK163.out) | ((with_reducible refine gate_callee (f := 11) rfl ?_); refine goesL_ (some 291) rfl rfl Try.func11 kr_ rfl #[.int .i64 (wrap64 (1 - a2)), .int .i64 a3] rfl (by (try simp only [List.map_toArray, List.map_cons, List.map_nil]); first | done | rfl | (simp only [List.length_drop, List.length_take]; rfl)) ?_; (with_reducible refine (offer_Plies.calls kj514 (wrap64 (1 - a2)) a3 t188 _ A802.out).mono ?_); rintro e w' ⟨rfl, ⟨nd, rfl⟩⟩; refine ⟨_, rfl, ?_⟩; have hcz942_0 := blkc6 BK155.out))
                         go_ret
                         exact ⟨xer, xW HB⟩⟩
                         exact inferInstanceAs _⟩
                        exact inferInstanceAs _
                       ·refine box_ ?g35;letI i:type_of% ?g35:=⟨by
                        rw [if_neg c803] at H
                        have c803b0 : (t154 == 0) = false := beq_eq_false_iff_ne.mpr c803
                        have c803b1 : (t154 != 0) = true := bne_iff_ne.mpr c803
                        obtain rfl := Option.some.inj H
                        have hcz949_0 := blkc6 BK138.out
                        go_wp2_with (first | ((with_reducible refine gate_dst (N := 25) rfl ?_); refine box_event ?hg (N := 25) ?hd (cs := #[.int .i64 0, .int .i64 0, .int .i64 0, .int .i64 0, .int .i64 0, .int .i64 0]) (t := 25) ?hr ?_; (case hd => rfl); (case hg => rfl); (case hr => first | (go_simp; done) | (go_simp; rfl)); intro gb186 hg w950 hbox hb; have BK186 := Aside0.mk (hbox); have GW186 := Aside0.mk (xZ HB hg); have GE186 := Aside0.mk (xZ HB hg); have NB138_186 := Aside0.mk (xN BK138 hg); have NB186_138 := Aside0.mk (xM BK138 hg); have NB147_186 := Aside0.mk (xN BK147 hg); have NB186_147 := Aside0.mk (xM BK147 hg); have NB155_186 := Aside0.mk (xN BK155 hg); have NB186_155 := Aside0.mk (xM BK155 hg); have NB163_186 := Aside0.mk (xN BK163 hg); have NB186_163 := Aside0.mk (xM BK163 hg); have NB171_186 := Aside0.mk (xN BK171 hg); have NB186_171 := Aside0.mk (xM BK171 hg); have NB179_186 := Aside0.mk (xN BK179 hg); have NB186_179 := Aside0.mk (xM BK179 hg); have NB180_186 := Aside0.mk (xN BK180 hg); have NB186_180 := Aside0.mk (xM BK180 hg); replace BK138 := Aside0.mk (xB BK138 hb); replace BK147 := Aside0.mk (xB BK147 hb); replace BK155 := Aside0.mk (xB BK155 hb); replace BK163 := Aside0.mk (xB BK163 hb); replace BK171 := Aside0.mk (xB BK171 hb); replace BK179 := Aside0.mk (xB BK179 hb); replace BK180 := Aside0.mk (xB BK180 hb); replace HB := Aside0.mk (xS HB hb); clear hb hbox hg; have hnb951 := xne NB186_138; have hnc951 := xne NB138_186; have hnb952 := xne NB186_147; have hnc952 := xne NB147_186; have hnb953 := xne NB186_155; have hnc953 := xne NB155_186; have hnb954 := xne NB186_163; have hnc954 := xne NB163_186; have hnb955 := xne NB186_171; have hnc955 := xne NB171_186; have hnb956 := xne NB186_179; have hnc956 := xne NB179_186; have hnb957 := xne NB186_180; have hnc957 := xne NB180_186; have hcz958_0 := blkc6 BK186.out; have hcz964_0 := blkc6 BK163.out) | ((with_reducible refine gate_callee (f := 11) rfl ?_); refine goesL_ (some 291) rfl rfl Try.func11 kr_ rfl #[.int .i64 (wrap64 (1 - a2)), .int .i64 a3] rfl (by (try simp only [List.map_toArray, List.map_cons, List.map_nil]); first | done | rfl | (simp only [List.length_drop, List.length_take]; rfl)) ?_; (with_reducible refine (offer_Plies.calls kj514 (wrap64 (1 - a2)) a3 t188 _ A802.out).mono ?_); rintro e w' ⟨rfl, ⟨nd, rfl⟩⟩; refine ⟨_, rfl, ?_⟩))
                        go_ret
                        exact ⟨xer, xW HB⟩⟩
                        exact inferInstanceAs _⟩
                       exact inferInstanceAs _⟩
                      exact inferInstanceAs _
                     ·refine box_ ?g36;letI i:type_of% ?g36:=⟨by
                      rw [if_neg c778] at H
                      have c778b0 : (t162 == 0) = false := beq_eq_false_iff_ne.mpr c778
                      have c778b1 : (t162 != 0) = true := bne_iff_ne.mpr c778
                      obtain rfl := Option.some.inj H
                      have hcz971_0 := blkc6 BK138.out
                      go_wp2_with (first | ((with_reducible refine gate_dst (N := 25) rfl ?_); refine box_event ?hg (N := 25) ?hd (cs := #[.int .i64 0, .int .i64 0, .int .i64 0, .int .i64 0, .int .i64 0, .int .i64 0]) (t := 25) ?hr ?_; (case hd => rfl); (case hg => rfl); (case hr => first | (go_simp; done) | (go_simp; rfl)); intro gb186 hg w972 hbox hb; have BK186 := Aside0.mk (hbox); have GW186 := Aside0.mk (xZ HB hg); have GE186 := Aside0.mk (xZ HB hg); have NB138_186 := Aside0.mk (xN BK138 hg); have NB186_138 := Aside0.mk (xM BK138 hg); have NB147_186 := Aside0.mk (xN BK147 hg); have NB186_147 := Aside0.mk (xM BK147 hg); have NB155_186 := Aside0.mk (xN BK155 hg); have NB186_155 := Aside0.mk (xM BK155 hg); have NB163_186 := Aside0.mk (xN BK163 hg); have NB186_163 := Aside0.mk (xM BK163 hg); have NB171_186 := Aside0.mk (xN BK171 hg); have NB186_171 := Aside0.mk (xM BK171 hg); have NB179_186 := Aside0.mk (xN BK179 hg); have NB186_179 := Aside0.mk (xM BK179 hg); have NB180_186 := Aside0.mk (xN BK180 hg); have NB186_180 := Aside0.mk (xM BK180 hg); replace BK138 := Aside0.mk (xB BK138 hb); replace BK147 := Aside0.mk (xB BK147 hb); replace BK155 := Aside0.mk (xB BK155 hb); replace BK163 := Aside0.mk (xB BK163 hb); replace BK171 := Aside0.mk (xB BK171 hb); replace BK179 := Aside0.mk (xB BK179 hb); replace BK180 := Aside0.mk (xB BK180 hb); replace HB := Aside0.mk (xS HB hb); clear hb hbox hg; have hnb973 := xne NB186_138; have hnc973 := xne NB138_186; have hnb974 := xne NB186_147; have hnc974 := xne NB147_186; have hnb975 := xne NB186_155; have hnc975 := xne NB155_186; have hnb976 := xne NB186_163; have hnc976 := xne NB163_186; have hnb977 := xne NB186_171; have hnc977 := xne NB171_186; have hnb978 := xne NB186_179; have hnc978 := xne NB179_186; have hnb979 := xne NB186_180; have hnc979 := xne NB180_186; have hcz980_0 := blkc6 BK186.out))
                      go_ret
                      exact ⟨xer, xW HB⟩⟩
                      exact inferInstanceAs _⟩
                     exact inferInstanceAs _⟩
                    exact inferInstanceAs _
                   ·rw [if_neg c571] at H
                    exact absurd H (by simp)⟩
                   exact inferInstanceAs _
                  ·rw [if_neg c570] at H
                   exact absurd H (by simp)
theorem gamehalllaw3_OfferSays.calls : ∀ (k : Nat) (a0_0 : Int) (a0_1 : Int) (a0_2 : Int) (a0_3 : Int) (a0_4 : Int) (a0_5 : Int) (a1 : Int) (a2 : Int) (a3 : Int) (r : Bool) (w : World) (h : gamehalllaw3_OfferSays.f k a0_0 a0_1 a0_2 a0_3 a0_4 a0_5 a1 a2 a3 = some r), Calls Try.prog 3 #[.agg #[.int .i64 a0_0, .int .i64 a0_1, .int .i64 a0_2, .int .i64 a0_3, .int .i64 a0_4, .int .i64 a0_5], .int .i64 a1, .int .i64 a2, .int .i64 a3] w fun e w' => e = .returned (.bool r) ∧ Below w.heap.size w w' := (gamehalllaw3_OfferSays_rest0.2 (gamehalllaw3_OfferSays_rest1.2 (gamehalllaw3_OfferSays_rest2.2 (gamehalllaw3_OfferSays_rest3.2 (gamehalllaw3_OfferSays_rest4.2 (gamehalllaw3_OfferSays_rest5.2 gamehalllaw3_OfferSays_restLast))))))
def wf22 (x : S22) : Prop := ((Lit.int .i64 x.f0).wf = true) ∧ (((Lit.int .i64 x.f1).wf = true))
theorem tells22 {W : World} : Tells Try.prog W 22 k22 wf22 := tells_iso (fun a => ⟨a.1, a.2⟩) (fun _ => rfl) (fun _ h => h) (tells_array (c := 1) (l := [(3, 0), (3, 1)]) Try.underlying22 kr_ kr_ (tellsFs_cons (tells_int Try.underlying3) kr_ (tellsFs_one (tells_int Try.underlying3) kr_)) kr_)
def wf23 (x : S23) : Prop := (wf22 x.f0) ∧ ((wf22 x.f1))
theorem tells23 {W : World} : Tells Try.prog W 23 k23 wf23 := tells_iso (fun a => ⟨a.1, a.2⟩) (fun _ => rfl) (fun _ h => h) (tells_array (c := 2) (l := [(22, 0), (22, 2)]) Try.underlying23 kr_ kr_ (tellsFs_cons tells22 kr_ (tellsFs_one tells22 kr_)) kr_)
def wf25 (x : S25) : Prop := (wf22 x.f0) ∧ ((wf23 x.f1))
theorem tells25 {W : World} : Tells Try.prog W 25 k25 wf25 := tells_iso (fun a => ⟨a.1, a.2⟩) (fun _ => rfl) (fun _ h => h) (tells_struct (l := [(22, 0), (23, 2)]) Try.underlying25 kr_ (tellsFs_cons tells22 kr_ (tellsFs_one tells23 kr_)) kr_)

/-- THE ONE PURE STATEMENT of gamehalllaw3_OfferSays: yours. -/
def gamehalllaw3_OfferSays.Pure : Prop := ∀ (x0 : S25) (a1 : Int) (a2 : Int) (a3 : Int), (wf25 x0) → ((Lit.int .i64 a1).wf = true) → ((Lit.int .i64 a2).wf = true) → ((Lit.int .i64 a3).wf = true) → ∃ k, gamehalllaw3_OfferSays.f k x0.f0.f0 x0.f0.f1 x0.f1.f0.f0 x0.f1.f0.f1 x0.f1.f1.f0 x0.f1.f1.f1 a1 a2 a3 = some true
theorem gamehalllaw3_OfferSays.walk (P : gamehalllaw3_OfferSays.Pure) (x0 : S25) (v0 : Array Value) (a1 : Int) (a2 : Int) (a3 : Int) (w : World) (hK0 : k25.K w x0 v0.toList) (w0 : wf25 x0) (w1 : (Lit.int .i64 a1).wf = true) (w2 : (Lit.int .i64 a2).wf = true) (w3 : (Lit.int .i64 a3).wf = true) :
  Calls Try.prog 3 #[.agg v0, .int .i64 a1, .int .i64 a2, .int .i64 a3] w fun e w' => e = .returned (.bool true) ∧ Below w.heap.size w w' := by
 have hcs0 := k25_open hK0
 obtain rfl : v0 = #[.int .i64 x0.f0.f0, .int .i64 x0.f0.f1, .int .i64 x0.f1.f0.f0, .int .i64 x0.f1.f0.f1, .int .i64 x0.f1.f1.f0, .int .i64 x0.f1.f1.f1] := Array.ext' hcs0
 obtain ⟨k, h⟩ := P x0 a1 a2 a3 w0 w1 w2 w3
 refine (gamehalllaw3_OfferSays.calls k x0.f0.f0 x0.f0.f1 x0.f1.f0.f0 x0.f1.f0.f1 x0.f1.f1.f0 x0.f1.f1.f1 a1 a2 a3 true w  h).mono ?_
 rintro e w' ⟨rfl, hd⟩
 exact ⟨rfl, hd⟩

end Go.Proofs.Yteioadnojajjoaa.POfferSays

