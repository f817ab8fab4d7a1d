-- Printed by a program of this claim's writer (wip/ext): an extension of the kit's print.
import Derived.Test.YteioadnojajjoaaPOfferSaysx0
import Derived.Test.YteioadnojajjoaaPOfferSaysx2
import Derived.Test.YteioadnojajjoaaPOfferSaysx3
import Derived.Test.YteioadnojajjoaaPOfferSaysx4
import Derived.Test.YteioadnojajjoaaPOfferSaysx5
import Derived.Test.YteioadnojajjoaaPOfferSaysx6
import Derived.Test.YteioadnojajjoaaPOfferSaysx7a
namespace Go.Proofs.Yteioadnojajjoaa.POfferSays
open Go.RowKit Go.Proofs.YteioadnojajjoaaW.PrintWords Go.Proofs.YteioadnojajjoaaW.PrintLast Go.Proofs.YteioadnojajjoaaW.PrintMore
attribute [local go_sem] max2_int min2_int max_two min_two max_three min_three max_four min_four   -- for this text's walks alone
set_option linter.unusedVariables false
set_option linter.unusedSimpArgs false
attribute [local go_sem high] eqA25
set_option maxHeartbeats 80000000 in
set_option maxRecDepth 100000 in
def gamehalllaw3_OfferSays_rest1 : {P : Prop // P → (gamehalllaw3_OfferSays_rest0.1)} := by
   apply Subtype.mk
   intro hP_
   intro zz_
   unhygienic intros
   clear zz_
   clear HC12; (try clear p2)
   obtain ⟨kq, x95_11, rfl, HA, HJ11, BK138, BK147, BK155, BK163, BK171, BK179, BK180, HB⟩ := hcut
   cases kq with
   | zero => exact absurd HA.out (by simp [gamehalllaw3_OfferSays.j0])
   | succ kj11 =>
    have H := HA.out; clear HA
    simp only [gamehalllaw3_OfferSays.j0] at H
    by_cases c182 : x95_11 = true
    ·subst c182
     rw [if_pos rfl] at H
     obtain rfl := Option.some.inj H
     go_wp2
     go_ret
     exact ⟨xer, xW HB⟩
    ·replace c182 := Bool.eq_false_iff.mpr c182
     subst c182
     rw [if_neg (show ¬ (false = true) by decide)] at H
     have HC183 := Aside0.mk H; clear H
     go_upto_if 97 with (fail)
     go_cut [] (fun wc => ∃ (kq : Nat), Aside0 (gamehalllaw3_OfferSays.j1 kq a1 a2 a3 t146 t154 t162 t178 a0_0 a0_1 a0_2 a0_3 a0_4 a0_5 t140 t141 t142 t143 t144 t145 t148 t149 t150 t151 t152 t153 t156 t157 t158 t159 t160 t161 t172 t173 t174 t175 t176 t177 0 0 0 0 0 0 = some r) ∧ Aside0 (kq ≤ kj11) ∧ Aside0 (wc.heap[gb138]? = some (.cells #[.int .i64 a0_0, .int .i64 a0_1, .int .i64 a0_2, .int .i64 a0_3, .int .i64 a0_4, .int .i64 a0_5] 25 (0, 0))) ∧ Aside0 (wc.heap[gb147]? = some (.cells #[.int .i64 t140, .int .i64 t141, .int .i64 t142, .int .i64 t143, .int .i64 t144, .int .i64 t145] 25 (0, 0))) ∧ Aside0 (wc.heap[gb155]? = some (.cells #[.int .i64 t148, .int .i64 t149, .int .i64 t150, .int .i64 t151, .int .i64 t152, .int .i64 t153] 25 (0, 0))) ∧ Aside0 (wc.heap[gb163]? = some (.cells #[.int .i64 t156, .int .i64 t157, .int .i64 t158, .int .i64 t159, .int .i64 t160, .int .i64 t161] 25 (0, 0))) ∧ Aside0 (wc.heap[gb171]? = some (.cells #[.int .i64 t164, .int .i64 t165, .int .i64 t166, .int .i64 t167, .int .i64 t168, .int .i64 t169] 25 (0, 0))) ∧ Aside0 (wc.heap[gb179]? = some (.cells #[.int .i64 t172, .int .i64 t173, .int .i64 t174, .int .i64 t175, .int .i64 t176, .int .i64 t177] 25 (0, 0))) ∧ Aside0 (wc.heap[gb180]? = some (.cells #[.int .i64 0, .int .i64 0, .int .i64 0, .int .i64 0, .int .i64 0, .int .i64 0] 25 (0, 0))) ∧ Aside0 (Below w.heap.size w wc))
     case first =>
      refine box_ ?g1;letI i:type_of% ?g1:=⟨by
      have H := HC183.out; clear HC183
      by_cases c184 : t170 = 0
      ·refine box_ ?g2;letI i:type_of% ?g2:=⟨by
       rw [if_pos c184] at H
       have c184b0 : (t170 == 0) = true := beq_iff_eq.mpr c184
       have c184b1 : (t170 != 0) = false := bne_eq_false_iff_eq.mpr c184
       clear c184
       (first | rw [c184b0] | (simp only [i64_w, i32_w]; rw [c184b0]) | skip)
       by_cases c185 : a0_0 = (wrap64 (1 - a2))
       ·refine box_ ?g3;letI i:type_of% ?g3:=⟨by
        rw [if_pos c185] at H
        have c185b0 : (a0_0 == (wrap64 (1 - a2))) = true := beq_iff_eq.mpr c185
        have c185b1 : (a0_0 != (wrap64 (1 - a2))) = false := bne_eq_false_iff_eq.mpr c185
        clear c185
        by_cases c186 : ((!(t164 == (-1)) || (!(t165 == (-1)))) || (((!(t166 == a0_2) || (!(t167 == a0_3))) || ((!(t168 == a0_4) || (!(t169 == a0_5))))))) = true
        ·refine box_ ?g4;letI i:type_of% ?g4:=⟨by
         rw [if_pos c186] at H
         have c186b0 : ((!(t164 == (-1)) || (!(t165 == (-1)))) || (((!(t166 == a0_2) || (!(t167 == a0_3))) || ((!(t168 == a0_4) || (!(t169 == a0_5))))))) = true := c186
         clear c186
         obtain rfl := Option.some.inj H
         have hcz193_0 := blkc6 BK138.out
         go_wp2_with (first | ((with_reducible refine gate_dst (N := 20) rfl ?_); refine box_event ?hg (N := 20) ?hd (cs := #[.int .i64 0, .int .i64 0, .int .i64 0, .int .i64 0, .int .i64 0, .int .i64 0]) (t := 25) ?hr ?_; (case hd => rfl); (case hg => rfl); (case hr => first | (go_simp; done) | (go_simp; rfl)); intro gb183 hg w194 hbox hb; have BK183 := Aside0.mk (hbox); have GW183 := Aside0.mk (xZ HB hg); have GE183 := Aside0.mk (xZ HB hg); have NB138_183 := Aside0.mk (xN BK138 hg); have NB183_138 := Aside0.mk (xM BK138 hg); have NB147_183 := Aside0.mk (xN BK147 hg); have NB183_147 := Aside0.mk (xM BK147 hg); have NB155_183 := Aside0.mk (xN BK155 hg); have NB183_155 := Aside0.mk (xM BK155 hg); have NB163_183 := Aside0.mk (xN BK163 hg); have NB183_163 := Aside0.mk (xM BK163 hg); have NB171_183 := Aside0.mk (xN BK171 hg); have NB183_171 := Aside0.mk (xM BK171 hg); have NB179_183 := Aside0.mk (xN BK179 hg); have NB183_179 := Aside0.mk (xM BK179 hg); have NB180_183 := Aside0.mk (xN BK180 hg); have NB183_180 := Aside0.mk (xM BK180 hg); replace BK138 := Aside0.mk (xB BK138 hb); replace BK147 := Aside0.mk (xB BK147 hb); replace BK155 := Aside0.mk (xB BK155 hb); replace BK163 := Aside0.mk (xB BK163 hb); replace BK171 := Aside0.mk (xB BK171 hb); replace BK179 := Aside0.mk (xB BK179 hb); replace BK180 := Aside0.mk (xB BK180 hb); replace HB := Aside0.mk (xS HB hb); clear hb hbox hg; have hnb195 := xne NB183_138; have hnc195 := xne NB138_183; have hnb196 := xne NB183_147; have hnc196 := xne NB147_183; have hnb197 := xne NB183_155; have hnc197 := xne NB155_183; have hnb198 := xne NB183_163; have hnc198 := xne NB163_183; have hnb199 := xne NB183_171; have hnc199 := xne NB171_183; have hnb200 := xne NB183_179; have hnc200 := xne NB179_183; have hnb201 := xne NB183_180; have hnc201 := xne NB180_183; have hcz202_0 := blkc6 BK183.out; have hcz208_0 := blkc6 BK171.out))
         go_ret
         exact ⟨xer, xW HB⟩⟩
         exact inferInstanceAs _
        ·refine box_ ?g5;letI i:type_of% ?g5:=⟨by
         rw [if_neg c186] at H
         have c186b0 : ((!(t164 == (-1)) || (!(t165 == (-1)))) || (((!(t166 == a0_2) || (!(t167 == a0_3))) || ((!(t168 == a0_4) || (!(t169 == a0_5))))))) = false := by simpa using c186
         clear c186
         have H' := Aside0.mk H
         clear H; have hcz215_0 := blkc6 BK138.out
         go_wp2_with (first | ((with_reducible refine gate_dst (N := 20) rfl ?_); refine box_event ?hg (N := 20) ?hd (cs := #[.int .i64 0, .int .i64 0, .int .i64 0, .int .i64 0, .int .i64 0, .int .i64 0]) (t := 25) ?hr ?_; (case hd => rfl); (case hg => rfl); (case hr => first | (go_simp; done) | (go_simp; rfl)); intro gb183 hg w216 hbox hb; have BK183 := Aside0.mk (hbox); have GW183 := Aside0.mk (xZ HB hg); have GE183 := Aside0.mk (xZ HB hg); have NB138_183 := Aside0.mk (xN BK138 hg); have NB183_138 := Aside0.mk (xM BK138 hg); have NB147_183 := Aside0.mk (xN BK147 hg); have NB183_147 := Aside0.mk (xM BK147 hg); have NB155_183 := Aside0.mk (xN BK155 hg); have NB183_155 := Aside0.mk (xM BK155 hg); have NB163_183 := Aside0.mk (xN BK163 hg); have NB183_163 := Aside0.mk (xM BK163 hg); have NB171_183 := Aside0.mk (xN BK171 hg); have NB183_171 := Aside0.mk (xM BK171 hg); have NB179_183 := Aside0.mk (xN BK179 hg); have NB183_179 := Aside0.mk (xM BK179 hg); have NB180_183 := Aside0.mk (xN BK180 hg); have NB183_180 := Aside0.mk (xM BK180 hg); replace BK138 := Aside0.mk (xB BK138 hb); replace BK147 := Aside0.mk (xB BK147 hb); replace BK155 := Aside0.mk (xB BK155 hb); replace BK163 := Aside0.mk (xB BK163 hb); replace BK171 := Aside0.mk (xB BK171 hb); replace BK179 := Aside0.mk (xB BK179 hb); replace BK180 := Aside0.mk (xB BK180 hb); replace HB := Aside0.mk (xS HB hb); clear hb hbox hg; have hnb217 := xne NB183_138; have hnc217 := xne NB138_183; have hnb218 := xne NB183_147; have hnc218 := xne NB147_183; have hnb219 := xne NB183_155; have hnc219 := xne NB155_183; have hnb220 := xne NB183_163; have hnc220 := xne NB163_183; have hnb221 := xne NB183_171; have hnc221 := xne NB171_183; have hnb222 := xne NB183_179; have hnc222 := xne NB179_183; have hnb223 := xne NB183_180; have hnc223 := xne NB180_183; have hcz224_0 := blkc6 BK183.out; have hcz230_0 := blkc6 BK171.out))
         go_meet
         case rel => exact ⟨_, H', ⟨by have := HJ11.out; first | omega | exact Nat.le_refl _⟩, ⟨xK BK138⟩, ⟨xK BK147⟩, ⟨xK BK155⟩, ⟨xK BK163⟩, ⟨xK BK171⟩, ⟨xK BK179⟩, ⟨xK BK180⟩, ⟨xW HB⟩⟩⟩
         exact inferInstanceAs _⟩
        exact inferInstanceAs _
       ·refine box_ ?g6;letI i:type_of% ?g6:=⟨by
        rw [if_neg c185] at H
        have c185b0 : (a0_0 == (wrap64 (1 - a2))) = false := beq_eq_false_iff_ne.mpr c185
        have c185b1 : (a0_0 != (wrap64 (1 - a2))) = true := bne_iff_ne.mpr c185
        by_cases c231 : ((!(t164 == a0_0) || (!(t165 == (-1)))) || (((!(t166 == a0_2) || (!(t167 == a0_3))) || ((!(t168 == a0_4) || (!(t169 == a0_5))))))) = true
        ·refine box_ ?g7;letI i:type_of% ?g7:=⟨by
         rw [if_pos c231] at H
         have c231b0 : ((!(t164 == a0_0) || (!(t165 == (-1)))) || (((!(t166 == a0_2) || (!(t167 == a0_3))) || ((!(t168 == a0_4) || (!(t169 == a0_5))))))) = true := c231
         clear c231
         obtain rfl := Option.some.inj H
         have hcz238_0 := blkc6 BK138.out
         go_wp2_with (first | ((with_reducible refine gate_dst (N := 20) rfl ?_); refine box_event ?hg (N := 20) ?hd (cs := #[.int .i64 0, .int .i64 0, .int .i64 0, .int .i64 0, .int .i64 0, .int .i64 0]) (t := 25) ?hr ?_; (case hd => rfl); (case hg => rfl); (case hr => first | (go_simp; done) | (go_simp; rfl)); intro gb183 hg w239 hbox hb; have BK183 := Aside0.mk (hbox); have GW183 := Aside0.mk (xZ HB hg); have GE183 := Aside0.mk (xZ HB hg); have NB138_183 := Aside0.mk (xN BK138 hg); have NB183_138 := Aside0.mk (xM BK138 hg); have NB147_183 := Aside0.mk (xN BK147 hg); have NB183_147 := Aside0.mk (xM BK147 hg); have NB155_183 := Aside0.mk (xN BK155 hg); have NB183_155 := Aside0.mk (xM BK155 hg); have NB163_183 := Aside0.mk (xN BK163 hg); have NB183_163 := Aside0.mk (xM BK163 hg); have NB171_183 := Aside0.mk (xN BK171 hg); have NB183_171 := Aside0.mk (xM BK171 hg); have NB179_183 := Aside0.mk (xN BK179 hg); have NB183_179 := Aside0.mk (xM BK179 hg); have NB180_183 := Aside0.mk (xN BK180 hg); have NB183_180 := Aside0.mk (xM BK180 hg); replace BK138 := Aside0.mk (xB BK138 hb); replace BK147 := Aside0.mk (xB BK147 hb); replace BK155 := Aside0.mk (xB BK155 hb); replace BK163 := Aside0.mk (xB BK163 hb); replace BK171 := Aside0.mk (xB BK171 hb); replace BK179 := Aside0.mk (xB BK179 hb); replace BK180 := Aside0.mk (xB BK180 hb); replace HB := Aside0.mk (xS HB hb); clear hb hbox hg; have hnb240 := xne NB183_138; have hnc240 := xne NB138_183; have hnb241 := xne NB183_147; have hnc241 := xne NB147_183; have hnb242 := xne NB183_155; have hnc242 := xne NB155_183; have hnb243 := xne NB183_163; have hnc243 := xne NB163_183; have hnb244 := xne NB183_171; have hnc244 := xne NB171_183; have hnb245 := xne NB183_179; have hnc245 := xne NB179_183; have hnb246 := xne NB183_180; have hnc246 := xne NB180_183; have hcz247_0 := blkc6 BK183.out; have hcz253_0 := blkc6 BK171.out))
         go_ret
         exact ⟨xer, xW HB⟩⟩
         exact inferInstanceAs _
        ·refine box_ ?g8;letI i:type_of% ?g8:=⟨by
         rw [if_neg c231] at H
         have c231b0 : ((!(t164 == a0_0) || (!(t165 == (-1)))) || (((!(t166 == a0_2) || (!(t167 == a0_3))) || ((!(t168 == a0_4) || (!(t169 == a0_5))))))) = false := by simpa using c231
         clear c231
         have H' := Aside0.mk H
         clear H; have hcz260_0 := blkc6 BK138.out
         go_wp2_with (first | ((with_reducible refine gate_dst (N := 20) rfl ?_); refine box_event ?hg (N := 20) ?hd (cs := #[.int .i64 0, .int .i64 0, .int .i64 0, .int .i64 0, .int .i64 0, .int .i64 0]) (t := 25) ?hr ?_; (case hd => rfl); (case hg => rfl); (case hr => first | (go_simp; done) | (go_simp; rfl)); intro gb183 hg w261 hbox hb; have BK183 := Aside0.mk (hbox); have GW183 := Aside0.mk (xZ HB hg); have GE183 := Aside0.mk (xZ HB hg); have NB138_183 := Aside0.mk (xN BK138 hg); have NB183_138 := Aside0.mk (xM BK138 hg); have NB147_183 := Aside0.mk (xN BK147 hg); have NB183_147 := Aside0.mk (xM BK147 hg); have NB155_183 := Aside0.mk (xN BK155 hg); have NB183_155 := Aside0.mk (xM BK155 hg); have NB163_183 := Aside0.mk (xN BK163 hg); have NB183_163 := Aside0.mk (xM BK163 hg); have NB171_183 := Aside0.mk (xN BK171 hg); have NB183_171 := Aside0.mk (xM BK171 hg); have NB179_183 := Aside0.mk (xN BK179 hg); have NB183_179 := Aside0.mk (xM BK179 hg); have NB180_183 := Aside0.mk (xN BK180 hg); have NB183_180 := Aside0.mk (xM BK180 hg); replace BK138 := Aside0.mk (xB BK138 hb); replace BK147 := Aside0.mk (xB BK147 hb); replace BK155 := Aside0.mk (xB BK155 hb); replace BK163 := Aside0.mk (xB BK163 hb); replace BK171 := Aside0.mk (xB BK171 hb); replace BK179 := Aside0.mk (xB BK179 hb); replace BK180 := Aside0.mk (xB BK180 hb); replace HB := Aside0.mk (xS HB hb); clear hb hbox hg; have hnb262 := xne NB183_138; have hnc262 := xne NB138_183; have hnb263 := xne NB183_147; have hnc263 := xne NB147_183; have hnb264 := xne NB183_155; have hnc264 := xne NB155_183; have hnb265 := xne NB183_163; have hnc265 := xne NB163_183; have hnb266 := xne NB183_171; have hnc266 := xne NB171_183; have hnb267 := xne NB183_179; have hnc267 := xne NB179_183; have hnb268 := xne NB183_180; have hnc268 := xne NB180_183; have hcz269_0 := blkc6 BK183.out; have hcz275_0 := blkc6 BK171.out))
         go_meet
         case rel => exact ⟨_, H', ⟨by have := HJ11.out; first | omega | exact Nat.le_refl _⟩, ⟨xK BK138⟩, ⟨xK BK147⟩, ⟨xK BK155⟩, ⟨xK BK163⟩, ⟨xK BK171⟩, ⟨xK BK179⟩, ⟨xK BK180⟩, ⟨xW HB⟩⟩⟩
         exact inferInstanceAs _⟩
        exact inferInstanceAs _⟩
       exact inferInstanceAs _
      ·refine box_ ?g9;letI i:type_of% ?g9:=⟨by
       rw [if_neg c184] at H
       have c184b0 : (t170 == 0) = false := beq_eq_false_iff_ne.mpr c184
       have c184b1 : (t170 != 0) = true := bne_iff_ne.mpr c184
       (first | rw [c184b0] | (simp only [i64_w, i32_w]; rw [c184b0]) | skip)
       have H' := Aside0.mk H
       clear H
       go_wp2
       go_meet
       case rel => exact ⟨_, H', ⟨by have := HJ11.out; first | omega | exact Nat.le_refl _⟩, ⟨xK BK138⟩, ⟨xK BK147⟩, ⟨xK BK155⟩, ⟨xK BK163⟩, ⟨xK BK171⟩, ⟨xK BK179⟩, ⟨xK BK180⟩, ⟨xW HB⟩⟩⟩
       exact inferInstanceAs _⟩
      exact inferInstanceAs _
     case rest =>
      repeat (rename_i xv1_; (first | (have zv_ : Value := xv1_; clear zv_; clear xv1_) | revert xv1_))
      (try revert xv0_); (try revert xv0__1); (try revert xv0__2); (try revert xv0__3); (try revert xv0__4); (try revert xv0__5); (try revert xv0__6); (try revert xv0__7); (try revert xv0__8); (try revert xv0__9); (try revert xv0__10); (try revert xv0__11); (try revert xv0__12)
      (try revert kj11); (try revert HJ11); (try revert HA); (try revert x95_11); (try revert kq); (try revert wc); (try revert vs95); (try revert w50); (try revert gb180); (try revert w43); (try revert gb179); (try revert w42); (try revert w35); (try revert gb171); (try revert w34); (try revert w28)
      (try revert gb163); (try revert w27); (try revert w22); (try revert gb155); (try revert w21); (try revert w17); (try revert gb147); (try revert w16); (try revert rfl); (try revert w14); (try revert e); (try revert hb); (try revert hbox); (try revert w13); (try revert hg); (try revert gb138)
      (try revert t178); (try revert t177); (try revert t176); (try revert t175); (try revert t174); (try revert t173); (try revert t172); (try revert t170); (try revert t169); (try revert t168); (try revert t167); (try revert t166); (try revert t165); (try revert t164); (try revert t162); (try revert t161)
      (try revert t160); (try revert t159); (try revert t158); (try revert t157); (try revert t156); (try revert t154); (try revert t153); (try revert t152); (try revert t151); (try revert t150); (try revert t149); (try revert t148); (try revert t146); (try revert t145); (try revert t144); (try revert t143)
      (try revert t142); (try revert t141); (try revert t140); (try revert t182); (try revert t181); (try revert bt172); (try revert bt164); (try revert bt156); (try revert bt148); (try revert bt140); (try revert t139); (try revert hss_); (try revert h); (try revert w); (try revert r); (try revert a3)
      (try revert a2); (try revert a1); (try revert a0_5); (try revert a0_4); (try revert a0_3); (try revert a0_2); (try revert a0_1); (try revert a0_0); (try revert k); (try revert hu22); (try revert hu25); (try revert u324); (try revert u323); (try revert u322); (try revert u321); (try revert u320)
      (try revert u319); (try revert u318); (try revert u317); (try revert u316); (try revert u315); (try revert u314); (try revert u313); (try revert u312); (try revert u311); (try revert u310); (try revert u309); (try revert u308); (try revert u307); (try revert u306); (try revert u305); (try revert u304)
      (try revert u303); (try revert u302); (try revert u301); (try revert u300); (try revert u299); (try revert u298); (try revert u297); (try revert u296); (try revert u295); (try revert u294); (try revert u293); (try revert u292); (try revert u291); (try revert u290); (try revert u289); (try revert u288)
      (try revert u287); (try revert u286); (try revert u285); (try revert u284); (try revert u283); (try revert u282); (try revert u281); (try revert u280); (try revert u279); (try revert u278); (try revert u277); (try revert u276); (try revert u275); (try revert u274); (try revert u273); (try revert u272)
      (try revert u271); (try revert u270); (try revert u269); (try revert u268); (try revert u267); (try revert u266); (try revert u265); (try revert u264); (try revert u263); (try revert u262); (try revert u261); (try revert u260); (try revert u259); (try revert u258); (try revert u257); (try revert u256)
      (try revert u255); (try revert u254); (try revert u253); (try revert u252); (try revert u251); (try revert u250); (try revert u249); (try revert u248); (try revert u247); (try revert u246); (try revert u245); (try revert u244); (try revert u243); (try revert u242); (try revert u241); (try revert u240)
      (try revert u239); (try revert u238); (try revert u237); (try revert u236); (try revert u235); (try revert u234); (try revert u233); (try revert u232); (try revert u231); (try revert u230); (try revert u229); (try revert u228); (try revert u227); (try revert u226); (try revert u225); (try revert u224)
      (try revert u223); (try revert u222); (try revert u221); (try revert u220); (try revert u219); (try revert u218); (try revert u217); (try revert u216); (try revert u215); (try revert u214); (try revert u213); (try revert u212); (try revert u211); (try revert u210); (try revert u209); (try revert u208)
      (try revert u207); (try revert u206); (try revert u205); (try revert u204); (try revert u203); (try revert u202); (try revert u201); (try revert u200); (try revert u199); (try revert u198); (try revert u197); (try revert u196); (try revert u195); (try revert u194); (try revert u193); (try revert u192)
      (try revert u191); (try revert u190); (try revert u189); (try revert u188); (try revert u187); (try revert u186); (try revert u185); (try revert u184); (try revert u183); (try revert u182); (try revert u181); (try revert u180); (try revert u179); (try revert u178); (try revert u177); (try revert u176)
      (try revert u175); (try revert u174); (try revert u173); (try revert u172); (try revert u171); (try revert u170); (try revert u169); (try revert u168); (try revert u167); (try revert u166); (try revert u165); (try revert u164); (try revert u163); (try revert u162); (try revert u161); (try revert u160)
      (try revert u159); (try revert u158); (try revert u157); (try revert u156); (try revert u155); (try revert u154); (try revert u153); (try revert u152); (try revert u151); (try revert u150); (try revert u149); (try revert u148); (try revert u147); (try revert u146); (try revert u145); (try revert u144)
      (try revert u143); (try revert u142); (try revert u141); (try revert u140); (try revert u139); (try revert u138); (try revert u137); (try revert u136); (try revert u135); (try revert u134); (try revert u133); (try revert u132); (try revert u131); (try revert u130); (try revert u129); (try revert u128)
      (try revert u127); (try revert u126); (try revert u125); (try revert u124); (try revert u123); (try revert u122); (try revert u121); (try revert u120); (try revert u119); (try revert u118); (try revert u117); (try revert u116); (try revert u115); (try revert u114); (try revert u113); (try revert u112)
      (try revert u111); (try revert u110); (try revert u109); (try revert u108); (try revert u107); (try revert u106); (try revert u105); (try revert u104); (try revert u103); (try revert u102); (try revert u101); (try revert u100); (try revert u99); (try revert u98); (try revert u97); (try revert u96)
      (try revert u95); (try revert u94); (try revert u93); (try revert u92); (try revert u91); (try revert u90); (try revert u89); (try revert u88); (try revert u87); (try revert u86); (try revert u85); (try revert u84); (try revert u83); (try revert u82); (try revert u81); (try revert u80)
      (try revert u79); (try revert u78); (try revert u77); (try revert u76); (try revert u75); (try revert u74); (try revert u73); (try revert u72); (try revert u71); (try revert u70); (try revert u69); (try revert u68); (try revert u67); (try revert u66); (try revert u65); (try revert u64)
      (try revert u63); (try revert u62); (try revert u61); (try revert u60); (try revert u59); (try revert u58); (try revert u57); (try revert u56); (try revert u55); (try revert u54); (try revert u53); (try revert u52); (try revert u51); (try revert u50); (try revert u49); (try revert u48)
      (try revert u47); (try revert u46); (try revert u45); (try revert u44); (try revert u43); (try revert u42); (try revert u41); (try revert u40); (try revert u39); (try revert u38); (try revert u37); (try revert u36); (try revert u35); (try revert u34); (try revert u33); (try revert u32)
      (try revert u31); (try revert u30); (try revert u29); (try revert u28); (try revert u27); (try revert u26); (try revert u25); (try revert u24); (try revert u23); (try revert u22); (try revert u21); (try revert u20); (try revert u19); (try revert u18); (try revert u17); (try revert u16)
      (try revert u15); (try revert u14); (try revert u13); (try revert u12); (try revert u11); (try revert u10); (try revert u9); (try revert u8); (try revert u7); (try revert u6); (try revert u5); (try revert u4); (try revert u3); (try revert u2); (try revert u1); (try revert u0)
      repeat (rename_i xv1_; (first | (have zv_ : Value := xv1_; clear zv_; clear xv1_) | revert xv1_))
      (try revert xv0_); (try revert xv0__1); (try revert xv0__2); (try revert xv0__3); (try revert xv0__4); (try revert xv0__5); (try revert xv0__6); (try revert xv0__7); (try revert xv0__8); (try revert xv0__9); (try revert xv0__10); (try revert xv0__11); (try revert xv0__12)
      repeat (rename_i xv1_; (first | (have zv_ : Value := xv1_; clear zv_; clear xv1_) | revert xv1_))
      have zz_ := True.intro
      revert zz_
      exact hP_
set_option maxHeartbeats 80000000 in
set_option maxRecDepth 100000 in
def gamehalllaw3_OfferSays_rest2 : {P : Prop // P → (gamehalllaw3_OfferSays_rest1.1)} := by
      apply Subtype.mk
      intro hP_
      intro zz_
      unhygienic intros
      clear zz_
      clear HC183; (try clear p2); (try clear p6); (try clear p64); (try clear p2)
      obtain ⟨kq, HA, HJ182, BK138, BK147, BK155, BK163, BK171, BK179, BK180, HB⟩ := hcut
      cases kq with
      | zero => exact absurd HA.out (by simp [gamehalllaw3_OfferSays.j1])
      | succ kj182 =>
       have H := HA.out; clear HA
       simp only [gamehalllaw3_OfferSays.j1] at H
       have HC276 := Aside0.mk H; clear H
       go_upto_if 113 with (fail)
       go_cut [] (fun wc => ∃ (kq : Nat), Aside0 (gamehalllaw3_OfferSays.j3 kq a1 a2 a3 t146 t154 t162 a0_0 a0_1 a0_2 a0_3 a0_4 a0_5 t140 t141 t142 t143 t144 t145 t148 t149 t150 t151 t152 t153 t156 t157 t158 t159 t160 t161 0 0 0 0 0 0 = some r) ∧ Aside0 (kq ≤ kj182) ∧ Aside0 (wc.heap[gb138]? = some (.cells #[.int .i64 a0_0, .int .i64 a0_1, .int .i64 a0_2, .int .i64 a0_3, .int .i64 a0_4, .int .i64 a0_5] 25 (0, 0))) ∧ Aside0 (wc.heap[gb147]? = some (.cells #[.int .i64 t140, .int .i64 t141, .int .i64 t142, .int .i64 t143, .int .i64 t144, .int .i64 t145] 25 (0, 0))) ∧ Aside0 (wc.heap[gb155]? = some (.cells #[.int .i64 t148, .int .i64 t149, .int .i64 t150, .int .i64 t151, .int .i64 t152, .int .i64 t153] 25 (0, 0))) ∧ Aside0 (wc.heap[gb163]? = some (.cells #[.int .i64 t156, .int .i64 t157, .int .i64 t158, .int .i64 t159, .int .i64 t160, .int .i64 t161] 25 (0, 0))) ∧ Aside0 (wc.heap[gb171]? = some (.cells #[.int .i64 t164, .int .i64 t165, .int .i64 t166, .int .i64 t167, .int .i64 t168, .int .i64 t169] 25 (0, 0))) ∧ Aside0 (wc.heap[gb179]? = some (.cells #[.int .i64 t172, .int .i64 t173, .int .i64 t174, .int .i64 t175, .int .i64 t176, .int .i64 t177] 25 (0, 0))) ∧ Aside0 (wc.heap[gb180]? = some (.cells #[.int .i64 0, .int .i64 0, .int .i64 0, .int .i64 0, .int .i64 0, .int .i64 0] 25 (0, 0))) ∧ Aside0 (Below w.heap.size w wc))
       case first =>
        refine box_ ?g10;letI i:type_of% ?g10:=⟨by
        have H := HC276.out; clear HC276
        by_cases c277 : t178 = 0
        ·refine box_ ?g11;letI i:type_of% ?g11:=⟨by
         rw [if_pos c277] at H
         have c277b0 : (t178 == 0) = true := beq_iff_eq.mpr c277
         have c277b1 : (t178 != 0) = false := bne_eq_false_iff_eq.mpr c277
         clear c277
         (first | rw [c277b0] | (simp only [i64_w, i32_w]; rw [c277b0]) | skip)
         have H' := Aside0.mk H
         clear H
         go_wp2_with (first | ((with_reducible refine gate_dst (N := 21) rfl ?_); refine box_event ?hg (N := 21) ?hd (cs := #[.int .i64 0, .int .i64 0, .int .i64 0, .int .i64 0, .int .i64 0, .int .i64 0]) (t := 25) ?hr ?_; (case hd => rfl); (case hg => rfl); (case hr => first | (go_simp; done) | (go_simp; rfl)); intro gb184 hg w278 hbox hb; have BK184 := Aside0.mk (hbox); have GW184 := Aside0.mk (xZ HB hg); have GE184 := Aside0.mk (xZ HB hg); have NB138_184 := Aside0.mk (xN BK138 hg); have NB184_138 := Aside0.mk (xM BK138 hg); have NB147_184 := Aside0.mk (xN BK147 hg); have NB184_147 := Aside0.mk (xM BK147 hg); have NB155_184 := Aside0.mk (xN BK155 hg); have NB184_155 := Aside0.mk (xM BK155 hg); have NB163_184 := Aside0.mk (xN BK163 hg); have NB184_163 := Aside0.mk (xM BK163 hg); have NB171_184 := Aside0.mk (xN BK171 hg); have NB184_171 := Aside0.mk (xM BK171 hg); have NB179_184 := Aside0.mk (xN BK179 hg); have NB184_179 := Aside0.mk (xM BK179 hg); have NB180_184 := Aside0.mk (xN BK180 hg); have NB184_180 := Aside0.mk (xM BK180 hg); replace BK138 := Aside0.mk (xB BK138 hb); replace BK147 := Aside0.mk (xB BK147 hb); replace BK155 := Aside0.mk (xB BK155 hb); replace BK163 := Aside0.mk (xB BK163 hb); replace BK171 := Aside0.mk (xB BK171 hb); replace BK179 := Aside0.mk (xB BK179 hb); replace BK180 := Aside0.mk (xB BK180 hb); replace HB := Aside0.mk (xS HB hb); clear hb hbox hg; have hnb279 := xne NB184_138; have hnc279 := xne NB138_184; have hnb280 := xne NB184_147; have hnc280 := xne NB147_184; have hnb281 := xne NB184_155; have hnc281 := xne NB155_184; have hnb282 := xne NB184_163; have hnc282 := xne NB163_184; have hnb283 := xne NB184_171; have hnc283 := xne NB171_184; have hnb284 := xne NB184_179; have hnc284 := xne NB179_184; have hnb285 := xne NB184_180; have hnc285 := xne NB180_184; have hcz286_0 := blkc6 BK184.out))
         (try have hq138_184 := xne NB138_184); (try have hq147_184 := xne NB147_184); (try have hq155_184 := xne NB155_184); (try have hq163_184 := xne NB163_184); (try have hq171_184 := xne NB171_184); (try have hq179_184 := xne NB179_184); (try have hq180_184 := xne NB180_184); (try have hq184_179 := xne NB184_179); (try have hq184_138 := xne NB184_138); (try have hq184_147 := xne NB184_147); (try have hq184_155 := xne NB184_155); (try have hq184_163 := xne NB184_163); (try have hq184_171 := xne NB184_171); (try have hq184_180 := xne NB184_180)
         go_loopg [116] kj182 (fun kq vs116 w' => ∃ (x116_3 : Int) (z185c3 : Int) (z185d3 : Int) (z185e3 : Int) (z185f3 : Int), vs116 = .int .i64 x116_3 ∧ Aside0 (gamehalllaw3_OfferSays.l0 kq a1 a2 a3 t146 t154 t162 x116_3 a0_0 a0_1 a0_2 a0_3 a0_4 a0_5 t140 t141 t142 t143 t144 t145 t148 t149 t150 t151 t152 t153 t156 t157 t158 t159 t160 t161 t172 t173 t174 t175 t176 t177 0 0 0 0 0 0 (-1) (-1) z185c3 z185d3 z185e3 z185f3 = some r) ∧ Aside0 (kq ≤ kj182) ∧ Aside0 (w'.heap[gb138]? = some (.cells #[.int .i64 a0_0, .int .i64 a0_1, .int .i64 a0_2, .int .i64 a0_3, .int .i64 a0_4, .int .i64 a0_5] 25 (0, 0))) ∧ Aside0 (w'.heap[gb147]? = some (.cells #[.int .i64 t140, .int .i64 t141, .int .i64 t142, .int .i64 t143, .int .i64 t144, .int .i64 t145] 25 (0, 0))) ∧ Aside0 (w'.heap[gb155]? = some (.cells #[.int .i64 t148, .int .i64 t149, .int .i64 t150, .int .i64 t151, .int .i64 t152, .int .i64 t153] 25 (0, 0))) ∧ Aside0 (w'.heap[gb163]? = some (.cells #[.int .i64 t156, .int .i64 t157, .int .i64 t158, .int .i64 t159, .int .i64 t160, .int .i64 t161] 25 (0, 0))) ∧ Aside0 (w'.heap[gb171]? = some (.cells #[.int .i64 t164, .int .i64 t165, .int .i64 t166, .int .i64 t167, .int .i64 t168, .int .i64 t169] 25 (0, 0))) ∧ Aside0 (w'.heap[gb179]? = some (.cells #[.int .i64 t172, .int .i64 t173, .int .i64 t174, .int .i64 t175, .int .i64 t176, .int .i64 t177] 25 (0, 0))) ∧ Aside0 (w'.heap[gb180]? = some (.cells #[.int .i64 0, .int .i64 0, .int .i64 0, .int .i64 0, .int .i64 0, .int .i64 0] 25 (0, 0))) ∧ Aside0 (w'.heap[gb184]? = some (.cells #[.int .i64 (-1), .int .i64 (-1), .int .i64 z185c3, .int .i64 z185d3, .int .i64 z185e3, .int .i64 z185f3] 25 (0, 0))) ∧ Aside0 (Below w.heap.size w w'))
         case atStart => exact ⟨(0), (0), (0), (0), (0), (xrf), H', ⟨Nat.le_refl _⟩, ⟨xK BK138⟩, ⟨xK BK147⟩, ⟨xK BK155⟩, ⟨xK BK163⟩, ⟨xK BK171⟩, ⟨xK BK179⟩, ⟨xK BK180⟩, ⟨xQ BK184⟩, ⟨xW HB⟩⟩
         case round =>
          clear H'; (try clear p2); (try clear p6); (try clear p64); (try clear p2); (try clear p6); (try clear p64)
          obtain ⟨x116_3, z185c3, z185d3, z185e3, z185f3, rfl, HA, HK3, BK138, BK147, BK155, BK163, BK171, BK179, BK180, BK184, HB⟩ := hrel
          cases gk with
          | zero => exact absurd HA.out (by simp [gamehalllaw3_OfferSays.l0])
          | succ k3 =>
           have H := HA.out; clear HA
           simp only [gamehalllaw3_OfferSays.l0] at H
           by_cases c287 : x116_3 < 4
           ·refine box_ ?g12;letI i:type_of% ?g12:=⟨by
            rw [if_pos c287] at H
            have c287b0 : decide (x116_3 < 4) = true := decide_eq_true c287
            clear c287
            obtain ⟨ji288, hji288⟩ : ∃ j_ : Int, (wrap64 (Int.tdiv x116_3 2)) = j_ := ⟨_, rfl⟩
            (first | rw [hji288] at H | simp only [hji288] at H)
            have hji288w : (IntKind.i64.wrap (Int.tdiv x116_3 2)) = ji288 := (i64_w _).trans hji288
            by_cases c289 : 0 ≤ (ji288)
            ·refine box_ ?g13;letI i:type_of% ?g13:=⟨by
             rw [if_pos c289] at H
             have c289b0 : decide (0 ≤ (ji288)) = true := decide_eq_true c289
             clear c289
             by_cases c290 : (ji288) < 2
             ·refine box_ ?g14;letI i:type_of% ?g14:=⟨by
              rw [if_pos c290] at H
              have c290b0 : decide ((ji288) < 2) = true := decide_eq_true c290
              clear c290
              by_cases c291 : (ji288) = 0
              ·refine box_ ?g15;letI i:type_of% ?g15:=⟨by
               rw [if_pos c291] at H
               have c291b0 : ((ji288) == 0) = true := beq_iff_eq.mpr c291
               have c291b1 : ((ji288) != 0) = false := bne_eq_false_iff_eq.mpr c291
               clear c291; obtain ⟨c292b, c292g, c292c, c292d⟩ := xar ((ji288) : Int) 0 0 2
               obtain ⟨ji293, hji293⟩ : ∃ j_ : Int, (Int.tmod x116_3 2) = j_ := ⟨_, rfl⟩
               (first | rw [hji293] at H | simp only [hji293] at H)
               by_cases c294 : 0 ≤ (ji293)
               ·refine box_ ?g16;letI i:type_of% ?g16:=⟨by
                rw [if_pos c294] at H
                have c294b0 : decide (0 ≤ (ji293)) = true := decide_eq_true c294
                clear c294
                by_cases c295 : (ji293) < 2
                ·refine box_ ?g17;letI i:type_of% ?g17:=⟨by
                 rw [if_pos c295] at H
                 have c295b0 : decide ((ji293) < 2) = true := decide_eq_true c295
                 clear c295
                 by_cases c296 : (ji293) = 0
                 ·refine box_ ?g18;letI i:type_of% ?g18:=⟨by
                  rw [if_pos c296] at H
                  have c296b0 : ((ji293) == 0) = true := beq_iff_eq.mpr c296
                  have c296b1 : ((ji293) != 0) = false := bne_eq_false_iff_eq.mpr c296
                  clear c296; obtain ⟨c297b, c297g, c297c, c297d⟩ := xar ((ji293) : Int) 0 0 2
                  obtain ⟨ji298, hji298⟩ : ∃ j_ : Int, (mn a0_2 a3) = j_ := ⟨_, rfl⟩
                  (first | rw [hji298] at H | simp only [hji298] at H)
                  have hji298_ : (if a3 < a0_2 then a3 else a0_2) = ji298 := hji298
                  obtain ⟨c299b, c299g, c299c, c299d⟩ := xar ((ji288) : Int) 0 0 2; obtain ⟨c300b, c300g, c300c, c300d⟩ := xar ((ji293) : Int) 0 0 2
                  have H' := Aside0.mk H
                  clear H
                  try go_wp2
                  replace BK138 := Aside0.mk (blk_drew BK138.out); replace BK147 := Aside0.mk (blk_drew BK147.out); replace BK155 := Aside0.mk (blk_drew BK155.out); replace BK163 := Aside0.mk (blk_drew BK163.out); replace BK171 := Aside0.mk (blk_drew BK171.out); replace BK179 := Aside0.mk (blk_drew BK179.out); replace BK180 := Aside0.mk (blk_drew BK180.out); replace BK184 := Aside0.mk (blk_drew BK184.out); replace HB := Aside0.mk (below_drew1 HB.out)
                  refine start_ (n := 18) (S := fun w' => ce w' gb138 0 (.int .i64 a0_0) ∧ ce w' gb138 1 (.int .i64 a0_1) ∧ ce w' gb138 2 (.int .i64 a0_2) ∧ ce w' gb138 3 (.int .i64 a0_3) ∧ ce w' gb138 4 (.int .i64 a0_4) ∧ ce w' gb138 5 (.int .i64 a0_5)) (ds := []) (mk 18 0) kr_ rfl rfl ⟨xc BK138 0, xc BK138 1, xc BK138 2, xc BK138 3, xc BK138 4, xc BK138 5⟩ (fun hHeld => ?_); refine with_tabW gamehalllaw3_OfferSays.tab23 gamehalllaw3_OfferSays.bits23 (fun HT_ HW_ => ?_)
                  generalize wr.drew = w301 at BK138 BK147 BK155 BK163 BK171 BK179 BK180 BK184 HB hHeld ⊢; refine pu_ 0 119 HT_ ?_; refine pu_ 1 120 HT_ ?_; refine pu_ 2 121 HT_ ?_; refine pu_ 3 122 HT_ ?_; refine pu_ 4 123 HT_ ?_; refine pu_ 5 124 HT_ ?_; refine pu_ 6 125 HT_ ?_; refine pu_ 7 126 HT_ ?_; refine pu_ 8 127 HT_ ?_; refine pu_ 9 128 HT_ ?_; refine pu_ 10 129 HT_ ?_; refine pu_ 12 131 HT_ ?_; refine pu_ 14 133 HT_ ?_; refine pu_ 15 134 HT_ ?_; refine tk_ 11 130 HT_ HW_ hHeld ?_; refine pu_ 13 132 HT_ ?_; refine pu_ 16 135 HT_ ?_
                  refine one_ (i := 17) (N := none) #[true, true, true, true, true, true, true, true, true, true, true, true, true, true, true, true, true, true] rfl rfl (one_of HT_.out kr_) (by decide) (fun K hK => ?_)
                  have hs302 : w301.cell? ⟨gb184, 2, none⟩ = some (.int .i64 z185c3) := (blk_cell BK184.out 2).trans rfl
                  have hfs302 := blk_frozen BK184.out 2; have hms302_0 := NB184_138.out; have hms302_1 := NB184_147.out; have hms302_2 := NB184_155.out; have hms302_3 := NB184_163.out; have hms302_4 := NB184_171.out; have hms302_5 := NB184_179.out; have hms302_6 := NB184_180.out
                  refine skip_ (w1 := ?_) (by rfl) rfl ?_ ?_
                  rotate_left
                  ·go_simp
                   rfl
                  refine hK.out _ _ ⟨((cell_far (p := ⟨gb184, _, none⟩) NB138_184.out _).trans (hHeld.1)), ((cell_far (p := ⟨gb184, _, none⟩) NB138_184.out _).trans (hHeld.2.1)), ((cell_far (p := ⟨gb184, _, none⟩) NB138_184.out _).trans (hHeld.2.2.1)), ((cell_far (p := ⟨gb184, _, none⟩) NB138_184.out _).trans (hHeld.2.2.2.1)), ((cell_far (p := ⟨gb184, _, none⟩) NB138_184.out _).trans (hHeld.2.2.2.2.1)), ((cell_far (p := ⟨gb184, _, none⟩) NB138_184.out _).trans (hHeld.2.2.2.2.2))⟩ (fun hHeld => ?_)
                  clear hK K
                  refine done_ (done_of HT_.out kr_) ?_
                  try go_wp2
                  (first | go_roundg k3 | (simp only [← hji288, ← hji293, ← hji298]; go_roundg k3))
                  case measure => have := HJ11.out; have := HJ182.out; have := HK3.out; omega
                  case rel => exact ⟨(wrap64 (x116_3 + 1)), (ji298), (z185d3), (z185e3), (z185f3), (xrf), (by first | exact H' | (try rw [hji293]; exact H')), ⟨by have := HJ11.out; have := HJ182.out; have := HK3.out; omega⟩, ⟨xK BK138⟩, ⟨xK BK147⟩, ⟨xK BK155⟩, ⟨xK BK163⟩, ⟨xK BK171⟩, ⟨xK BK179⟩, ⟨xK BK180⟩, ⟨xQ BK184⟩, ⟨xW HB⟩⟩⟩
                  exact inferInstanceAs _
                 ·refine box_ ?g19;letI i:type_of% ?g19:=⟨by
                  rw [if_neg c296] at H
                  have c296b0 : ((ji293) == 0) = false := beq_eq_false_iff_ne.mpr c296
                  have c296b1 : ((ji293) != 0) = true := bne_iff_ne.mpr c296
                  obtain ⟨c303b, c303g, c303c, c303d⟩ := xar ((ji293) : Int) 1 1 2
                  obtain ⟨ji304, hji304⟩ : ∃ j_ : Int, (mn a0_3 a3) = j_ := ⟨_, rfl⟩
                  (first | rw [hji304] at H | simp only [hji304] at H)
                  have hji304_ : (if a3 < a0_3 then a3 else a0_3) = ji304 := hji304
                  obtain ⟨c305b, c305g, c305c, c305d⟩ := xar ((ji288) : Int) 0 0 2; obtain ⟨c306b, c306g, c306c, c306d⟩ := xar ((ji293) : Int) 1 1 2
                  have H' := Aside0.mk H
                  clear H
                  try go_wp2
                  replace BK138 := Aside0.mk (blk_drew BK138.out); replace BK147 := Aside0.mk (blk_drew BK147.out); replace BK155 := Aside0.mk (blk_drew BK155.out); replace BK163 := Aside0.mk (blk_drew BK163.out); replace BK171 := Aside0.mk (blk_drew BK171.out); replace BK179 := Aside0.mk (blk_drew BK179.out); replace BK180 := Aside0.mk (blk_drew BK180.out); replace BK184 := Aside0.mk (blk_drew BK184.out); replace HB := Aside0.mk (below_drew1 HB.out)
                  refine start_ (n := 18) (S := fun w' => ce w' gb138 0 (.int .i64 a0_0) ∧ ce w' gb138 1 (.int .i64 a0_1) ∧ ce w' gb138 2 (.int .i64 a0_2) ∧ ce w' gb138 3 (.int .i64 a0_3) ∧ ce w' gb138 4 (.int .i64 a0_4) ∧ ce w' gb138 5 (.int .i64 a0_5)) (ds := []) (mk 18 0) kr_ rfl rfl ⟨xc BK138 0, xc BK138 1, xc BK138 2, xc BK138 3, xc BK138 4, xc BK138 5⟩ (fun hHeld => ?_); refine with_tabW gamehalllaw3_OfferSays.tab23 gamehalllaw3_OfferSays.bits23 (fun HT_ HW_ => ?_)
                  generalize wr.drew = w307 at BK138 BK147 BK155 BK163 BK171 BK179 BK180 BK184 HB hHeld ⊢; refine pu_ 0 119 HT_ ?_; refine pu_ 1 120 HT_ ?_; refine pu_ 2 121 HT_ ?_; refine pu_ 3 122 HT_ ?_; refine pu_ 4 123 HT_ ?_; refine pu_ 5 124 HT_ ?_; refine pu_ 6 125 HT_ ?_; refine pu_ 7 126 HT_ ?_; refine pu_ 8 127 HT_ ?_; refine pu_ 9 128 HT_ ?_; refine pu_ 10 129 HT_ ?_; refine pu_ 12 131 HT_ ?_; refine pu_ 14 133 HT_ ?_; refine pu_ 15 134 HT_ ?_; refine tk_ 11 130 HT_ HW_ hHeld ?_; refine pu_ 13 132 HT_ ?_; refine pu_ 16 135 HT_ ?_
                  refine one_ (i := 17) (N := none) #[true, true, true, true, true, true, true, true, true, true, true, true, true, true, true, true, true, true] rfl rfl (one_of HT_.out kr_) (by decide) (fun K hK => ?_)
                  have hs308 : w307.cell? ⟨gb184, 3, none⟩ = some (.int .i64 z185d3) := (blk_cell BK184.out 3).trans rfl
                  have hfs308 := blk_frozen BK184.out 3; have hms308_0 := NB184_138.out; have hms308_1 := NB184_147.out; have hms308_2 := NB184_155.out; have hms308_3 := NB184_163.out; have hms308_4 := NB184_171.out; have hms308_5 := NB184_179.out; have hms308_6 := NB184_180.out
                  refine skip_ (w1 := ?_) (by rfl) rfl ?_ ?_
                  rotate_left
                  ·go_simp
                   rfl
                  refine hK.out _ _ ⟨((cell_far (p := ⟨gb184, _, none⟩) NB138_184.out _).trans (hHeld.1)), ((cell_far (p := ⟨gb184, _, none⟩) NB138_184.out _).trans (hHeld.2.1)), ((cell_far (p := ⟨gb184, _, none⟩) NB138_184.out _).trans (hHeld.2.2.1)), ((cell_far (p := ⟨gb184, _, none⟩) NB138_184.out _).trans (hHeld.2.2.2.1)), ((cell_far (p := ⟨gb184, _, none⟩) NB138_184.out _).trans (hHeld.2.2.2.2.1)), ((cell_far (p := ⟨gb184, _, none⟩) NB138_184.out _).trans (hHeld.2.2.2.2.2))⟩ (fun hHeld => ?_)
                  clear hK K
                  refine done_ (done_of HT_.out kr_) ?_
                  try go_wp2
                  (first | go_roundg k3 | (simp only [← hji288, ← hji293, ← hji304]; go_roundg k3))
                  case measure => have := HJ11.out; have := HJ182.out; have := HK3.out; omega
                  case rel => exact ⟨(wrap64 (x116_3 + 1)), (z185c3), (ji304), (z185e3), (z185f3), (xrf), (by first | exact H' | (try rw [hji293]; exact H')), ⟨by have := HJ11.out; have := HJ182.out; have := HK3.out; omega⟩, ⟨xK BK138⟩, ⟨xK BK147⟩, ⟨xK BK155⟩, ⟨xK BK163⟩, ⟨xK BK171⟩, ⟨xK BK179⟩, ⟨xK BK180⟩, ⟨xQ BK184⟩, ⟨xW HB⟩⟩⟩
                  exact inferInstanceAs _⟩
                 exact inferInstanceAs _
                ·rw [if_neg c295] at H
                 exact absurd H (by simp)⟩
                exact inferInstanceAs _
               ·rw [if_neg c294] at H
                exact absurd H (by simp)⟩
               exact inferInstanceAs _
              ·refine box_ ?g20;letI i:type_of% ?g20:=⟨by
               rw [if_neg c291] at H
               have c291b0 : ((ji288) == 0) = false := beq_eq_false_iff_ne.mpr c291
               have c291b1 : ((ji288) != 0) = true := bne_iff_ne.mpr c291
               obtain ⟨c309b, c309g, c309c, c309d⟩ := xar ((ji288) : Int) 1 1 2
               obtain ⟨ji310, hji310⟩ : ∃ j_ : Int, (Int.tmod x116_3 2) = j_ := ⟨_, rfl⟩
               (first | rw [hji310] at H | simp only [hji310] at H)
               by_cases c311 : 0 ≤ (ji310)
               ·refine box_ ?g21;letI i:type_of% ?g21:=⟨by
                rw [if_pos c311] at H
                have c311b0 : decide (0 ≤ (ji310)) = true := decide_eq_true c311
                clear c311
                by_cases c312 : (ji310) < 2
                ·refine box_ ?g22;letI i:type_of% ?g22:=⟨by
                 rw [if_pos c312] at H
                 have c312b0 : decide ((ji310) < 2) = true := decide_eq_true c312
                 clear c312
                 by_cases c313 : (ji310) = 0
                 ·refine box_ ?g23;letI i:type_of% ?g23:=⟨by
                  rw [if_pos c313] at H
                  have c313b0 : ((ji310) == 0) = true := beq_iff_eq.mpr c313
                  have c313b1 : ((ji310) != 0) = false := bne_eq_false_iff_eq.mpr c313
                  clear c313; obtain ⟨c314b, c314g, c314c, c314d⟩ := xar ((ji310) : Int) 0 0 2
                  obtain ⟨ji315, hji315⟩ : ∃ j_ : Int, (mn a0_4 a3) = j_ := ⟨_, rfl⟩
                  (first | rw [hji315] at H | simp only [hji315] at H)
                  have hji315_ : (if a3 < a0_4 then a3 else a0_4) = ji315 := hji315
                  obtain ⟨c316b, c316g, c316c, c316d⟩ := xar ((ji288) : Int) 1 1 2; obtain ⟨c317b, c317g, c317c, c317d⟩ := xar ((ji310) : Int) 0 0 2
                  have H' := Aside0.mk H
                  clear H
                  try go_wp2
                  replace BK138 := Aside0.mk (blk_drew BK138.out); replace BK147 := Aside0.mk (blk_drew BK147.out); replace BK155 := Aside0.mk (blk_drew BK155.out); replace BK163 := Aside0.mk (blk_drew BK163.out); replace BK171 := Aside0.mk (blk_drew BK171.out); replace BK179 := Aside0.mk (blk_drew BK179.out); replace BK180 := Aside0.mk (blk_drew BK180.out); replace BK184 := Aside0.mk (blk_drew BK184.out); replace HB := Aside0.mk (below_drew1 HB.out)
                  refine start_ (n := 18) (S := fun w' => ce w' gb138 0 (.int .i64 a0_0) ∧ ce w' gb138 1 (.int .i64 a0_1) ∧ ce w' gb138 2 (.int .i64 a0_2) ∧ ce w' gb138 3 (.int .i64 a0_3) ∧ ce w' gb138 4 (.int .i64 a0_4) ∧ ce w' gb138 5 (.int .i64 a0_5)) (ds := []) (mk 18 0) kr_ rfl rfl ⟨xc BK138 0, xc BK138 1, xc BK138 2, xc BK138 3, xc BK138 4, xc BK138 5⟩ (fun hHeld => ?_); refine with_tabW gamehalllaw3_OfferSays.tab23 gamehalllaw3_OfferSays.bits23 (fun HT_ HW_ => ?_)
                  generalize wr.drew = w318 at BK138 BK147 BK155 BK163 BK171 BK179 BK180 BK184 HB hHeld ⊢; refine pu_ 0 119 HT_ ?_; refine pu_ 1 120 HT_ ?_; refine pu_ 2 121 HT_ ?_; refine pu_ 3 122 HT_ ?_; refine pu_ 4 123 HT_ ?_; refine pu_ 5 124 HT_ ?_; refine pu_ 6 125 HT_ ?_; refine pu_ 7 126 HT_ ?_; refine pu_ 8 127 HT_ ?_; refine pu_ 9 128 HT_ ?_; refine pu_ 10 129 HT_ ?_; refine pu_ 12 131 HT_ ?_; refine pu_ 14 133 HT_ ?_; refine pu_ 15 134 HT_ ?_; refine tk_ 11 130 HT_ HW_ hHeld ?_; refine pu_ 13 132 HT_ ?_; refine pu_ 16 135 HT_ ?_
                  refine one_ (i := 17) (N := none) #[true, true, true, true, true, true, true, true, true, true, true, true, true, true, true, true, true, true] rfl rfl (one_of HT_.out kr_) (by decide) (fun K hK => ?_)
                  have hs319 : w318.cell? ⟨gb184, 4, none⟩ = some (.int .i64 z185e3) := (blk_cell BK184.out 4).trans rfl
                  have hfs319 := blk_frozen BK184.out 4; have hms319_0 := NB184_138.out; have hms319_1 := NB184_147.out; have hms319_2 := NB184_155.out; have hms319_3 := NB184_163.out; have hms319_4 := NB184_171.out; have hms319_5 := NB184_179.out; have hms319_6 := NB184_180.out
                  refine skip_ (w1 := ?_) (by rfl) rfl ?_ ?_
                  rotate_left
                  ·go_simp
                   rfl
                  refine hK.out _ _ ⟨((cell_far (p := ⟨gb184, _, none⟩) NB138_184.out _).trans (hHeld.1)), ((cell_far (p := ⟨gb184, _, none⟩) NB138_184.out _).trans (hHeld.2.1)), ((cell_far (p := ⟨gb184, _, none⟩) NB138_184.out _).trans (hHeld.2.2.1)), ((cell_far (p := ⟨gb184, _, none⟩) NB138_184.out _).trans (hHeld.2.2.2.1)), ((cell_far (p := ⟨gb184, _, none⟩) NB138_184.out _).trans (hHeld.2.2.2.2.1)), ((cell_far (p := ⟨gb184, _, none⟩) NB138_184.out _).trans (hHeld.2.2.2.2.2))⟩ (fun hHeld => ?_)
                  clear hK K
                  refine done_ (done_of HT_.out kr_) ?_
                  try go_wp2
                  (first | go_roundg k3 | (simp only [← hji288, ← hji310, ← hji315]; go_roundg k3))
                  case measure => have := HJ11.out; have := HJ182.out; have := HK3.out; omega
                  case rel => exact ⟨(wrap64 (x116_3 + 1)), (z185c3), (z185d3), (ji315), (z185f3), (xrf), (by first | exact H' | (try rw [hji310]; exact H')), ⟨by have := HJ11.out; have := HJ182.out; have := HK3.out; omega⟩, ⟨xK BK138⟩, ⟨xK BK147⟩, ⟨xK BK155⟩, ⟨xK BK163⟩, ⟨xK BK171⟩, ⟨xK BK179⟩, ⟨xK BK180⟩, ⟨xQ BK184⟩, ⟨xW HB⟩⟩⟩
                  exact inferInstanceAs _
                 ·refine box_ ?g24;letI i:type_of% ?g24:=⟨by
                  rw [if_neg c313] at H
                  have c313b0 : ((ji310) == 0) = false := beq_eq_false_iff_ne.mpr c313
                  have c313b1 : ((ji310) != 0) = true := bne_iff_ne.mpr c313
                  obtain ⟨c320b, c320g, c320c, c320d⟩ := xar ((ji310) : Int) 1 1 2
                  obtain ⟨ji321, hji321⟩ : ∃ j_ : Int, (mn a0_5 a3) = j_ := ⟨_, rfl⟩
                  (first | rw [hji321] at H | simp only [hji321] at H)
                  have hji321_ : (if a3 < a0_5 then a3 else a0_5) = ji321 := hji321
                  obtain ⟨c322b, c322g, c322c, c322d⟩ := xar ((ji288) : Int) 1 1 2; obtain ⟨c323b, c323g, c323c, c323d⟩ := xar ((ji310) : Int) 1 1 2
                  have H' := Aside0.mk H
                  clear H
                  try go_wp2
                  replace BK138 := Aside0.mk (blk_drew BK138.out); replace BK147 := Aside0.mk (blk_drew BK147.out); replace BK155 := Aside0.mk (blk_drew BK155.out); replace BK163 := Aside0.mk (blk_drew BK163.out); replace BK171 := Aside0.mk (blk_drew BK171.out); replace BK179 := Aside0.mk (blk_drew BK179.out); replace BK180 := Aside0.mk (blk_drew BK180.out); replace BK184 := Aside0.mk (blk_drew BK184.out); replace HB := Aside0.mk (below_drew1 HB.out)
                  refine start_ (n := 18) (S := fun w' => ce w' gb138 0 (.int .i64 a0_0) ∧ ce w' gb138 1 (.int .i64 a0_1) ∧ ce w' gb138 2 (.int .i64 a0_2) ∧ ce w' gb138 3 (.int .i64 a0_3) ∧ ce w' gb138 4 (.int .i64 a0_4) ∧ ce w' gb138 5 (.int .i64 a0_5)) (ds := []) (mk 18 0) kr_ rfl rfl ⟨xc BK138 0, xc BK138 1, xc BK138 2, xc BK138 3, xc BK138 4, xc BK138 5⟩ (fun hHeld => ?_); refine with_tabW gamehalllaw3_OfferSays.tab23 gamehalllaw3_OfferSays.bits23 (fun HT_ HW_ => ?_)
                  generalize wr.drew = w324 at BK138 BK147 BK155 BK163 BK171 BK179 BK180 BK184 HB hHeld ⊢; refine pu_ 0 119 HT_ ?_; refine pu_ 1 120 HT_ ?_; refine pu_ 2 121 HT_ ?_; refine pu_ 3 122 HT_ ?_; refine pu_ 4 123 HT_ ?_; refine pu_ 5 124 HT_ ?_; refine pu_ 6 125 HT_ ?_; refine pu_ 7 126 HT_ ?_; refine pu_ 8 127 HT_ ?_; refine pu_ 9 128 HT_ ?_; refine pu_ 10 129 HT_ ?_; refine pu_ 12 131 HT_ ?_; refine pu_ 14 133 HT_ ?_; refine pu_ 15 134 HT_ ?_; refine tk_ 11 130 HT_ HW_ hHeld ?_; refine pu_ 13 132 HT_ ?_; refine pu_ 16 135 HT_ ?_
                  refine one_ (i := 17) (N := none) #[true, true, true, true, true, true, true, true, true, true, true, true, true, true, true, true, true, true] rfl rfl (one_of HT_.out kr_) (by decide) (fun K hK => ?_)
                  have hs325 : w324.cell? ⟨gb184, 5, none⟩ = some (.int .i64 z185f3) := (blk_cell BK184.out 5).trans rfl
                  have hfs325 := blk_frozen BK184.out 5; have hms325_0 := NB184_138.out; have hms325_1 := NB184_147.out; have hms325_2 := NB184_155.out; have hms325_3 := NB184_163.out; have hms325_4 := NB184_171.out; have hms325_5 := NB184_179.out; have hms325_6 := NB184_180.out
                  refine skip_ (w1 := ?_) (by rfl) rfl ?_ ?_
                  rotate_left
                  ·go_simp
                   rfl
                  refine hK.out _ _ ⟨((cell_far (p := ⟨gb184, _, none⟩) NB138_184.out _).trans (hHeld.1)), ((cell_far (p := ⟨gb184, _, none⟩) NB138_184.out _).trans (hHeld.2.1)), ((cell_far (p := ⟨gb184, _, none⟩) NB138_184.out _).trans (hHeld.2.2.1)), ((cell_far (p := ⟨gb184, _, none⟩) NB138_184.out _).trans (hHeld.2.2.2.1)), ((cell_far (p := ⟨gb184, _, none⟩) NB138_184.out _).trans (hHeld.2.2.2.2.1)), ((cell_far (p := ⟨gb184, _, none⟩) NB138_184.out _).trans (hHeld.2.2.2.2.2))⟩ (fun hHeld => ?_)
                  clear hK K
                  refine done_ (done_of HT_.out kr_) ?_
                  try go_wp2
                  (first | go_roundg k3 | (simp only [← hji288, ← hji310, ← hji321]; go_roundg k3))
                  case measure => have := HJ11.out; have := HJ182.out; have := HK3.out; omega
                  case rel => exact ⟨(wrap64 (x116_3 + 1)), (z185c3), (z185d3), (z185e3), (ji321), (xrf), (by first | exact H' | (try rw [hji310]; exact H')), ⟨by have := HJ11.out; have := HJ182.out; have := HK3.out; omega⟩, ⟨xK BK138⟩, ⟨xK BK147⟩, ⟨xK BK155⟩, ⟨xK BK163⟩, ⟨xK BK171⟩, ⟨xK BK179⟩, ⟨xK BK180⟩, ⟨xQ BK184⟩, ⟨xW HB⟩⟩⟩
                  exact inferInstanceAs _⟩
                 exact inferInstanceAs _
                ·rw [if_neg c312] at H
                 exact absurd H (by simp)⟩
                exact inferInstanceAs _
               ·rw [if_neg c311] at H
                exact absurd H (by simp)⟩
               exact inferInstanceAs _⟩
              exact inferInstanceAs _
             ·rw [if_neg c290] at H
              exact absurd H (by simp)⟩
             exact inferInstanceAs _
            ·rw [if_neg c289] at H
             exact absurd H (by simp)⟩
            exact inferInstanceAs _
           ·refine box_ ?g25;letI i:type_of% ?g25:=⟨by
            rw [if_neg c287] at H
            have c287b0 : decide (x116_3 < 4) = false := decide_eq_false c287
            clear c287
            by_cases c326 : ((!(t172 == (-1)) || (!(t173 == (-1)))) || (((!(t174 == z185c3) || (!(t175 == z185d3))) || ((!(t176 == z185e3) || (!(t177 == z185f3))))))) = true
            ·refine box_ ?g26;letI i:type_of% ?g26:=⟨by
             rw [if_pos c326] at H
             have c326b0 : ((!(t172 == (-1)) || (!(t173 == (-1)))) || (((!(t174 == z185c3) || (!(t175 == z185d3))) || ((!(t176 == z185e3) || (!(t177 == z185f3))))))) = true := c326
             clear c326
             obtain rfl := Option.some.inj H
             have hcz334_0 := blkc6 BK179.out; have hcz341_0 := blkc6 BK184.out
             go_wp2
             go_ret
             exact ⟨xer, xW HB⟩⟩
             exact inferInstanceAs _
            ·refine box_ ?g27;letI i:type_of% ?g27:=⟨by
             rw [if_neg c326] at H
             have c326b0 : ((!(t172 == (-1)) || (!(t173 == (-1)))) || (((!(t174 == z185c3) || (!(t175 == z185d3))) || ((!(t176 == z185e3) || (!(t177 == z185f3))))))) = false := by simpa using c326
             clear c326
             have H' := Aside0.mk H
             clear H; have hcz349_0 := blkc6 BK179.out; have hcz356_0 := blkc6 BK184.out
             go_wp2
             go_meet
             case rel => exact ⟨_, H', ⟨by have := HJ11.out; have := HJ182.out; have := HK3.out; first | omega | exact Nat.le_refl _⟩, ⟨xK BK138⟩, ⟨xK BK147⟩, ⟨xK BK155⟩, ⟨xK BK163⟩, ⟨xK BK171⟩, ⟨xK BK179⟩, ⟨xK BK180⟩, ⟨xW HB⟩⟩⟩
             exact inferInstanceAs _⟩
            exact inferInstanceAs _⟩
         exact inferInstanceAs _
        ·refine box_ ?g28;letI i:type_of% ?g28:=⟨by
         rw [if_neg c277] at H
         have c277b0 : (t178 == 0) = false := beq_eq_false_iff_ne.mpr c277
         have c277b1 : (t178 != 0) = true := bne_iff_ne.mpr c277
         (first | rw [c277b0] | (simp only [i64_w, i32_w]; rw [c277b0]) | skip)
         have H' := Aside0.mk H
         clear H
         go_wp2
         go_meet
         case rel => exact ⟨_, H', ⟨by have := HJ11.out; have := HJ182.out; first | omega | exact Nat.le_refl _⟩, ⟨xK BK138⟩, ⟨xK BK147⟩, ⟨xK BK155⟩, ⟨xK BK163⟩, ⟨xK BK171⟩, ⟨xK BK179⟩, ⟨xK BK180⟩, ⟨xW HB⟩⟩⟩
         exact inferInstanceAs _⟩
        exact inferInstanceAs _
       case rest =>
        repeat (rename_i xv2_; (first | (have zv_ : Value := xv2_; clear zv_; clear xv2_) | revert xv2_))
        (try revert xv0_); (try revert xv0__1); (try revert xv0__2); (try revert xv0__3); (try revert xv0__4); (try revert xv0__5); (try revert xv0__6); (try revert xv0__7); (try revert xv0__8); (try revert xv0__9); (try revert xv0__10); (try revert xv0__11); (try revert xv0__12)
        (try revert xv1_); (try revert xv1__1); (try revert xv1__2); (try revert xv1__3); (try revert xv1__4); (try revert xv1__5); (try revert xv1__6); (try revert xv1__7); (try revert xv1__8); (try revert xv1__9); (try revert xv1__10); (try revert xv1__11); (try revert xv1__12)
        (try revert kj182); (try revert HJ182); (try revert kj11); (try revert HJ11); (try revert HA); (try revert x95_11); (try revert kq); (try revert wc); (try revert vs95); (try revert w50); (try revert gb180); (try revert w43); (try revert gb179); (try revert w42); (try revert w35); (try revert gb171)
        (try revert w34); (try revert w28); (try revert gb163); (try revert w27); (try revert w22); (try revert gb155); (try revert w21); (try revert w17); (try revert gb147); (try revert w16); (try revert rfl); (try revert w14); (try revert e); (try revert hb); (try revert hbox); (try revert w13)
        (try revert hg); (try revert gb138); (try revert t178); (try revert t177); (try revert t176); (try revert t175); (try revert t174); (try revert t173); (try revert t172); (try revert t170); (try revert t169); (try revert t168); (try revert t167); (try revert t166); (try revert t165); (try revert t164)
        (try revert t162); (try revert t161); (try revert t160); (try revert t159); (try revert t158); (try revert t157); (try revert t156); (try revert t154); (try revert t153); (try revert t152); (try revert t151); (try revert t150); (try revert t149); (try revert t148); (try revert t146); (try revert t145)
        (try revert t144); (try revert t143); (try revert t142); (try revert t141); (try revert t140); (try revert t182); (try revert t181); (try revert bt172); (try revert bt164); (try revert bt156); (try revert bt148); (try revert bt140); (try revert t139); (try revert hss_); (try revert h); (try revert w)
        (try revert r); (try revert a3); (try revert a2); (try revert a1); (try revert a0_5); (try revert a0_4); (try revert a0_3); (try revert a0_2); (try revert a0_1); (try revert a0_0); (try revert k); (try revert hu22); (try revert hu25); (try revert u324); (try revert u323); (try revert u322)
        (try revert u321); (try revert u320); (try revert u319); (try revert u318); (try revert u317); (try revert u316); (try revert u315); (try revert u314); (try revert u313); (try revert u312); (try revert u311); (try revert u310); (try revert u309); (try revert u308); (try revert u307); (try revert u306)
        (try revert u305); (try revert u304); (try revert u303); (try revert u302); (try revert u301); (try revert u300); (try revert u299); (try revert u298); (try revert u297); (try revert u296); (try revert u295); (try revert u294); (try revert u293); (try revert u292); (try revert u291); (try revert u290)
        (try revert u289); (try revert u288); (try revert u287); (try revert u286); (try revert u285); (try revert u284); (try revert u283); (try revert u282); (try revert u281); (try revert u280); (try revert u279); (try revert u278); (try revert u277); (try revert u276); (try revert u275); (try revert u274)
        (try revert u273); (try revert u272); (try revert u271); (try revert u270); (try revert u269); (try revert u268); (try revert u267); (try revert u266); (try revert u265); (try revert u264); (try revert u263); (try revert u262); (try revert u261); (try revert u260); (try revert u259); (try revert u258)
        (try revert u257); (try revert u256); (try revert u255); (try revert u254); (try revert u253); (try revert u252); (try revert u251); (try revert u250); (try revert u249); (try revert u248); (try revert u247); (try revert u246); (try revert u245); (try revert u244); (try revert u243); (try revert u242)
        (try revert u241); (try revert u240); (try revert u239); (try revert u238); (try revert u237); (try revert u236); (try revert u235); (try revert u234); (try revert u233); (try revert u232); (try revert u231); (try revert u230); (try revert u229); (try revert u228); (try revert u227); (try revert u226)
        (try revert u225); (try revert u224); (try revert u223); (try revert u222); (try revert u221); (try revert u220); (try revert u219); (try revert u218); (try revert u217); (try revert u216); (try revert u215); (try revert u214); (try revert u213); (try revert u212); (try revert u211); (try revert u210)
        (try revert u209); (try revert u208); (try revert u207); (try revert u206); (try revert u205); (try revert u204); (try revert u203); (try revert u202); (try revert u201); (try revert u200); (try revert u199); (try revert u198); (try revert u197); (try revert u196); (try revert u195); (try revert u194)
        (try revert u193); (try revert u192); (try revert u191); (try revert u190); (try revert u189); (try revert u188); (try revert u187); (try revert u186); (try revert u185); (try revert u184); (try revert u183); (try revert u182); (try revert u181); (try revert u180); (try revert u179); (try revert u178)
        (try revert u177); (try revert u176); (try revert u175); (try revert u174); (try revert u173); (try revert u172); (try revert u171); (try revert u170); (try revert u169); (try revert u168); (try revert u167); (try revert u166); (try revert u165); (try revert u164); (try revert u163); (try revert u162)
        (try revert u161); (try revert u160); (try revert u159); (try revert u158); (try revert u157); (try revert u156); (try revert u155); (try revert u154); (try revert u153); (try revert u152); (try revert u151); (try revert u150); (try revert u149); (try revert u148); (try revert u147); (try revert u146)
        (try revert u145); (try revert u144); (try revert u143); (try revert u142); (try revert u141); (try revert u140); (try revert u139); (try revert u138); (try revert u137); (try revert u136); (try revert u135); (try revert u134); (try revert u133); (try revert u132); (try revert u131); (try revert u130)
        (try revert u129); (try revert u128); (try revert u127); (try revert u126); (try revert u125); (try revert u124); (try revert u123); (try revert u122); (try revert u121); (try revert u120); (try revert u119); (try revert u118); (try revert u117); (try revert u116); (try revert u115); (try revert u114)
        (try revert u113); (try revert u112); (try revert u111); (try revert u110); (try revert u109); (try revert u108); (try revert u107); (try revert u106); (try revert u105); (try revert u104); (try revert u103); (try revert u102); (try revert u101); (try revert u100); (try revert u99); (try revert u98)
        (try revert u97); (try revert u96); (try revert u95); (try revert u94); (try revert u93); (try revert u92); (try revert u91); (try revert u90); (try revert u89); (try revert u88); (try revert u87); (try revert u86); (try revert u85); (try revert u84); (try revert u83); (try revert u82)
        (try revert u81); (try revert u80); (try revert u79); (try revert u78); (try revert u77); (try revert u76); (try revert u75); (try revert u74); (try revert u73); (try revert u72); (try revert u71); (try revert u70); (try revert u69); (try revert u68); (try revert u67); (try revert u66)
        (try revert u65); (try revert u64); (try revert u63); (try revert u62); (try revert u61); (try revert u60); (try revert u59); (try revert u58); (try revert u57); (try revert u56); (try revert u55); (try revert u54); (try revert u53); (try revert u52); (try revert u51); (try revert u50)
        (try revert u49); (try revert u48); (try revert u47); (try revert u46); (try revert u45); (try revert u44); (try revert u43); (try revert u42); (try revert u41); (try revert u40); (try revert u39); (try revert u38); (try revert u37); (try revert u36); (try revert u35); (try revert u34)
        (try revert u33); (try revert u32); (try revert u31); (try revert u30); (try revert u29); (try revert u28); (try revert u27); (try revert u26); (try revert u25); (try revert u24); (try revert u23); (try revert u22); (try revert u21); (try revert u20); (try revert u19); (try revert u18)
        (try revert u17); (try revert u16); (try revert u15); (try revert u14); (try revert u13); (try revert u12); (try revert u11); (try revert u10); (try revert u9); (try revert u8); (try revert u7); (try revert u6); (try revert u5); (try revert u4); (try revert u3); (try revert u2)
        (try revert u1); (try revert u0)
        repeat (rename_i xv2_; (first | (have zv_ : Value := xv2_; clear zv_; clear xv2_) | revert xv2_))
        (try revert xv0_); (try revert xv0__1); (try revert xv0__2); (try revert xv0__3); (try revert xv0__4); (try revert xv0__5); (try revert xv0__6); (try revert xv0__7); (try revert xv0__8); (try revert xv0__9); (try revert xv0__10); (try revert xv0__11); (try revert xv0__12)
        (try revert xv1_); (try revert xv1__1); (try revert xv1__2); (try revert xv1__3); (try revert xv1__4); (try revert xv1__5); (try revert xv1__6); (try revert xv1__7); (try revert xv1__8); (try revert xv1__9); (try revert xv1__10); (try revert xv1__11); (try revert xv1__12)
        repeat (rename_i xv2_; (first | (have zv_ : Value := xv2_; clear zv_; clear xv2_) | revert xv2_))
        have zz_ := True.intro
        revert zz_
        exact hP_
set_option maxHeartbeats 80000000 in
set_option maxRecDepth 100000 in
def gamehalllaw3_OfferSays_rest3 : {P : Prop // P → (gamehalllaw3_OfferSays_rest2.1)} := by
        apply Subtype.mk
        intro hP_
        intro zz_
        unhygienic intros
        clear zz_
        clear HC276; (try clear p2); (try clear p6); (try clear p64)
        obtain ⟨kq, HA, HJ275, BK138, BK147, BK155, BK163, BK171, BK179, BK180, HB⟩ := hcut
        cases kq with
        | zero => exact absurd HA.out (by simp [gamehalllaw3_OfferSays.j3])
        | succ kj275 =>
         have H := HA.out; clear HA
         simp only [gamehalllaw3_OfferSays.j3] at H
         replace H := Option.bind_eq_some_iff.mp H
         obtain ⟨t185, A3570, H⟩ := H
         try dsimp only at H
         have A357 := Aside0.mk A3570; clear A3570
         by_cases c358 : t185 = 0
         ·rw [if_pos c358] at H
          have c358b0 : (t185 == 0) = true := beq_iff_eq.mpr c358
          have c358b1 : (t185 != 0) = false := bne_eq_false_iff_eq.mpr c358
          clear c358; have HC359 := Aside0.mk H; clear H; have hcz366_0 := blkc6 BK138.out
          go_upto_block 2 with (first | ((with_reducible refine gate_callee (f := 10) rfl ?_); refine goesL_ (some 144) rfl rfl Try.func10 kr_ rfl #[.agg #[.int .i64 a0_0, .int .i64 a0_1, .int .i64 a0_2, .int .i64 a0_3, .int .i64 a0_4, .int .i64 a0_5], .int .i64 a1, .int .i64 a2, .int .i64 a3] rfl (by (try simp only [List.map_toArray, List.map_cons, List.map_nil]); first | done | rfl | (simp only [List.length_drop, List.length_take]; rfl)) ?_; (with_reducible refine (gamehalllaw3_offerFault.calls kj275 a0_0 a0_1 a0_2 a0_3 a0_4 a0_5 a1 a2 a3 t185 _ A357.out).mono ?_); rintro e w367 ⟨rfl, hb⟩; refine ⟨_, rfl, ?_⟩; replace BK138 := Aside0.mk (xB BK138 hb); replace BK147 := Aside0.mk (xB BK147 hb); replace BK155 := Aside0.mk (xB BK155 hb); replace BK163 := Aside0.mk (xB BK163 hb); replace BK171 := Aside0.mk (xB BK171 hb); replace BK179 := Aside0.mk (xB BK179 hb); replace BK180 := Aside0.mk (xB BK180 hb); replace HB := Aside0.mk (xS HB hb); (try clear hb); (try clear hb2); (try clear hk); (try clear hi)))
          (try simp only [Act.put, List.setIfInBounds_toArray, List.set_cons_zero, List.set_cons_succ])
          go_cut [24] (fun vs24 wc => ∃ (kq : Nat) (x24_358 : Int), vs24 = .int .i64 x24_358 ∧ Aside0 (gamehalllaw3_OfferSays.j6 kq a1 a2 a3 t146 t154 t162 x24_358 a0_0 a0_1 a0_2 a0_3 a0_4 a0_5 t140 t141 t142 t143 t144 t145 t148 t149 t150 t151 t152 t153 t156 t157 t158 t159 t160 t161 0 0 0 0 0 0 = some r) ∧ Aside0 (kq ≤ kj275) ∧ Aside0 (wc.heap[gb138]? = some (.cells #[.int .i64 a0_0, .int .i64 a0_1, .int .i64 a0_2, .int .i64 a0_3, .int .i64 a0_4, .int .i64 a0_5] 25 (0, 0))) ∧ Aside0 (wc.heap[gb147]? = some (.cells #[.int .i64 t140, .int .i64 t141, .int .i64 t142, .int .i64 t143, .int .i64 t144, .int .i64 t145] 25 (0, 0))) ∧ Aside0 (wc.heap[gb155]? = some (.cells #[.int .i64 t148, .int .i64 t149, .int .i64 t150, .int .i64 t151, .int .i64 t152, .int .i64 t153] 25 (0, 0))) ∧ Aside0 (wc.heap[gb163]? = some (.cells #[.int .i64 t156, .int .i64 t157, .int .i64 t158, .int .i64 t159, .int .i64 t160, .int .i64 t161] 25 (0, 0))) ∧ Aside0 (wc.heap[gb171]? = some (.cells #[.int .i64 t164, .int .i64 t165, .int .i64 t166, .int .i64 t167, .int .i64 t168, .int .i64 t169] 25 (0, 0))) ∧ Aside0 (wc.heap[gb179]? = some (.cells #[.int .i64 t172, .int .i64 t173, .int .i64 t174, .int .i64 t175, .int .i64 t176, .int .i64 t177] 25 (0, 0))) ∧ Aside0 (wc.heap[gb180]? = some (.cells #[.int .i64 0, .int .i64 0, .int .i64 0, .int .i64 0, .int .i64 0, .int .i64 0] 25 (0, 0))) ∧ Aside0 (Below w.heap.size w wc))
          case first =>
           refine box_ ?g29;letI i:type_of% ?g29:=⟨by
           have H := HC359.out; clear HC359; have HC368 := Aside0.mk H; clear H
           go_upto_region 31 with (fail)
           go_cut [175] (fun vs175 wc => ∃ (kq : Nat) (x175_367 : Bool), vs175 = .bool x175_367 ∧ Aside0 (gamehalllaw3_OfferSays.j4 kq a1 a2 a3 t146 t154 t162 0 x175_367 a0_0 a0_1 a0_2 a0_3 a0_4 a0_5 t140 t141 t142 t143 t144 t145 t148 t149 t150 t151 t152 t153 t156 t157 t158 t159 t160 t161 0 0 0 0 0 0 = some r) ∧ Aside0 (kq ≤ kj275) ∧ Aside0 (wc.heap[gb138]? = some (.cells #[.int .i64 a0_0, .int .i64 a0_1, .int .i64 a0_2, .int .i64 a0_3, .int .i64 a0_4, .int .i64 a0_5] 25 (0, 0))) ∧ Aside0 (wc.heap[gb147]? = some (.cells #[.int .i64 t140, .int .i64 t141, .int .i64 t142, .int .i64 t143, .int .i64 t144, .int .i64 t145] 25 (0, 0))) ∧ Aside0 (wc.heap[gb155]? = some (.cells #[.int .i64 t148, .int .i64 t149, .int .i64 t150, .int .i64 t151, .int .i64 t152, .int .i64 t153] 25 (0, 0))) ∧ Aside0 (wc.heap[gb163]? = some (.cells #[.int .i64 t156, .int .i64 t157, .int .i64 t158, .int .i64 t159, .int .i64 t160, .int .i64 t161] 25 (0, 0))) ∧ Aside0 (wc.heap[gb171]? = some (.cells #[.int .i64 t164, .int .i64 t165, .int .i64 t166, .int .i64 t167, .int .i64 t168, .int .i64 t169] 25 (0, 0))) ∧ Aside0 (wc.heap[gb179]? = some (.cells #[.int .i64 t172, .int .i64 t173, .int .i64 t174, .int .i64 t175, .int .i64 t176, .int .i64 t177] 25 (0, 0))) ∧ Aside0 (wc.heap[gb180]? = some (.cells #[.int .i64 0, .int .i64 0, .int .i64 0, .int .i64 0, .int .i64 0, .int .i64 0] 25 (0, 0))) ∧ Aside0 (Below w.heap.size w wc))
           case first =>
            refine box_ ?g30;letI i:type_of% ?g30:=⟨by
            have H := HC368.out; clear HC368
            by_cases c369 : 0 ≤ a1
            ·refine box_ ?g31;letI i:type_of% ?g31:=⟨by
             rw [if_pos c369] at H
             have c369b0 : decide (0 ≤ a1) = true := decide_eq_true c369
             clear c369
             (first | rw [c369b0] | (simp only [i64_w, i32_w]; rw [c369b0]) | skip)
             by_cases c370 : a1 < 2
             ·refine box_ ?g32;letI i:type_of% ?g32:=⟨by
              rw [if_pos c370] at H
              have c370b0 : decide (a1 < 2) = true := decide_eq_true c370
              clear c370
              by_cases c371 : a1 = 0
              ·refine box_ ?g33;letI i:type_of% ?g33:=⟨by
               rw [if_pos c371] at H
               have c371b0 : (a1 == 0) = true := beq_iff_eq.mpr c371
               have c371b1 : (a1 != 0) = false := bne_eq_false_iff_eq.mpr c371
               clear c371; obtain ⟨c372b, c372g, c372c, c372d⟩ := xar (a1 : Int) 0 0 2
               have H' := Aside0.mk H
               clear H; have hcz379_0 := blkc6 BK138.out
               go_wp2
               go_meet
               case rel => exact ⟨_, ((a0_0 != (-1))), (xrf), H', ⟨by have := HJ11.out; have := HJ182.out; have := HJ275.out; first | omega | exact Nat.le_refl _⟩, ⟨xK BK138⟩, ⟨xK BK147⟩, ⟨xK BK155⟩, ⟨xK BK163⟩, ⟨xK BK171⟩, ⟨xK BK179⟩, ⟨xK BK180⟩, ⟨xW HB⟩⟩⟩
               exact inferInstanceAs _
              ·refine box_ ?g34;letI i:type_of% ?g34:=⟨by
               rw [if_neg c371] at H
               have c371b0 : (a1 == 0) = false := beq_eq_false_iff_ne.mpr c371
               have c371b1 : (a1 != 0) = true := bne_iff_ne.mpr c371
               obtain ⟨c380b, c380g, c380c, c380d⟩ := xar (a1 : Int) 1 1 2
               have H' := Aside0.mk H
               clear H; have hcz387_0 := blkc6 BK138.out
               go_wp2
               go_meet
               case rel => exact ⟨_, ((a0_1 != (-1))), (xrf), H', ⟨by have := HJ11.out; have := HJ182.out; have := HJ275.out; first | omega | exact Nat.le_refl _⟩, ⟨xK BK138⟩, ⟨xK BK147⟩, ⟨xK BK155⟩, ⟨xK BK163⟩, ⟨xK BK171⟩, ⟨xK BK179⟩, ⟨xK BK180⟩, ⟨xW HB⟩⟩⟩
               exact inferInstanceAs _⟩
              exact inferInstanceAs _
             ·rw [if_neg c370] at H
              exact absurd H (by simp)⟩
             exact inferInstanceAs _
            ·rw [if_neg c369] at H
             exact absurd H (by simp)⟩
            exact inferInstanceAs _
           case rest =>
            refine box_ ?g35;letI i:type_of% ?g35:=⟨by
            clear HC368; (try clear p2); (try clear p6); (try clear p64); (try clear p2); (try clear p6); (try clear p64)
            obtain ⟨kq, x175_367, rfl, HA, HJ367, BK138, BK147, BK155, BK163, BK171, BK179, BK180, HB⟩ := hcut
            cases kq with
            | zero => exact absurd HA.out (by simp [gamehalllaw3_OfferSays.j4])
            | succ kj367 =>
             have H := HA.out; clear HA
             simp only [gamehalllaw3_OfferSays.j4] at H
             by_cases c388 : x175_367 = true
             ·subst c388
              rw [if_pos rfl] at H
              have H' := Aside0.mk H
              clear H
              go_wp2
              go_meet
              case rel => exact ⟨_, (7), (xrf), H', ⟨by have := HJ11.out; have := HJ182.out; have := HJ275.out; have := HJ367.out; first | omega | exact Nat.le_refl _⟩, ⟨xK BK138⟩, ⟨xK BK147⟩, ⟨xK BK155⟩, ⟨xK BK163⟩, ⟨xK BK171⟩, ⟨xK BK179⟩, ⟨xK BK180⟩, ⟨xW HB⟩⟩
             ·replace c388 := Bool.eq_false_iff.mpr c388
              subst c388
              rw [if_neg (show ¬ (false = true) by decide)] at H
              have HC389 := Aside0.mk H; clear H
              go_upto_region 33 with (fail)
              go_cut [181] (fun vs181 wc => ∃ (kq : Nat) (x181_388 : Bool), vs181 = .bool x181_388 ∧ Aside0 (gamehalllaw3_OfferSays.j5 kq a1 a2 a3 t146 t154 t162 0 x181_388 a0_0 a0_1 a0_2 a0_3 a0_4 a0_5 t140 t141 t142 t143 t144 t145 t148 t149 t150 t151 t152 t153 t156 t157 t158 t159 t160 t161 0 0 0 0 0 0 = some r) ∧ Aside0 (kq ≤ kj367) ∧ Aside0 (wc.heap[gb138]? = some (.cells #[.int .i64 a0_0, .int .i64 a0_1, .int .i64 a0_2, .int .i64 a0_3, .int .i64 a0_4, .int .i64 a0_5] 25 (0, 0))) ∧ Aside0 (wc.heap[gb147]? = some (.cells #[.int .i64 t140, .int .i64 t141, .int .i64 t142, .int .i64 t143, .int .i64 t144, .int .i64 t145] 25 (0, 0))) ∧ Aside0 (wc.heap[gb155]? = some (.cells #[.int .i64 t148, .int .i64 t149, .int .i64 t150, .int .i64 t151, .int .i64 t152, .int .i64 t153] 25 (0, 0))) ∧ Aside0 (wc.heap[gb163]? = some (.cells #[.int .i64 t156, .int .i64 t157, .int .i64 t158, .int .i64 t159, .int .i64 t160, .int .i64 t161] 25 (0, 0))) ∧ Aside0 (wc.heap[gb171]? = some (.cells #[.int .i64 t164, .int .i64 t165, .int .i64 t166, .int .i64 t167, .int .i64 t168, .int .i64 t169] 25 (0, 0))) ∧ Aside0 (wc.heap[gb179]? = some (.cells #[.int .i64 t172, .int .i64 t173, .int .i64 t174, .int .i64 t175, .int .i64 t176, .int .i64 t177] 25 (0, 0))) ∧ Aside0 (wc.heap[gb180]? = some (.cells #[.int .i64 0, .int .i64 0, .int .i64 0, .int .i64 0, .int .i64 0, .int .i64 0] 25 (0, 0))) ∧ Aside0 (Below w.heap.size w wc))
              case first =>
               refine box_ ?g36;letI i:type_of% ?g36:=⟨by
               have H := HC389.out; clear HC389
               by_cases c390 : 0 ≤ a1
               ·refine box_ ?g37;letI i:type_of% ?g37:=⟨by
                rw [if_pos c390] at H
                have c390b0 : decide (0 ≤ a1) = true := decide_eq_true c390
                clear c390
                (first | rw [c390b0] | (simp only [i64_w, i32_w]; rw [c390b0]) | skip)
                by_cases c391 : a1 < 2
                ·refine box_ ?g38;letI i:type_of% ?g38:=⟨by
                 rw [if_pos c391] at H
                 have c391b0 : decide (a1 < 2) = true := decide_eq_true c391
                 clear c391
                 by_cases c392 : a1 = 0
                 ·refine box_ ?g39;letI i:type_of% ?g39:=⟨by
                  rw [if_pos c392] at H
                  have c392b0 : (a1 == 0) = true := beq_iff_eq.mpr c392
                  have c392b1 : (a1 != 0) = false := bne_eq_false_iff_eq.mpr c392
                  clear c392; obtain ⟨c393b, c393g, c393c, c393d⟩ := xar (a1 : Int) 0 0 2
                  by_cases c394 : 0 ≤ a2
                  ·refine box_ ?g40;letI i:type_of% ?g40:=⟨by
                   rw [if_pos c394] at H
                   have c394b0 : decide (0 ≤ a2) = true := decide_eq_true c394
                   clear c394
                   by_cases c395 : a2 < 2
                   ·refine box_ ?g41;letI i:type_of% ?g41:=⟨by
                    rw [if_pos c395] at H
                    have c395b0 : decide (a2 < 2) = true := decide_eq_true c395
                    clear c395
                    by_cases c396 : a2 = 0
                    ·refine box_ ?g42;letI i:type_of% ?g42:=⟨by
                     rw [if_pos c396] at H
                     have c396b0 : (a2 == 0) = true := beq_iff_eq.mpr c396
                     have c396b1 : (a2 != 0) = false := bne_eq_false_iff_eq.mpr c396
                     clear c396; obtain ⟨c397b, c397g, c397c, c397d⟩ := xar (a2 : Int) 0 0 2
                     have H' := Aside0.mk H
                     clear H; have hcz404_0 := blkc6 BK138.out
                     go_wp2
                     go_meet
                     case rel => exact ⟨_, ((a0_2 == a3)), (xrf), H', ⟨by have := HJ11.out; have := HJ182.out; have := HJ275.out; have := HJ367.out; first | omega | exact Nat.le_refl _⟩, ⟨xK BK138⟩, ⟨xK BK147⟩, ⟨xK BK155⟩, ⟨xK BK163⟩, ⟨xK BK171⟩, ⟨xK BK179⟩, ⟨xK BK180⟩, ⟨xW HB⟩⟩⟩
                     exact inferInstanceAs _
                    ·refine box_ ?g43;letI i:type_of% ?g43:=⟨by
                     rw [if_neg c396] at H
                     have c396b0 : (a2 == 0) = false := beq_eq_false_iff_ne.mpr c396
                     have c396b1 : (a2 != 0) = true := bne_iff_ne.mpr c396
                     obtain ⟨c405b, c405g, c405c, c405d⟩ := xar (a2 : Int) 1 1 2
                     have H' := Aside0.mk H
                     clear H; have hcz412_0 := blkc6 BK138.out
                     go_wp2
                     go_meet
                     case rel => exact ⟨_, ((a0_3 == a3)), (xrf), H', ⟨by have := HJ11.out; have := HJ182.out; have := HJ275.out; have := HJ367.out; first | omega | exact Nat.le_refl _⟩, ⟨xK BK138⟩, ⟨xK BK147⟩, ⟨xK BK155⟩, ⟨xK BK163⟩, ⟨xK BK171⟩, ⟨xK BK179⟩, ⟨xK BK180⟩, ⟨xW HB⟩⟩⟩
                     exact inferInstanceAs _⟩
                    exact inferInstanceAs _
                   ·rw [if_neg c395] at H
                    exact absurd H (by simp)⟩
                   exact inferInstanceAs _
                  ·rw [if_neg c394] at H
                   exact absurd H (by simp)⟩
                  exact inferInstanceAs _
                 ·refine box_ ?g44;letI i:type_of% ?g44:=⟨by
                  rw [if_neg c392] at H
                  have c392b0 : (a1 == 0) = false := beq_eq_false_iff_ne.mpr c392
                  have c392b1 : (a1 != 0) = true := bne_iff_ne.mpr c392
                  obtain ⟨c413b, c413g, c413c, c413d⟩ := xar (a1 : Int) 1 1 2
                  by_cases c414 : 0 ≤ a2
                  ·refine box_ ?g45;letI i:type_of% ?g45:=⟨by
                   rw [if_pos c414] at H
                   have c414b0 : decide (0 ≤ a2) = true := decide_eq_true c414
                   clear c414
                   by_cases c415 : a2 < 2
                   ·refine box_ ?g46;letI i:type_of% ?g46:=⟨by
                    rw [if_pos c415] at H
                    have c415b0 : decide (a2 < 2) = true := decide_eq_true c415
                    clear c415
                    by_cases c416 : a2 = 0
                    ·refine box_ ?g47;letI i:type_of% ?g47:=⟨by
                     rw [if_pos c416] at H
                     have c416b0 : (a2 == 0) = true := beq_iff_eq.mpr c416
                     have c416b1 : (a2 != 0) = false := bne_eq_false_iff_eq.mpr c416
                     clear c416; obtain ⟨c417b, c417g, c417c, c417d⟩ := xar (a2 : Int) 0 0 2
                     have H' := Aside0.mk H
                     clear H; have hcz424_0 := blkc6 BK138.out
                     go_wp2
                     go_meet
                     case rel => exact ⟨_, ((a0_4 == a3)), (xrf), H', ⟨by have := HJ11.out; have := HJ182.out; have := HJ275.out; have := HJ367.out; first | omega | exact Nat.le_refl _⟩, ⟨xK BK138⟩, ⟨xK BK147⟩, ⟨xK BK155⟩, ⟨xK BK163⟩, ⟨xK BK171⟩, ⟨xK BK179⟩, ⟨xK BK180⟩, ⟨xW HB⟩⟩⟩
                     exact inferInstanceAs _
                    ·refine box_ ?g48;letI i:type_of% ?g48:=⟨by
                     rw [if_neg c416] at H
                     have c416b0 : (a2 == 0) = false := beq_eq_false_iff_ne.mpr c416
                     have c416b1 : (a2 != 0) = true := bne_iff_ne.mpr c416
                     obtain ⟨c425b, c425g, c425c, c425d⟩ := xar (a2 : Int) 1 1 2
                     have H' := Aside0.mk H
                     clear H; have hcz432_0 := blkc6 BK138.out
                     go_wp2
                     go_meet
                     case rel => exact ⟨_, ((a0_5 == a3)), (xrf), H', ⟨by have := HJ11.out; have := HJ182.out; have := HJ275.out; have := HJ367.out; first | omega | exact Nat.le_refl _⟩, ⟨xK BK138⟩, ⟨xK BK147⟩, ⟨xK BK155⟩, ⟨xK BK163⟩, ⟨xK BK171⟩, ⟨xK BK179⟩, ⟨xK BK180⟩, ⟨xW HB⟩⟩⟩
                     exact inferInstanceAs _⟩
                    exact inferInstanceAs _
                   ·rw [if_neg c415] at H
                    exact absurd H (by simp)⟩
                   exact inferInstanceAs _
                  ·rw [if_neg c414] at H
                   exact absurd H (by simp)⟩
                  exact inferInstanceAs _⟩
                 exact inferInstanceAs _
                ·rw [if_neg c391] at H
                 exact absurd H (by simp)⟩
                exact inferInstanceAs _
               ·rw [if_neg c390] at H
                exact absurd H (by simp)⟩
               exact inferInstanceAs _
              case rest =>
               refine box_ ?g49;letI i:type_of% ?g49:=⟨by
               clear HC389; (try clear p2); (try clear p6); (try clear p64); (try clear p2); (try clear p6); (try clear p64)
               obtain ⟨kq, x181_388, rfl, HA, HJ388, BK138, BK147, BK155, BK163, BK171, BK179, BK180, HB⟩ := hcut
               cases kq with
               | zero => exact absurd HA.out (by simp [gamehalllaw3_OfferSays.j5])
               | succ kj388 =>
                have H := HA.out; clear HA
                simp only [gamehalllaw3_OfferSays.j5] at H
                by_cases c433 : x181_388 = true
                ·subst c433
                 rw [if_pos rfl] at H
                 have H' := Aside0.mk H
                 clear H
                 go_wp2
                 go_meet
                 case rel => exact ⟨_, (11), (xrf), H', ⟨by have := HJ11.out; have := HJ182.out; have := HJ275.out; have := HJ367.out; have := HJ388.out; first | omega | exact Nat.le_refl _⟩, ⟨xK BK138⟩, ⟨xK BK147⟩, ⟨xK BK155⟩, ⟨xK BK163⟩, ⟨xK BK171⟩, ⟨xK BK179⟩, ⟨xK BK180⟩, ⟨xW HB⟩⟩
                ·replace c433 := Bool.eq_false_iff.mpr c433
                 subst c433
                 rw [if_neg (show ¬ (false = true) by decide)] at H
                 by_cases c434 : a1 = 1
                 ·refine box_ ?g50;letI i:type_of% ?g50:=⟨by
                  rw [if_pos c434] at H
                  have c434b0 : (a1 == 1) = true := beq_iff_eq.mpr c434
                  have c434b1 : (a1 != 1) = false := bne_eq_false_iff_eq.mpr c434
                  clear c434
                  by_cases c435 : a3 = 0
                  ·refine box_ ?g51;letI i:type_of% ?g51:=⟨by
                   rw [if_pos c435] at H
                   have c435b0 : (a3 == 0) = true := beq_iff_eq.mpr c435
                   have c435b1 : (a3 != 0) = false := bne_eq_false_iff_eq.mpr c435
                   clear c435
                   have H' := Aside0.mk H
                   clear H
                   go_wp2
                   go_meet
                   case rel => exact ⟨_, (8), (xrf), H', ⟨by have := HJ11.out; have := HJ182.out; have := HJ275.out; have := HJ367.out; have := HJ388.out; first | omega | exact Nat.le_refl _⟩, ⟨xK BK138⟩, ⟨xK BK147⟩, ⟨xK BK155⟩, ⟨xK BK163⟩, ⟨xK BK171⟩, ⟨xK BK179⟩, ⟨xK BK180⟩, ⟨xW HB⟩⟩⟩
                   exact inferInstanceAs _
                  ·refine box_ ?g52;letI i:type_of% ?g52:=⟨by
                   rw [if_neg c435] at H
                   have c435b0 : (a3 == 0) = false := beq_eq_false_iff_ne.mpr c435
                   have c435b1 : (a3 != 0) = true := bne_iff_ne.mpr c435
                   by_cases c436 : a3 = 1
                   ·refine box_ ?g53;letI i:type_of% ?g53:=⟨by
                    rw [if_pos c436] at H
                    have c436b0 : (a3 == 1) = true := beq_iff_eq.mpr c436
                    have c436b1 : (a3 != 1) = false := bne_eq_false_iff_eq.mpr c436
                    clear c436
                    by_cases c437 : a2 = 1
                    ·refine box_ ?g54;letI i:type_of% ?g54:=⟨by
                     rw [if_pos c437] at H
                     have c437b0 : (a2 == 1) = true := beq_iff_eq.mpr c437
                     have c437b1 : (a2 != 1) = false := bne_eq_false_iff_eq.mpr c437
                     clear c437
                     have H' := Aside0.mk H
                     clear H
                     go_wp2
                     go_meet
                     case rel => exact ⟨_, (8), (xrf), H', ⟨by have := HJ11.out; have := HJ182.out; have := HJ275.out; have := HJ367.out; have := HJ388.out; first | omega | exact Nat.le_refl _⟩, ⟨xK BK138⟩, ⟨xK BK147⟩, ⟨xK BK155⟩, ⟨xK BK163⟩, ⟨xK BK171⟩, ⟨xK BK179⟩, ⟨xK BK180⟩, ⟨xW HB⟩⟩⟩
                     exact inferInstanceAs _
                    ·refine box_ ?g55;letI i:type_of% ?g55:=⟨by
                     rw [if_neg c437] at H
                     have c437b0 : (a2 == 1) = false := beq_eq_false_iff_ne.mpr c437
                     have c437b1 : (a2 != 1) = true := bne_iff_ne.mpr c437
                     have H' := Aside0.mk H
                     clear H
                     go_wp2
                     go_meet
                     case rel => exact ⟨_, (0), (xrf), H', ⟨by have := HJ11.out; have := HJ182.out; have := HJ275.out; have := HJ367.out; have := HJ388.out; first | omega | exact Nat.le_refl _⟩, ⟨xK BK138⟩, ⟨xK BK147⟩, ⟨xK BK155⟩, ⟨xK BK163⟩, ⟨xK BK171⟩, ⟨xK BK179⟩, ⟨xK BK180⟩, ⟨xW HB⟩⟩⟩
                     exact inferInstanceAs _⟩
                    exact inferInstanceAs _
                   ·refine box_ ?g56;letI i:type_of% ?g56:=⟨by
                    rw [if_neg c436] at H
                    have c436b0 : (a3 == 1) = false := beq_eq_false_iff_ne.mpr c436
                    have c436b1 : (a3 != 1) = true := bne_iff_ne.mpr c436
                    have H' := Aside0.mk H
                    clear H
                    go_wp2
                    go_meet
                    case rel => exact ⟨_, (0), (xrf), H', ⟨by have := HJ11.out; have := HJ182.out; have := HJ275.out; have := HJ367.out; have := HJ388.out; first | omega | exact Nat.le_refl _⟩, ⟨xK BK138⟩, ⟨xK BK147⟩, ⟨xK BK155⟩, ⟨xK BK163⟩, ⟨xK BK171⟩, ⟨xK BK179⟩, ⟨xK BK180⟩, ⟨xW HB⟩⟩⟩
                    exact inferInstanceAs _⟩
                   exact inferInstanceAs _⟩
                  exact inferInstanceAs _
                 ·refine box_ ?g57;letI i:type_of% ?g57:=⟨by
                  rw [if_neg c434] at H
                  have c434b0 : (a1 == 1) = false := beq_eq_false_iff_ne.mpr c434
                  have c434b1 : (a1 != 1) = true := bne_iff_ne.mpr c434
                  have H' := Aside0.mk H
                  clear H
                  go_wp2
                  go_meet
                  case rel => exact ⟨_, (0), (xrf), H', ⟨by have := HJ11.out; have := HJ182.out; have := HJ275.out; have := HJ367.out; have := HJ388.out; first | omega | exact Nat.le_refl _⟩, ⟨xK BK138⟩, ⟨xK BK147⟩, ⟨xK BK155⟩, ⟨xK BK163⟩, ⟨xK BK171⟩, ⟨xK BK179⟩, ⟨xK BK180⟩, ⟨xW HB⟩⟩⟩
                  exact inferInstanceAs _⟩
               exact inferInstanceAs _⟩
            exact inferInstanceAs _⟩
           exact inferInstanceAs _
          case rest =>
           repeat (rename_i xv3_; (first | (have zv_ : Value := xv3_; clear zv_; clear xv3_) | revert xv3_))
           (try revert xv0_); (try revert xv0__1); (try revert xv0__2); (try revert xv0__3); (try revert xv0__4); (try revert xv0__5); (try revert xv0__6); (try revert xv0__7); (try revert xv0__8); (try revert xv0__9); (try revert xv0__10); (try revert xv0__11); (try revert xv0__12)
           (try revert xv1_); (try revert xv1__1); (try revert xv1__2); (try revert xv1__3); (try revert xv1__4); (try revert xv1__5); (try revert xv1__6); (try revert xv1__7); (try revert xv1__8); (try revert xv1__9); (try revert xv1__10); (try revert xv1__11); (try revert xv1__12)
           (try revert xv2_); (try revert xv2__1); (try revert xv2__2); (try revert xv2__3); (try revert xv2__4); (try revert xv2__5); (try revert xv2__6); (try revert xv2__7); (try revert xv2__8); (try revert xv2__9); (try revert xv2__10); (try revert xv2__11); (try revert xv2__12)
           (try revert vs24); (try revert w367); (try revert t185); (try revert kj275); (try revert HJ275); (try revert kj182); (try revert HJ182); (try revert kj11); (try revert HJ11); (try revert HA); (try revert x95_11); (try revert kq); (try revert wc); (try revert vs95); (try revert w50); (try revert gb180)
           (try revert w43); (try revert gb179); (try revert w42); (try revert w35); (try revert gb171); (try revert w34); (try revert w28); (try revert gb163); (try revert w27); (try revert w22); (try revert gb155); (try revert w21); (try revert w17); (try revert gb147); (try revert w16); (try revert rfl)
           (try revert w14); (try revert e); (try revert hb); (try revert hbox); (try revert w13); (try revert hg); (try revert gb138); (try revert t178); (try revert t177); (try revert t176); (try revert t175); (try revert t174); (try revert t173); (try revert t172); (try revert t170); (try revert t169)
           (try revert t168); (try revert t167); (try revert t166); (try revert t165); (try revert t164); (try revert t162); (try revert t161); (try revert t160); (try revert t159); (try revert t158); (try revert t157); (try revert t156); (try revert t154); (try revert t153); (try revert t152); (try revert t151)
           (try revert t150); (try revert t149); (try revert t148); (try revert t146); (try revert t145); (try revert t144); (try revert t143); (try revert t142); (try revert t141); (try revert t140); (try revert t182); (try revert t181); (try revert bt172); (try revert bt164); (try revert bt156); (try revert bt148)
           (try revert bt140); (try revert t139); (try revert hss_); (try revert h); (try revert w); (try revert r); (try revert a3); (try revert a2); (try revert a1); (try revert a0_5); (try revert a0_4); (try revert a0_3); (try revert a0_2); (try revert a0_1); (try revert a0_0); (try revert k)
           (try revert hu22); (try revert hu25); (try revert u324); (try revert u323); (try revert u322); (try revert u321); (try revert u320); (try revert u319); (try revert u318); (try revert u317); (try revert u316); (try revert u315); (try revert u314); (try revert u313); (try revert u312); (try revert u311)
           (try revert u310); (try revert u309); (try revert u308); (try revert u307); (try revert u306); (try revert u305); (try revert u304); (try revert u303); (try revert u302); (try revert u301); (try revert u300); (try revert u299); (try revert u298); (try revert u297); (try revert u296); (try revert u295)
           (try revert u294); (try revert u293); (try revert u292); (try revert u291); (try revert u290); (try revert u289); (try revert u288); (try revert u287); (try revert u286); (try revert u285); (try revert u284); (try revert u283); (try revert u282); (try revert u281); (try revert u280); (try revert u279)
           (try revert u278); (try revert u277); (try revert u276); (try revert u275); (try revert u274); (try revert u273); (try revert u272); (try revert u271); (try revert u270); (try revert u269); (try revert u268); (try revert u267); (try revert u266); (try revert u265); (try revert u264); (try revert u263)
           (try revert u262); (try revert u261); (try revert u260); (try revert u259); (try revert u258); (try revert u257); (try revert u256); (try revert u255); (try revert u254); (try revert u253); (try revert u252); (try revert u251); (try revert u250); (try revert u249); (try revert u248); (try revert u247)
           (try revert u246); (try revert u245); (try revert u244); (try revert u243); (try revert u242); (try revert u241); (try revert u240); (try revert u239); (try revert u238); (try revert u237); (try revert u236); (try revert u235); (try revert u234); (try revert u233); (try revert u232); (try revert u231)
           (try revert u230); (try revert u229); (try revert u228); (try revert u227); (try revert u226); (try revert u225); (try revert u224); (try revert u223); (try revert u222); (try revert u221); (try revert u220); (try revert u219); (try revert u218); (try revert u217); (try revert u216); (try revert u215)
           (try revert u214); (try revert u213); (try revert u212); (try revert u211); (try revert u210); (try revert u209); (try revert u208); (try revert u207); (try revert u206); (try revert u205); (try revert u204); (try revert u203); (try revert u202); (try revert u201); (try revert u200); (try revert u199)
           (try revert u198); (try revert u197); (try revert u196); (try revert u195); (try revert u194); (try revert u193); (try revert u192); (try revert u191); (try revert u190); (try revert u189); (try revert u188); (try revert u187); (try revert u186); (try revert u185); (try revert u184); (try revert u183)
           (try revert u182); (try revert u181); (try revert u180); (try revert u179); (try revert u178); (try revert u177); (try revert u176); (try revert u175); (try revert u174); (try revert u173); (try revert u172); (try revert u171); (try revert u170); (try revert u169); (try revert u168); (try revert u167)
           (try revert u166); (try revert u165); (try revert u164); (try revert u163); (try revert u162); (try revert u161); (try revert u160); (try revert u159); (try revert u158); (try revert u157); (try revert u156); (try revert u155); (try revert u154); (try revert u153); (try revert u152); (try revert u151)
           (try revert u150); (try revert u149); (try revert u148); (try revert u147); (try revert u146); (try revert u145); (try revert u144); (try revert u143); (try revert u142); (try revert u141); (try revert u140); (try revert u139); (try revert u138); (try revert u137); (try revert u136); (try revert u135)
           (try revert u134); (try revert u133); (try revert u132); (try revert u131); (try revert u130); (try revert u129); (try revert u128); (try revert u127); (try revert u126); (try revert u125); (try revert u124); (try revert u123); (try revert u122); (try revert u121); (try revert u120); (try revert u119)
           (try revert u118); (try revert u117); (try revert u116); (try revert u115); (try revert u114); (try revert u113); (try revert u112); (try revert u111); (try revert u110); (try revert u109); (try revert u108); (try revert u107); (try revert u106); (try revert u105); (try revert u104); (try revert u103)
           (try revert u102); (try revert u101); (try revert u100); (try revert u99); (try revert u98); (try revert u97); (try revert u96); (try revert u95); (try revert u94); (try revert u93); (try revert u92); (try revert u91); (try revert u90); (try revert u89); (try revert u88); (try revert u87)
           (try revert u86); (try revert u85); (try revert u84); (try revert u83); (try revert u82); (try revert u81); (try revert u80); (try revert u79); (try revert u78); (try revert u77); (try revert u76); (try revert u75); (try revert u74); (try revert u73); (try revert u72); (try revert u71)
           (try revert u70); (try revert u69); (try revert u68); (try revert u67); (try revert u66); (try revert u65); (try revert u64); (try revert u63); (try revert u62); (try revert u61); (try revert u60); (try revert u59); (try revert u58); (try revert u57); (try revert u56); (try revert u55)
           (try revert u54); (try revert u53); (try revert u52); (try revert u51); (try revert u50); (try revert u49); (try revert u48); (try revert u47); (try revert u46); (try revert u45); (try revert u44); (try revert u43); (try revert u42); (try revert u41); (try revert u40); (try revert u39)
           (try revert u38); (try revert u37); (try revert u36); (try revert u35); (try revert u34); (try revert u33); (try revert u32); (try revert u31); (try revert u30); (try revert u29); (try revert u28); (try revert u27); (try revert u26); (try revert u25); (try revert u24); (try revert u23)
           (try revert u22); (try revert u21); (try revert u20); (try revert u19); (try revert u18); (try revert u17); (try revert u16); (try revert u15); (try revert u14); (try revert u13); (try revert u12); (try revert u11); (try revert u10); (try revert u9); (try revert u8); (try revert u7)
           (try revert u6); (try revert u5); (try revert u4); (try revert u3); (try revert u2); (try revert u1); (try revert u0)
           repeat (rename_i xv3_; (first | (have zv_ : Value := xv3_; clear zv_; clear xv3_) | revert xv3_))
           (try revert xv0_); (try revert xv0__1); (try revert xv0__2); (try revert xv0__3); (try revert xv0__4); (try revert xv0__5); (try revert xv0__6); (try revert xv0__7); (try revert xv0__8); (try revert xv0__9); (try revert xv0__10); (try revert xv0__11); (try revert xv0__12)
           (try revert xv1_); (try revert xv1__1); (try revert xv1__2); (try revert xv1__3); (try revert xv1__4); (try revert xv1__5); (try revert xv1__6); (try revert xv1__7); (try revert xv1__8); (try revert xv1__9); (try revert xv1__10); (try revert xv1__11); (try revert xv1__12)
           (try revert xv2_); (try revert xv2__1); (try revert xv2__2); (try revert xv2__3); (try revert xv2__4); (try revert xv2__5); (try revert xv2__6); (try revert xv2__7); (try revert xv2__8); (try revert xv2__9); (try revert xv2__10); (try revert xv2__11); (try revert xv2__12)
           repeat (rename_i xv3_; (first | (have zv_ : Value := xv3_; clear zv_; clear xv3_) | revert xv3_))
           have zz_ := True.intro
           revert zz_
           exact hP_
         ·refine box_ ?g58;letI i:type_of% ?g58:=⟨by
          rw [if_neg c358] at H
          have c358b0 : (t185 == 0) = false := beq_eq_false_iff_ne.mpr c358
          have c358b1 : (t185 != 0) = true := bne_iff_ne.mpr c358
          by_cases c981 : t146 = t185
          ·refine box_ ?g59;letI i:type_of% ?g59:=⟨by
           rw [if_pos c981] at H
           have c981b0 : (t146 == t185) = true := beq_iff_eq.mpr c981
           have c981b1 : (t146 != t185) = false := bne_eq_false_iff_eq.mpr c981
           clear c981
           by_cases c982 : t154 = t185
           ·refine box_ ?g60;letI i:type_of% ?g60:=⟨by
            rw [if_pos c982] at H
            have c982b0 : (t154 == t185) = true := beq_iff_eq.mpr c982
            have c982b1 : (t154 != t185) = false := bne_eq_false_iff_eq.mpr c982
            clear c982
            by_cases c983 : t162 = t185
            ·refine box_ ?g61;letI i:type_of% ?g61:=⟨by
             rw [if_pos c983] at H
             have c983b0 : (t162 == t185) = true := beq_iff_eq.mpr c983
             have c983b1 : (t162 != t185) = false := bne_eq_false_iff_eq.mpr c983
             clear c983
             by_cases c984 : ((t140 == 0 && (t141 == 0)) && (((t142 == 0 && (t143 == 0)) && ((t144 == 0 && (t145 == 0)))))) = true
             ·refine box_ ?g62;letI i:type_of% ?g62:=⟨by
              rw [if_pos c984] at H
              have c984b0 : ((t140 == 0 && (t141 == 0)) && (((t142 == 0 && (t143 == 0)) && ((t144 == 0 && (t145 == 0)))))) = true := c984
              clear c984
              by_cases c985 : ((t148 == 0 && (t149 == 0)) && (((t150 == 0 && (t151 == 0)) && ((t152 == 0 && (t153 == 0)))))) = true
              ·refine box_ ?g63;letI i:type_of% ?g63:=⟨by
               rw [if_pos c985] at H
               have c985b0 : ((t148 == 0 && (t149 == 0)) && (((t150 == 0 && (t151 == 0)) && ((t152 == 0 && (t153 == 0)))))) = true := c985
               clear c985
               obtain rfl := Option.some.inj H
               have hcz992_0 := blkc6 BK138.out
               go_wp2_with (first | ((with_reducible refine gate_callee (f := 10) rfl ?_); refine goesL_ (some 144) rfl rfl Try.func10 kr_ rfl #[.agg #[.int .i64 a0_0, .int .i64 a0_1, .int .i64 a0_2, .int .i64 a0_3, .int .i64 a0_4, .int .i64 a0_5], .int .i64 a1, .int .i64 a2, .int .i64 a3] rfl (by (try simp only [List.map_toArray, List.map_cons, List.map_nil]); first | done | rfl | (simp only [List.length_drop, List.length_take]; rfl)) ?_; (with_reducible refine (gamehalllaw3_offerFault.calls kj275 a0_0 a0_1 a0_2 a0_3 a0_4 a0_5 a1 a2 a3 t185 _ A357.out).mono ?_); rintro e w993 ⟨rfl, hb⟩; refine ⟨_, rfl, ?_⟩; replace BK138 := Aside0.mk (xB BK138 hb); replace BK147 := Aside0.mk (xB BK147 hb); replace BK155 := Aside0.mk (xB BK155 hb); replace BK163 := Aside0.mk (xB BK163 hb); replace BK171 := Aside0.mk (xB BK171 hb); replace BK179 := Aside0.mk (xB BK179 hb); replace BK180 := Aside0.mk (xB BK180 hb); replace HB := Aside0.mk (xS HB hb); (try clear hb); (try clear hb2); (try clear hk); (try clear hi); have hcz999_0 := blkc6 BK147.out; have hcz1004_0 := blkc6 BK180.out; have hcz1008_0 := blkc6 BK155.out; have hcz1011_0 := blkc6 BK163.out))
               go_ret
               exact ⟨xer, xW HB⟩⟩
               exact inferInstanceAs _
              ·refine box_ ?g64;letI i:type_of% ?g64:=⟨by
               rw [if_neg c985] at H
               have c985b0 : ((t148 == 0 && (t149 == 0)) && (((t150 == 0 && (t151 == 0)) && ((t152 == 0 && (t153 == 0)))))) = false := by simpa using c985
               clear c985
               obtain rfl := Option.some.inj H
               have hcz1018_0 := blkc6 BK138.out
               go_wp2_with (first | ((with_reducible refine gate_callee (f := 10) rfl ?_); refine goesL_ (some 144) rfl rfl Try.func10 kr_ rfl #[.agg #[.int .i64 a0_0, .int .i64 a0_1, .int .i64 a0_2, .int .i64 a0_3, .int .i64 a0_4, .int .i64 a0_5], .int .i64 a1, .int .i64 a2, .int .i64 a3] rfl (by (try simp only [List.map_toArray, List.map_cons, List.map_nil]); first | done | rfl | (simp only [List.length_drop, List.length_take]; rfl)) ?_; (with_reducible refine (gamehalllaw3_offerFault.calls kj275 a0_0 a0_1 a0_2 a0_3 a0_4 a0_5 a1 a2 a3 t185 _ A357.out).mono ?_); rintro e w1019 ⟨rfl, hb⟩; refine ⟨_, rfl, ?_⟩; replace BK138 := Aside0.mk (xB BK138 hb); replace BK147 := Aside0.mk (xB BK147 hb); replace BK155 := Aside0.mk (xB BK155 hb); replace BK163 := Aside0.mk (xB BK163 hb); replace BK171 := Aside0.mk (xB BK171 hb); replace BK179 := Aside0.mk (xB BK179 hb); replace BK180 := Aside0.mk (xB BK180 hb); replace HB := Aside0.mk (xS HB hb); (try clear hb); (try clear hb2); (try clear hk); (try clear hi); have hcz1025_0 := blkc6 BK147.out; have hcz1030_0 := blkc6 BK180.out; have hcz1034_0 := blkc6 BK155.out))
               go_ret
               exact ⟨xer, xW HB⟩⟩
               exact inferInstanceAs _⟩
              exact inferInstanceAs _
             ·refine box_ ?g65;letI i:type_of% ?g65:=⟨by
              rw [if_neg c984] at H
              have c984b0 : ((t140 == 0 && (t141 == 0)) && (((t142 == 0 && (t143 == 0)) && ((t144 == 0 && (t145 == 0)))))) = false := by simpa using c984
              clear c984
              obtain rfl := Option.some.inj H
              have hcz1041_0 := blkc6 BK138.out
              go_wp2_with (first | ((with_reducible refine gate_callee (f := 10) rfl ?_); refine goesL_ (some 144) rfl rfl Try.func10 kr_ rfl #[.agg #[.int .i64 a0_0, .int .i64 a0_1, .int .i64 a0_2, .int .i64 a0_3, .int .i64 a0_4, .int .i64 a0_5], .int .i64 a1, .int .i64 a2, .int .i64 a3] rfl (by (try simp only [List.map_toArray, List.map_cons, List.map_nil]); first | done | rfl | (simp only [List.length_drop, List.length_take]; rfl)) ?_; (with_reducible refine (gamehalllaw3_offerFault.calls kj275 a0_0 a0_1 a0_2 a0_3 a0_4 a0_5 a1 a2 a3 t185 _ A357.out).mono ?_); rintro e w1042 ⟨rfl, hb⟩; refine ⟨_, rfl, ?_⟩; replace BK138 := Aside0.mk (xB BK138 hb); replace BK147 := Aside0.mk (xB BK147 hb); replace BK155 := Aside0.mk (xB BK155 hb); replace BK163 := Aside0.mk (xB BK163 hb); replace BK171 := Aside0.mk (xB BK171 hb); replace BK179 := Aside0.mk (xB BK179 hb); replace BK180 := Aside0.mk (xB BK180 hb); replace HB := Aside0.mk (xS HB hb); (try clear hb); (try clear hb2); (try clear hk); (try clear hi); have hcz1048_0 := blkc6 BK147.out; have hcz1053_0 := blkc6 BK180.out))
              go_ret
              exact ⟨xer, xW HB⟩⟩
              exact inferInstanceAs _⟩
             exact inferInstanceAs _
            ·refine box_ ?g66;letI i:type_of% ?g66:=⟨by
             rw [if_neg c983] at H
             have c983b0 : (t162 == t185) = false := beq_eq_false_iff_ne.mpr c983
             have c983b1 : (t162 != t185) = true := bne_iff_ne.mpr c983
             obtain rfl := Option.some.inj H
             have hcz1060_0 := blkc6 BK138.out
             go_wp2_with (first | ((with_reducible refine gate_callee (f := 10) rfl ?_); refine goesL_ (some 144) rfl rfl Try.func10 kr_ rfl #[.agg #[.int .i64 a0_0, .int .i64 a0_1, .int .i64 a0_2, .int .i64 a0_3, .int .i64 a0_4, .int .i64 a0_5], .int .i64 a1, .int .i64 a2, .int .i64 a3] rfl (by (try simp only [List.map_toArray, List.map_cons, List.map_nil]); first | done | rfl | (simp only [List.length_drop, List.length_take]; rfl)) ?_; (with_reducible refine (gamehalllaw3_offerFault.calls kj275 a0_0 a0_1 a0_2 a0_3 a0_4 a0_5 a1 a2 a3 t185 _ A357.out).mono ?_); rintro e w1061 ⟨rfl, hb⟩; refine ⟨_, rfl, ?_⟩; replace BK138 := Aside0.mk (xB BK138 hb); replace BK147 := Aside0.mk (xB BK147 hb); replace BK155 := Aside0.mk (xB BK155 hb); replace BK163 := Aside0.mk (xB BK163 hb); replace BK171 := Aside0.mk (xB BK171 hb); replace BK179 := Aside0.mk (xB BK179 hb); replace BK180 := Aside0.mk (xB BK180 hb); replace HB := Aside0.mk (xS HB hb); (try clear hb); (try clear hb2); (try clear hk); (try clear hi)))
             go_ret
             exact ⟨xer, xW HB⟩⟩
             exact inferInstanceAs _⟩
            exact inferInstanceAs _
           ·refine box_ ?g67;letI i:type_of% ?g67:=⟨by
            rw [if_neg c982] at H
            have c982b0 : (t154 == t185) = false := beq_eq_false_iff_ne.mpr c982
            have c982b1 : (t154 != t185) = true := bne_iff_ne.mpr c982
            obtain rfl := Option.some.inj H
            have hcz1068_0 := blkc6 BK138.out
            go_wp2_with (first | ((with_reducible refine gate_callee (f := 10) rfl ?_); refine goesL_ (some 144) rfl rfl Try.func10 kr_ rfl #[.agg #[.int .i64 a0_0, .int .i64 a0_1, .int .i64 a0_2, .int .i64 a0_3, .int .i64 a0_4, .int .i64 a0_5], .int .i64 a1, .int .i64 a2, .int .i64 a3] rfl (by (try simp only [List.map_toArray, List.map_cons, List.map_nil]); first | done | rfl | (simp only [List.length_drop, List.length_take]; rfl)) ?_; (with_reducible refine (gamehalllaw3_offerFault.calls kj275 a0_0 a0_1 a0_2 a0_3 a0_4 a0_5 a1 a2 a3 t185 _ A357.out).mono ?_); rintro e w1069 ⟨rfl, hb⟩; refine ⟨_, rfl, ?_⟩; replace BK138 := Aside0.mk (xB BK138 hb); replace BK147 := Aside0.mk (xB BK147 hb); replace BK155 := Aside0.mk (xB BK155 hb); replace BK163 := Aside0.mk (xB BK163 hb); replace BK171 := Aside0.mk (xB BK171 hb); replace BK179 := Aside0.mk (xB BK179 hb); replace BK180 := Aside0.mk (xB BK180 hb); replace HB := Aside0.mk (xS HB hb); (try clear hb); (try clear hb2); (try clear hk); (try clear hi)))
            go_ret
            exact ⟨xer, xW HB⟩⟩
            exact inferInstanceAs _⟩
           exact inferInstanceAs _
          ·refine box_ ?g68;letI i:type_of% ?g68:=⟨by
           rw [if_neg c981] at H
           have c981b0 : (t146 == t185) = false := beq_eq_false_iff_ne.mpr c981
           have c981b1 : (t146 != t185) = true := bne_iff_ne.mpr c981
           obtain rfl := Option.some.inj H
           have hcz1076_0 := blkc6 BK138.out
           go_wp2_with (first | ((with_reducible refine gate_callee (f := 10) rfl ?_); refine goesL_ (some 144) rfl rfl Try.func10 kr_ rfl #[.agg #[.int .i64 a0_0, .int .i64 a0_1, .int .i64 a0_2, .int .i64 a0_3, .int .i64 a0_4, .int .i64 a0_5], .int .i64 a1, .int .i64 a2, .int .i64 a3] rfl (by (try simp only [List.map_toArray, List.map_cons, List.map_nil]); first | done | rfl | (simp only [List.length_drop, List.length_take]; rfl)) ?_; (with_reducible refine (gamehalllaw3_offerFault.calls kj275 a0_0 a0_1 a0_2 a0_3 a0_4 a0_5 a1 a2 a3 t185 _ A357.out).mono ?_); rintro e w1077 ⟨rfl, hb⟩; refine ⟨_, rfl, ?_⟩; replace BK138 := Aside0.mk (xB BK138 hb); replace BK147 := Aside0.mk (xB BK147 hb); replace BK155 := Aside0.mk (xB BK155 hb); replace BK163 := Aside0.mk (xB BK163 hb); replace BK171 := Aside0.mk (xB BK171 hb); replace BK179 := Aside0.mk (xB BK179 hb); replace BK180 := Aside0.mk (xB BK180 hb); replace HB := Aside0.mk (xS HB hb); (try clear hb); (try clear hb2); (try clear hk); (try clear hi)))
           go_ret
           exact ⟨xer, xW HB⟩⟩
           exact inferInstanceAs _⟩
          exact inferInstanceAs _
end Go.Proofs.Yteioadnojajjoaa.POfferSays
