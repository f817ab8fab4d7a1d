-- Printed by a program of this claim's writer (wip/ext): an extension of the kit's print.
import Derived.Test.YteioadnojajjoaaPOfferSaysx0
import Derived.Test.YteioadnojajjoaaPOfferSaysx2
import Derived.Test.YteioadnojajjoaaPOfferSaysx3
import Derived.Test.YteioadnojajjoaaPOfferSaysx4
import Derived.Test.YteioadnojajjoaaPOfferSaysx5
import Derived.Test.YteioadnojajjoaaPOfferSaysx6
namespace Go.Proofs.Yteioadnojajjoaa.POfferSays
open Go.RowKit Go.Proofs.YteioadnojajjoaaW.PrintWords Go.Proofs.YteioadnojajjoaaW.PrintLast Go.Proofs.YteioadnojajjoaaW.PrintMore
attribute [local go_sem] max2_int min2_int max_two min_two max_three min_three max_four min_four   -- for this text's walks alone
set_option linter.unusedVariables false
set_option linter.unusedSimpArgs false
theorem xne {a b : Nat} (h : Aside0 (a ≠ b)) : (a = b) = False := eq_false h.out

attribute [local go_sem high] eqA25
/-! ### gamehalllaw3_OfferSays: function 3 -/
mutual
def gamehalllaw3_OfferSays.j0 : Nat → Int → Int → Int → Int → Int → Int → Int → Int → Bool → Int → Int → Int → Int → Int → Int → Int → Int → Int → Int → Int → Int → Int → Int → Int → Int → Int → Int → Int → Int → Int → Int → Int → Int → Int → Int → Int → Int → Int → Int → Int → Int → Int → Int → Int → Int → Int → Int → Int → Int → Int → Int → Option (Bool)
  | 0, _, _, _, _, _, _, _, _, _, _, _, _, _, _, _, _, _, _, _, _, _, _, _, _, _, _, _, _, _, _, _, _, _, _, _, _, _, _, _, _, _, _, _, _, _, _, _, _, _, _, _ => none
  | k + 1, x1, x2, x3, x10, x12, x14, x16, x18, x95, z139a, z139b, z139c, z139d, z139e, z139f, z148a, z148b, z148c, z148d, z148e, z148f, z156a, z156b, z156c, z156d, z156e, z156f, z164a, z164b, z164c, z164d, z164e, z164f, z172a, z172b, z172c, z172d, z172e, z172f, z180a, z180b, z180c, z180d, z180e, z180f, z181a, z181b, z181c, z181d, z181e, z181f => if x95 = true then (some false) else (if x16 = 0 then (if z139a = (wrap64 (1 - x2)) then (if ((!(z172a == (-1)) || (!(z172b == (-1)))) || (((!(z172c == z139c) || (!(z172d == z139d))) || ((!(z172e == z139e) || (!(z172f == z139f))))))) = true then (some false) else (gamehalllaw3_OfferSays.j1 k x1 x2 x3 x10 x12 x14 x18 z139a z139b z139c z139d z139e z139f z148a z148b z148c z148d z148e z148f z156a z156b z156c z156d z156e z156f z164a z164b z164c z164d z164e z164f z180a z180b z180c z180d z180e z180f z181a z181b z181c z181d z181e z181f)) else (if ((!(z172a == z139a) || (!(z172b == (-1)))) || (((!(z172c == z139c) || (!(z172d == z139d))) || ((!(z172e == z139e) || (!(z172f == z139f))))))) = true then (some false) else (gamehalllaw3_OfferSays.j1 k x1 x2 x3 x10 x12 x14 x18 z139a z139b z139c z139d z139e z139f z148a z148b z148c z148d z148e z148f z156a z156b z156c z156d z156e z156f z164a z164b z164c z164d z164e z164f z180a z180b z180c z180d z180e z180f z181a z181b z181c z181d z181e z181f))) else (gamehalllaw3_OfferSays.j1 k x1 x2 x3 x10 x12 x14 x18 z139a z139b z139c z139d z139e z139f z148a z148b z148c z148d z148e z148f z156a z156b z156c z156d z156e z156f z164a z164b z164c z164d z164e z164f z180a z180b z180c z180d z180e z180f z181a z181b z181c z181d z181e z181f))
def gamehalllaw3_OfferSays.j1 : Nat → Int → Int → Int → Int → Int → Int → Int → Int → Int → Int → Int → Int → Int → Int → Int → Int → Int → Int → Int → Int → Int → Int → Int → Int → Int → Int → Int → Int → Int → Int → Int → Int → Int → Int → Int → Int → Int → Int → Int → Int → Int → Int → Int → Option (Bool)
  | 0, _, _, _, _, _, _, _, _, _, _, _, _, _, _, _, _, _, _, _, _, _, _, _, _, _, _, _, _, _, _, _, _, _, _, _, _, _, _, _, _, _, _, _ => none
  | k + 1, x1, x2, x3, x10, x12, x14, x18, z139a, z139b, z139c, z139d, z139e, z139f, z148a, z148b, z148c, z148d, z148e, z148f, z156a, z156b, z156c, z156d, z156e, z156f, z164a, z164b, z164c, z164d, z164e, z164f, z180a, z180b, z180c, z180d, z180e, z180f, z181a, z181b, z181c, z181d, z181e, z181f => if x18 = 0 then (gamehalllaw3_OfferSays.l0 k x1 x2 x3 x10 x12 x14 0 z139a z139b z139c z139d z139e z139f z148a z148b z148c z148d z148e z148f z156a z156b z156c z156d z156e z156f z164a z164b z164c z164d z164e z164f z180a z180b z180c z180d z180e z180f z181a z181b z181c z181d z181e z181f (-1) (-1) 0 0 0 0) else (gamehalllaw3_OfferSays.j3 k x1 x2 x3 x10 x12 x14 z139a z139b z139c z139d z139e z139f z148a z148b z148c z148d z148e z148f z156a z156b z156c z156d z156e z156f z164a z164b z164c z164d z164e z164f z181a z181b z181c z181d z181e z181f)
def gamehalllaw3_OfferSays.j3 : Nat → Int → Int → Int → Int → Int → Int → Int → Int → Int → Int → Int → Int → Int → Int → Int → Int → Int → Int → Int → Int → Int → Int → Int → Int → Int → Int → Int → Int → Int → Int → Int → Int → Int → Int → Int → Int → Option (Bool)
  | 0, _, _, _, _, _, _, _, _, _, _, _, _, _, _, _, _, _, _, _, _, _, _, _, _, _, _, _, _, _, _, _, _, _, _, _, _ => none
  | k + 1, x1, x2, x3, x10, x12, x14, z139a, z139b, z139c, z139d, z139e, z139f, z148a, z148b, z148c, z148d, z148e, z148f, z156a, z156b, z156c, z156d, z156e, z156f, z164a, z164b, z164c, z164d, z164e, z164f, z181a, z181b, z181c, z181d, z181e, z181f => (gamehalllaw3_offerFault.f k z139a z139b z139c z139d z139e z139f x1 x2 x3).bind fun t185 => (if t185 = 0 then (if 0 ≤ x1 then (if x1 < 2 then (if x1 = 0 then (gamehalllaw3_OfferSays.j4 k x1 x2 x3 x10 x12 x14 0 (z139a != (-1)) z139a z139b z139c z139d z139e z139f z148a z148b z148c z148d z148e z148f z156a z156b z156c z156d z156e z156f z164a z164b z164c z164d z164e z164f z181a z181b z181c z181d z181e z181f) else (gamehalllaw3_OfferSays.j4 k x1 x2 x3 x10 x12 x14 0 (z139b != (-1)) z139a z139b z139c z139d z139e z139f z148a z148b z148c z148d z148e z148f z156a z156b z156c z156d z156e z156f z164a z164b z164c z164d z164e z164f z181a z181b z181c z181d z181e z181f)) else (none)) else (none)) else (if x10 = t185 then (if x12 = t185 then (if x14 = t185 then (if ((z148a == z181a && (z148b == z181b)) && (((z148c == z181c && (z148d == z181d)) && ((z148e == z181e && (z148f == z181f)))))) = true then (if ((z156a == z181a && (z156b == z181b)) && (((z156c == z181c && (z156d == z181d)) && ((z156e == z181e && (z156f == z181f)))))) = true then (some ((z164a == z181a && (z164b == z181b)) && (((z164c == z181c && (z164d == z181d)) && ((z164e == z181e && (z164f == z181f))))))) else (some false)) else (some false)) else (some false)) else (some false)) else (some false)))
def gamehalllaw3_OfferSays.j6 : Nat → Int → Int → Int → Int → Int → Int → Int → Int → Int → Int → Int → Int → Int → Int → Int → Int → Int → Int → Int → Int → Int → Int → Int → Int → Int → Int → Int → Int → Int → Int → Int → Int → Int → Int → Int → Int → Int → Option (Bool)
  | 0, _, _, _, _, _, _, _, _, _, _, _, _, _, _, _, _, _, _, _, _, _, _, _, _, _, _, _, _, _, _, _, _, _, _, _, _, _ => none
  | k + 1, x1, x2, x3, x10, x12, x14, x24, z139a, z139b, z139c, z139d, z139e, z139f, z148a, z148b, z148c, z148d, z148e, z148f, z156a, z156b, z156c, z156d, z156e, z156f, z164a, z164b, z164c, z164d, z164e, z164f, z181a, z181b, z181c, z181d, z181e, z181f => if x10 = x24 then (if x10 = 0 then (if 0 ≤ x1 then (if x1 < 2 then (if x1 = 0 then (if z148a = x2 then (if 0 ≤ x2 then (if x2 < 2 then (if x2 = 0 then (if z148c = x3 then (if 0 ≤ (wrap64 (1 - x1)) then (if (wrap64 (1 - x1)) < 2 then (if (wrap64 (1 - x1)) = 0 then (gamehalllaw3_OfferSays.j7 k x1 x2 x3 x12 x14 (z148a != z139a) z139a z139b z139c z139d z139e z139f z156a z156b z156c z156d z156e z156f z164a z164b z164c z164d z164e z164f z181a z181b z181c z181d z181e z181f) else (gamehalllaw3_OfferSays.j7 k x1 x2 x3 x12 x14 (z148b != z139b) z139a z139b z139c z139d z139e z139f z156a z156b z156c z156d z156e z156f z164a z164b z164c z164d z164e z164f z181a z181b z181c z181d z181e z181f)) else (none)) else (none)) else (gamehalllaw3_OfferSays.j7 k x1 x2 x3 x12 x14 true z139a z139b z139c z139d z139e z139f z156a z156b z156c z156d z156e z156f z164a z164b z164c z164d z164e z164f z181a z181b z181c z181d z181e z181f)) else (if z148d = x3 then (if 0 ≤ (wrap64 (1 - x1)) then (if (wrap64 (1 - x1)) < 2 then (if (wrap64 (1 - x1)) = 0 then (gamehalllaw3_OfferSays.j7 k x1 x2 x3 x12 x14 (z148a != z139a) z139a z139b z139c z139d z139e z139f z156a z156b z156c z156d z156e z156f z164a z164b z164c z164d z164e z164f z181a z181b z181c z181d z181e z181f) else (gamehalllaw3_OfferSays.j7 k x1 x2 x3 x12 x14 (z148b != z139b) z139a z139b z139c z139d z139e z139f z156a z156b z156c z156d z156e z156f z164a z164b z164c z164d z164e z164f z181a z181b z181c z181d z181e z181f)) else (none)) else (none)) else (gamehalllaw3_OfferSays.j7 k x1 x2 x3 x12 x14 true z139a z139b z139c z139d z139e z139f z156a z156b z156c z156d z156e z156f z164a z164b z164c z164d z164e z164f z181a z181b z181c z181d z181e z181f))) else (none)) else (none)) else (gamehalllaw3_OfferSays.j7 k x1 x2 x3 x12 x14 true z139a z139b z139c z139d z139e z139f z156a z156b z156c z156d z156e z156f z164a z164b z164c z164d z164e z164f z181a z181b z181c z181d z181e z181f)) else (if z148b = x2 then (if 0 ≤ x2 then (if x2 < 2 then (if x2 = 0 then (if z148e = x3 then (if 0 ≤ (wrap64 (1 - x1)) then (if (wrap64 (1 - x1)) < 2 then (if (wrap64 (1 - x1)) = 0 then (gamehalllaw3_OfferSays.j7 k x1 x2 x3 x12 x14 (z148a != z139a) z139a z139b z139c z139d z139e z139f z156a z156b z156c z156d z156e z156f z164a z164b z164c z164d z164e z164f z181a z181b z181c z181d z181e z181f) else (gamehalllaw3_OfferSays.j7 k x1 x2 x3 x12 x14 (z148b != z139b) z139a z139b z139c z139d z139e z139f z156a z156b z156c z156d z156e z156f z164a z164b z164c z164d z164e z164f z181a z181b z181c z181d z181e z181f)) else (none)) else (none)) else (gamehalllaw3_OfferSays.j7 k x1 x2 x3 x12 x14 true z139a z139b z139c z139d z139e z139f z156a z156b z156c z156d z156e z156f z164a z164b z164c z164d z164e z164f z181a z181b z181c z181d z181e z181f)) else (if z148f = x3 then (if 0 ≤ (wrap64 (1 - x1)) then (if (wrap64 (1 - x1)) < 2 then (if (wrap64 (1 - x1)) = 0 then (gamehalllaw3_OfferSays.j7 k x1 x2 x3 x12 x14 (z148a != z139a) z139a z139b z139c z139d z139e z139f z156a z156b z156c z156d z156e z156f z164a z164b z164c z164d z164e z164f z181a z181b z181c z181d z181e z181f) else (gamehalllaw3_OfferSays.j7 k x1 x2 x3 x12 x14 (z148b != z139b) z139a z139b z139c z139d z139e z139f z156a z156b z156c z156d z156e z156f z164a z164b z164c z164d z164e z164f z181a z181b z181c z181d z181e z181f)) else (none)) else (none)) else (gamehalllaw3_OfferSays.j7 k x1 x2 x3 x12 x14 true z139a z139b z139c z139d z139e z139f z156a z156b z156c z156d z156e z156f z164a z164b z164c z164d z164e z164f z181a z181b z181c z181d z181e z181f))) else (none)) else (none)) else (gamehalllaw3_OfferSays.j7 k x1 x2 x3 x12 x14 true z139a z139b z139c z139d z139e z139f z156a z156b z156c z156d z156e z156f z164a z164b z164c z164d z164e z164f z181a z181b z181c z181d z181e z181f))) else (none)) else (none)) else (if ((!(z148a == z181a) || (!(z148b == z181b))) || (((!(z148c == z181c) || (!(z148d == z181d))) || ((!(z148e == z181e) || (!(z148f == z181f))))))) = true then (gamehalllaw3_OfferSays.j7 k x1 x2 x3 x12 x14 true z139a z139b z139c z139d z139e z139f z156a z156b z156c z156d z156e z156f z164a z164b z164c z164d z164e z164f z181a z181b z181c z181d z181e z181f) else (gamehalllaw3_OfferSays.j7 k x1 x2 x3 x12 x14 false z139a z139b z139c z139d z139e z139f z156a z156b z156c z156d z156e z156f z164a z164b z164c z164d z164e z164f z181a z181b z181c z181d z181e z181f))) else (gamehalllaw3_OfferSays.j7 k x1 x2 x3 x12 x14 true z139a z139b z139c z139d z139e z139f z156a z156b z156c z156d z156e z156f z164a z164b z164c z164d z164e z164f z181a z181b z181c z181d z181e z181f)
def gamehalllaw3_OfferSays.j7 : Nat → Int → Int → Int → Int → Int → Bool → Int → Int → Int → Int → Int → Int → Int → Int → Int → Int → Int → Int → Int → Int → Int → Int → Int → Int → Int → Int → Int → Int → Int → Int → Option (Bool)
  | 0, _, _, _, _, _, _, _, _, _, _, _, _, _, _, _, _, _, _, _, _, _, _, _, _, _, _, _, _, _, _ => none
  | k + 1, x1, x2, x3, x12, x14, x251, z139a, z139b, z139c, z139d, z139e, z139f, z156a, z156b, z156c, z156d, z156e, z156f, z164a, z164b, z164c, z164d, z164e, z164f, z181a, z181b, z181c, z181d, z181e, z181f => if x251 = true then (some false) else (if 0 ≤ x1 then (if x1 < 2 then (if x1 = 0 then (gamehalllaw3_OfferSays.j8 k x1 x2 x3 x12 x14 (z139a != (wrap64 (1 - x2))) z139a z139b z139c z139d z139e z139f z156a z156b z156c z156d z156e z156f z164a z164b z164c z164d z164e z164f z181a z181b z181c z181d z181e z181f) else (gamehalllaw3_OfferSays.j8 k x1 x2 x3 x12 x14 (z139b != (wrap64 (1 - x2))) z139a z139b z139c z139d z139e z139f z156a z156b z156c z156d z156e z156f z164a z164b z164c z164d z164e z164f z181a z181b z181c z181d z181e z181f)) else (none)) else (none))
def gamehalllaw3_OfferSays.j8 : Nat → Int → Int → Int → Int → Int → Bool → Int → Int → Int → Int → Int → Int → Int → Int → Int → Int → Int → Int → Int → Int → Int → Int → Int → Int → Int → Int → Int → Int → Int → Int → Option (Bool)
  | 0, _, _, _, _, _, _, _, _, _, _, _, _, _, _, _, _, _, _, _, _, _, _, _, _, _, _, _, _, _, _ => none
  | k + 1, x1, x2, x3, x12, x14, x258, z139a, z139b, z139c, z139d, z139e, z139f, z156a, z156b, z156c, z156d, z156e, z156f, z164a, z164b, z164c, z164d, z164e, z164f, z181a, z181b, z181c, z181d, z181e, z181f => if x258 = true then (if x12 = 10 then (if x14 = 10 then (if ((z156a == z181a && (z156b == z181b)) && (((z156c == z181c && (z156d == z181d)) && ((z156e == z181e && (z156f == z181f)))))) = true then (some ((z164a == z181a && (z164b == z181b)) && (((z164c == z181c && (z164d == z181d)) && ((z164e == z181e && (z164f == z181f))))))) else (some false)) else (some false)) else (some false)) else (if 0 ≤ x1 then (if x1 < 2 then (if x1 = 0 then (if x14 = 0 then (if ((!(z164a == (-1)) || (!(z164b == z139b))) || (((!(z164c == z139c) || (!(z164d == z139d))) || ((!(z164e == z139e) || (!(z164f == z139f))))))) = true then (some false) else ((offer_Plies.f k (wrap64 (1 - x2)) x3).bind fun t187 => (if x12 = 0 then (if ((z156a == (-1) && (z156b == (-1))) && (((z156c == z139c && (z156d == z139d)) && ((z156e == z139e && (z156f == z139f)))))) = true then (if x3 = 0 then (some true) else (if t187 = (wrap64 (1 + (Int.tmod (wrap64 (x3 + x2)) 2))) then (some true) else (if t187 = 0 then (some (x3 == 1)) else (some false)))) else (some false)) else (some false)))) else (some false)) else (if x14 = 0 then (if ((!(z164a == z139a) || (!(z164b == (-1)))) || (((!(z164c == z139c) || (!(z164d == z139d))) || ((!(z164e == z139e) || (!(z164f == z139f))))))) = true then (some false) else ((offer_Plies.f k (wrap64 (1 - x2)) x3).bind fun t188 => (if x12 = 0 then (if ((z156a == (-1) && (z156b == (-1))) && (((z156c == z139c && (z156d == z139d)) && ((z156e == z139e && (z156f == z139f)))))) = true then (if x3 = 0 then (some true) else (if t188 = (wrap64 (1 + (Int.tmod (wrap64 (x3 + x2)) 2))) then (some true) else (if t188 = 0 then (some (x3 == 1)) else (some false)))) else (some false)) else (some false)))) else (some false))) else (none)) else (none))
def gamehalllaw3_OfferSays.j4 : Nat → Int → Int → Int → Int → Int → Int → Int → Bool → Int → Int → Int → Int → Int → Int → Int → Int → Int → Int → Int → Int → Int → Int → Int → Int → Int → Int → Int → Int → Int → Int → Int → Int → Int → Int → Int → Int → Int → Int → Option (Bool)
  | 0, _, _, _, _, _, _, _, _, _, _, _, _, _, _, _, _, _, _, _, _, _, _, _, _, _, _, _, _, _, _, _, _, _, _, _, _, _, _ => none
  | k + 1, x1, x2, x3, x10, x12, x14, x24, x175, z139a, z139b, z139c, z139d, z139e, z139f, z148a, z148b, z148c, z148d, z148e, z148f, z156a, z156b, z156c, z156d, z156e, z156f, z164a, z164b, z164c, z164d, z164e, z164f, z181a, z181b, z181c, z181d, z181e, z181f => if x175 = true then (gamehalllaw3_OfferSays.j6 k x1 x2 x3 x10 x12 x14 7 z139a z139b z139c z139d z139e z139f z148a z148b z148c z148d z148e z148f z156a z156b z156c z156d z156e z156f z164a z164b z164c z164d z164e z164f z181a z181b z181c z181d z181e z181f) else (if 0 ≤ x1 then (if x1 < 2 then (if x1 = 0 then (if 0 ≤ x2 then (if x2 < 2 then (if x2 = 0 then (gamehalllaw3_OfferSays.j5 k x1 x2 x3 x10 x12 x14 x24 (z139c == x3) z139a z139b z139c z139d z139e z139f z148a z148b z148c z148d z148e z148f z156a z156b z156c z156d z156e z156f z164a z164b z164c z164d z164e z164f z181a z181b z181c z181d z181e z181f) else (gamehalllaw3_OfferSays.j5 k x1 x2 x3 x10 x12 x14 x24 (z139d == x3) z139a z139b z139c z139d z139e z139f z148a z148b z148c z148d z148e z148f z156a z156b z156c z156d z156e z156f z164a z164b z164c z164d z164e z164f z181a z181b z181c z181d z181e z181f)) else (none)) else (none)) else (if 0 ≤ x2 then (if x2 < 2 then (if x2 = 0 then (gamehalllaw3_OfferSays.j5 k x1 x2 x3 x10 x12 x14 x24 (z139e == x3) z139a z139b z139c z139d z139e z139f z148a z148b z148c z148d z148e z148f z156a z156b z156c z156d z156e z156f z164a z164b z164c z164d z164e z164f z181a z181b z181c z181d z181e z181f) else (gamehalllaw3_OfferSays.j5 k x1 x2 x3 x10 x12 x14 x24 (z139f == x3) z139a z139b z139c z139d z139e z139f z148a z148b z148c z148d z148e z148f z156a z156b z156c z156d z156e z156f z164a z164b z164c z164d z164e z164f z181a z181b z181c z181d z181e z181f)) else (none)) else (none))) else (none)) else (none))
def gamehalllaw3_OfferSays.j5 : Nat → Int → Int → Int → Int → Int → Int → Int → Bool → Int → Int → Int → Int → Int → Int → Int → Int → Int → Int → Int → Int → Int → Int → Int → Int → Int → Int → Int → Int → Int → Int → Int → Int → Int → Int → Int → Int → Int → Int → Option (Bool)
  | 0, _, _, _, _, _, _, _, _, _, _, _, _, _, _, _, _, _, _, _, _, _, _, _, _, _, _, _, _, _, _, _, _, _, _, _, _, _, _ => none
  | k + 1, x1, x2, x3, x10, x12, x14, x24, x181, z139a, z139b, z139c, z139d, z139e, z139f, z148a, z148b, z148c, z148d, z148e, z148f, z156a, z156b, z156c, z156d, z156e, z156f, z164a, z164b, z164c, z164d, z164e, z164f, z181a, z181b, z181c, z181d, z181e, z181f => if x181 = true then (gamehalllaw3_OfferSays.j6 k x1 x2 x3 x10 x12 x14 11 z139a z139b z139c z139d z139e z139f z148a z148b z148c z148d z148e z148f z156a z156b z156c z156d z156e z156f z164a z164b z164c z164d z164e z164f z181a z181b z181c z181d z181e z181f) else (if x1 = 1 then (if x3 = 0 then (gamehalllaw3_OfferSays.j6 k x1 x2 x3 x10 x12 x14 8 z139a z139b z139c z139d z139e z139f z148a z148b z148c z148d z148e z148f z156a z156b z156c z156d z156e z156f z164a z164b z164c z164d z164e z164f z181a z181b z181c z181d z181e z181f) else (if x3 = 1 then (if x2 = 1 then (gamehalllaw3_OfferSays.j6 k x1 x2 x3 x10 x12 x14 8 z139a z139b z139c z139d z139e z139f z148a z148b z148c z148d z148e z148f z156a z156b z156c z156d z156e z156f z164a z164b z164c z164d z164e z164f z181a z181b z181c z181d z181e z181f) else (gamehalllaw3_OfferSays.j6 k x1 x2 x3 x10 x12 x14 x24 z139a z139b z139c z139d z139e z139f z148a z148b z148c z148d z148e z148f z156a z156b z156c z156d z156e z156f z164a z164b z164c z164d z164e z164f z181a z181b z181c z181d z181e z181f)) else (gamehalllaw3_OfferSays.j6 k x1 x2 x3 x10 x12 x14 x24 z139a z139b z139c z139d z139e z139f z148a z148b z148c z148d z148e z148f z156a z156b z156c z156d z156e z156f z164a z164b z164c z164d z164e z164f z181a z181b z181c z181d z181e z181f))) else (gamehalllaw3_OfferSays.j6 k x1 x2 x3 x10 x12 x14 x24 z139a z139b z139c z139d z139e z139f z148a z148b z148c z148d z148e z148f z156a z156b z156c z156d z156e z156f z164a z164b z164c z164d z164e z164f z181a z181b z181c z181d z181e z181f))
def gamehalllaw3_OfferSays.l0 : Nat → Int → Int → Int → Int → Int → Int → Int → Int → Int → Int → Int → Int → Int → Int → Int → Int → Int → Int → Int → Int → Int → Int → Int → Int → Int → Int → Int → Int → Int → Int → Int → Int → Int → Int → Int → Int → Int → Int → Int → Int → Int → Int → Int → Int → Int → Int → Int → Int → Int → Option (Bool)
  | 0, _, _, _, _, _, _, _, _, _, _, _, _, _, _, _, _, _, _, _, _, _, _, _, _, _, _, _, _, _, _, _, _, _, _, _, _, _, _, _, _, _, _, _, _, _, _, _, _, _ => none
  | k + 1, x1, x2, x3, x10, x12, x14, x116, z139a, z139b, z139c, z139d, z139e, z139f, z148a, z148b, z148c, z148d, z148e, z148f, z156a, z156b, z156c, z156d, z156e, z156f, z164a, z164b, z164c, z164d, z164e, z164f, z180a, z180b, z180c, z180d, z180e, z180f, z181a, z181b, z181c, z181d, z181e, z181f, z185a, z185b, z185c, z185d, z185e, z185f => if x116 < 4 then (if 0 ≤ (wrap64 (Int.tdiv x116 2)) then (if (wrap64 (Int.tdiv x116 2)) < 2 then (if (wrap64 (Int.tdiv x116 2)) = 0 then (if 0 ≤ (Int.tmod x116 2) then (if (Int.tmod x116 2) < 2 then (if (Int.tmod x116 2) = 0 then (gamehalllaw3_OfferSays.l0 k x1 x2 x3 x10 x12 x14 (wrap64 (x116 + 1)) z139a z139b z139c z139d z139e z139f z148a z148b z148c z148d z148e z148f z156a z156b z156c z156d z156e z156f z164a z164b z164c z164d z164e z164f z180a z180b z180c z180d z180e z180f z181a z181b z181c z181d z181e z181f z185a z185b (mn z139c x3) z185d z185e z185f) else (gamehalllaw3_OfferSays.l0 k x1 x2 x3 x10 x12 x14 (wrap64 (x116 + 1)) z139a z139b z139c z139d z139e z139f z148a z148b z148c z148d z148e z148f z156a z156b z156c z156d z156e z156f z164a z164b z164c z164d z164e z164f z180a z180b z180c z180d z180e z180f z181a z181b z181c z181d z181e z181f z185a z185b z185c (mn z139d x3) z185e z185f)) else (none)) else (none)) else (if 0 ≤ (Int.tmod x116 2) then (if (Int.tmod x116 2) < 2 then (if (Int.tmod x116 2) = 0 then (gamehalllaw3_OfferSays.l0 k x1 x2 x3 x10 x12 x14 (wrap64 (x116 + 1)) z139a z139b z139c z139d z139e z139f z148a z148b z148c z148d z148e z148f z156a z156b z156c z156d z156e z156f z164a z164b z164c z164d z164e z164f z180a z180b z180c z180d z180e z180f z181a z181b z181c z181d z181e z181f z185a z185b z185c z185d (mn z139e x3) z185f) else (gamehalllaw3_OfferSays.l0 k x1 x2 x3 x10 x12 x14 (wrap64 (x116 + 1)) z139a z139b z139c z139d z139e z139f z148a z148b z148c z148d z148e z148f z156a z156b z156c z156d z156e z156f z164a z164b z164c z164d z164e z164f z180a z180b z180c z180d z180e z180f z181a z181b z181c z181d z181e z181f z185a z185b z185c z185d z185e (mn z139f x3))) else (none)) else (none))) else (none)) else (none)) else (if ((!(z180a == z185a) || (!(z180b == z185b))) || (((!(z180c == z185c) || (!(z180d == z185d))) || ((!(z180e == z185e) || (!(z180f == z185f))))))) = true then (some false) else (gamehalllaw3_OfferSays.j3 k x1 x2 x3 x10 x12 x14 z139a z139b z139c z139d z139e z139f z148a z148b z148c z148d z148e z148f z156a z156b z156c z156d z156e z156f z164a z164b z164c z164d z164e z164f z181a z181b z181c z181d z181e z181f))
end
def gamehalllaw3_OfferSays.f (k : Nat) (a0_0 : Int) (a0_1 : Int) (a0_2 : Int) (a0_3 : Int) (a0_4 : Int) (a0_5 : Int) (a1 : Int) (a2 : Int) (a3 : Int) : Option (Bool) := (gamehalllaw3_offers.f k).bind fun t139 => (if t139 = true then ((offer_Make.f k a0_0 a0_1 a0_2 a0_3 a0_4 a0_5 a1 a2 a3).bind fun bt140 => ((offer_Accept.f k a0_0 a0_1 a0_2 a0_3 a0_4 a0_5 a1 a2 a3).bind fun bt148 => ((offer_Decline.f k a0_0 a0_1 a0_2 a0_3 a0_4 a0_5 a1 a2 a3).bind fun bt156 => ((offer_Move.f k a0_0 a0_1 a0_2 a0_3 a0_4 a0_5 a2).bind fun bt164 => ((offer_Back.f k a0_0 a0_1 a0_2 a0_3 a0_4 a0_5 a3).bind fun bt172 => ((gamehalllaw3_offerFault.f k a0_0 a0_1 a0_2 a0_3 a0_4 a0_5 0 a2 0).bind fun t181 => (if bt164.2.2.2.2.2.2 = t181 then ((gamehalllaw3_offerFault.f k a0_0 a0_1 a0_2 a0_3 a0_4 a0_5 0 0 a3).bind fun t182 => (if bt172.2.2.2.2.2.2 = t182 then (if bt164.2.2.2.2.2.2 = 0 then (if bt172.2.2.2.2.2.2 = 0 then (gamehalllaw3_OfferSays.j0 k a1 a2 a3 bt140.2.2.2.2.2.2 bt148.2.2.2.2.2.2 bt156.2.2.2.2.2.2 bt164.2.2.2.2.2.2 bt172.2.2.2.2.2.2 false a0_0 a0_1 a0_2 a0_3 a0_4 a0_5 bt140.1 bt140.2.1 bt140.2.2.1 bt140.2.2.2.1 bt140.2.2.2.2.1 bt140.2.2.2.2.2.1 bt148.1 bt148.2.1 bt148.2.2.1 bt148.2.2.2.1 bt148.2.2.2.2.1 bt148.2.2.2.2.2.1 bt156.1 bt156.2.1 bt156.2.2.1 bt156.2.2.2.1 bt156.2.2.2.2.1 bt156.2.2.2.2.2.1 bt164.1 bt164.2.1 bt164.2.2.1 bt164.2.2.2.1 bt164.2.2.2.2.1 bt164.2.2.2.2.2.1 bt172.1 bt172.2.1 bt172.2.2.1 bt172.2.2.2.1 bt172.2.2.2.2.1 bt172.2.2.2.2.2.1 0 0 0 0 0 0) else (gamehalllaw3_OfferSays.j0 k a1 a2 a3 bt140.2.2.2.2.2.2 bt148.2.2.2.2.2.2 bt156.2.2.2.2.2.2 bt164.2.2.2.2.2.2 bt172.2.2.2.2.2.2 ((!(bt172.1 == 0) || (!(bt172.2.1 == 0))) || (((!(bt172.2.2.1 == 0) || (!(bt172.2.2.2.1 == 0))) || ((!(bt172.2.2.2.2.1 == 0) || (!(bt172.2.2.2.2.2.1 == 0))))))) a0_0 a0_1 a0_2 a0_3 a0_4 a0_5 bt140.1 bt140.2.1 bt140.2.2.1 bt140.2.2.2.1 bt140.2.2.2.2.1 bt140.2.2.2.2.2.1 bt148.1 bt148.2.1 bt148.2.2.1 bt148.2.2.2.1 bt148.2.2.2.2.1 bt148.2.2.2.2.2.1 bt156.1 bt156.2.1 bt156.2.2.1 bt156.2.2.2.1 bt156.2.2.2.2.1 bt156.2.2.2.2.2.1 bt164.1 bt164.2.1 bt164.2.2.1 bt164.2.2.2.1 bt164.2.2.2.2.1 bt164.2.2.2.2.2.1 bt172.1 bt172.2.1 bt172.2.2.1 bt172.2.2.2.1 bt172.2.2.2.2.1 bt172.2.2.2.2.2.1 0 0 0 0 0 0)) else (if ((!(bt164.1 == 0) || (!(bt164.2.1 == 0))) || (((!(bt164.2.2.1 == 0) || (!(bt164.2.2.2.1 == 0))) || ((!(bt164.2.2.2.2.1 == 0) || (!(bt164.2.2.2.2.2.1 == 0))))))) = true then (gamehalllaw3_OfferSays.j0 k a1 a2 a3 bt140.2.2.2.2.2.2 bt148.2.2.2.2.2.2 bt156.2.2.2.2.2.2 bt164.2.2.2.2.2.2 bt172.2.2.2.2.2.2 true a0_0 a0_1 a0_2 a0_3 a0_4 a0_5 bt140.1 bt140.2.1 bt140.2.2.1 bt140.2.2.2.1 bt140.2.2.2.2.1 bt140.2.2.2.2.2.1 bt148.1 bt148.2.1 bt148.2.2.1 bt148.2.2.2.1 bt148.2.2.2.2.1 bt148.2.2.2.2.2.1 bt156.1 bt156.2.1 bt156.2.2.1 bt156.2.2.2.1 bt156.2.2.2.2.1 bt156.2.2.2.2.2.1 bt164.1 bt164.2.1 bt164.2.2.1 bt164.2.2.2.1 bt164.2.2.2.2.1 bt164.2.2.2.2.2.1 bt172.1 bt172.2.1 bt172.2.2.1 bt172.2.2.2.1 bt172.2.2.2.2.1 bt172.2.2.2.2.2.1 0 0 0 0 0 0) else (if bt172.2.2.2.2.2.2 = 0 then (gamehalllaw3_OfferSays.j0 k a1 a2 a3 bt140.2.2.2.2.2.2 bt148.2.2.2.2.2.2 bt156.2.2.2.2.2.2 bt164.2.2.2.2.2.2 bt172.2.2.2.2.2.2 false a0_0 a0_1 a0_2 a0_3 a0_4 a0_5 bt140.1 bt140.2.1 bt140.2.2.1 bt140.2.2.2.1 bt140.2.2.2.2.1 bt140.2.2.2.2.2.1 bt148.1 bt148.2.1 bt148.2.2.1 bt148.2.2.2.1 bt148.2.2.2.2.1 bt148.2.2.2.2.2.1 bt156.1 bt156.2.1 bt156.2.2.1 bt156.2.2.2.1 bt156.2.2.2.2.1 bt156.2.2.2.2.2.1 bt164.1 bt164.2.1 bt164.2.2.1 bt164.2.2.2.1 bt164.2.2.2.2.1 bt164.2.2.2.2.2.1 bt172.1 bt172.2.1 bt172.2.2.1 bt172.2.2.2.1 bt172.2.2.2.2.1 bt172.2.2.2.2.2.1 0 0 0 0 0 0) else (gamehalllaw3_OfferSays.j0 k a1 a2 a3 bt140.2.2.2.2.2.2 bt148.2.2.2.2.2.2 bt156.2.2.2.2.2.2 bt164.2.2.2.2.2.2 bt172.2.2.2.2.2.2 ((!(bt172.1 == 0) || (!(bt172.2.1 == 0))) || (((!(bt172.2.2.1 == 0) || (!(bt172.2.2.2.1 == 0))) || ((!(bt172.2.2.2.2.1 == 0) || (!(bt172.2.2.2.2.2.1 == 0))))))) a0_0 a0_1 a0_2 a0_3 a0_4 a0_5 bt140.1 bt140.2.1 bt140.2.2.1 bt140.2.2.2.1 bt140.2.2.2.2.1 bt140.2.2.2.2.2.1 bt148.1 bt148.2.1 bt148.2.2.1 bt148.2.2.2.1 bt148.2.2.2.2.1 bt148.2.2.2.2.2.1 bt156.1 bt156.2.1 bt156.2.2.1 bt156.2.2.2.1 bt156.2.2.2.2.1 bt156.2.2.2.2.2.1 bt164.1 bt164.2.1 bt164.2.2.1 bt164.2.2.2.1 bt164.2.2.2.2.1 bt164.2.2.2.2.2.1 bt172.1 bt172.2.1 bt172.2.2.1 bt172.2.2.2.1 bt172.2.2.2.2.1 bt172.2.2.2.2.2.1 0 0 0 0 0 0)))) else (gamehalllaw3_OfferSays.j0 k a1 a2 a3 bt140.2.2.2.2.2.2 bt148.2.2.2.2.2.2 bt156.2.2.2.2.2.2 bt164.2.2.2.2.2.2 bt172.2.2.2.2.2.2 true a0_0 a0_1 a0_2 a0_3 a0_4 a0_5 bt140.1 bt140.2.1 bt140.2.2.1 bt140.2.2.2.1 bt140.2.2.2.2.1 bt140.2.2.2.2.2.1 bt148.1 bt148.2.1 bt148.2.2.1 bt148.2.2.2.1 bt148.2.2.2.2.1 bt148.2.2.2.2.2.1 bt156.1 bt156.2.1 bt156.2.2.1 bt156.2.2.2.1 bt156.2.2.2.2.1 bt156.2.2.2.2.2.1 bt164.1 bt164.2.1 bt164.2.2.1 bt164.2.2.2.1 bt164.2.2.2.2.1 bt164.2.2.2.2.2.1 bt172.1 bt172.2.1 bt172.2.2.1 bt172.2.2.2.1 bt172.2.2.2.2.1 bt172.2.2.2.2.2.1 0 0 0 0 0 0))) else (gamehalllaw3_OfferSays.j0 k a1 a2 a3 bt140.2.2.2.2.2.2 bt148.2.2.2.2.2.2 bt156.2.2.2.2.2.2 bt164.2.2.2.2.2.2 bt172.2.2.2.2.2.2 true a0_0 a0_1 a0_2 a0_3 a0_4 a0_5 bt140.1 bt140.2.1 bt140.2.2.1 bt140.2.2.2.1 bt140.2.2.2.2.1 bt140.2.2.2.2.2.1 bt148.1 bt148.2.1 bt148.2.2.1 bt148.2.2.2.1 bt148.2.2.2.2.1 bt148.2.2.2.2.2.1 bt156.1 bt156.2.1 bt156.2.2.1 bt156.2.2.2.1 bt156.2.2.2.2.1 bt156.2.2.2.2.2.1 bt164.1 bt164.2.1 bt164.2.2.1 bt164.2.2.2.1 bt164.2.2.2.2.1 bt164.2.2.2.2.2.1 bt172.1 bt172.2.1 bt172.2.2.1 bt172.2.2.2.1 bt172.2.2.2.2.1 bt172.2.2.2.2.2.1 0 0 0 0 0 0)))))))) else (some false))
theorem gamehalllaw3_OfferSays.mono_l : ∀ k, (∀ y0 y1 y2 y3 y4 y5 y6 y7 y8 y9 y10 y11 y12 y13 y14 y15 y16 y17 y18 y19 y20 y21 y22 y23 y24 y25 y26 y27 y28 y29 y30 y31 y32 y33 y34 y35 y36 y37 y38 y39 y40 y41 y42 y43 y44 y45 y46 y47 y48 y49 y50, LeO (gamehalllaw3_OfferSays.j0 k y0 y1 y2 y3 y4 y5 y6 y7 y8 y9 y10 y11 y12 y13 y14 y15 y16 y17 y18 y19 y20 y21 y22 y23 y24 y25 y26 y27 y28 y29 y30 y31 y32 y33 y34 y35 y36 y37 y38 y39 y40 y41 y42 y43 y44 y45 y46 y47 y48 y49 y50) (gamehalllaw3_OfferSays.j0 (k + 1) y0 y1 y2 y3 y4 y5 y6 y7 y8 y9 y10 y11 y12 y13 y14 y15 y16 y17 y18 y19 y20 y21 y22 y23 y24 y25 y26 y27 y28 y29 y30 y31 y32 y33 y34 y35 y36 y37 y38 y39 y40 y41 y42 y43 y44 y45 y46 y47 y48 y49 y50)) ∧ (∀ y0 y1 y2 y3 y4 y5 y6 y7 y8 y9 y10 y11 y12 y13 y14 y15 y16 y17 y18 y19 y20 y21 y22 y23 y24 y25 y26 y27 y28 y29 y30 y31 y32 y33 y34 y35 y36 y37 y38 y39 y40 y41 y42, LeO (gamehalllaw3_OfferSays.j1 k y0 y1 y2 y3 y4 y5 y6 y7 y8 y9 y10 y11 y12 y13 y14 y15 y16 y17 y18 y19 y20 y21 y22 y23 y24 y25 y26 y27 y28 y29 y30 y31 y32 y33 y34 y35 y36 y37 y38 y39 y40 y41 y42) (gamehalllaw3_OfferSays.j1 (k + 1) y0 y1 y2 y3 y4 y5 y6 y7 y8 y9 y10 y11 y12 y13 y14 y15 y16 y17 y18 y19 y20 y21 y22 y23 y24 y25 y26 y27 y28 y29 y30 y31 y32 y33 y34 y35 y36 y37 y38 y39 y40 y41 y42)) ∧ (∀ y0 y1 y2 y3 y4 y5 y6 y7 y8 y9 y10 y11 y12 y13 y14 y15 y16 y17 y18 y19 y20 y21 y22 y23 y24 y25 y26 y27 y28 y29 y30 y31 y32 y33 y34 y35, LeO (gamehalllaw3_OfferSays.j3 k y0 y1 y2 y3 y4 y5 y6 y7 y8 y9 y10 y11 y12 y13 y14 y15 y16 y17 y18 y19 y20 y21 y22 y23 y24 y25 y26 y27 y28 y29 y30 y31 y32 y33 y34 y35) (gamehalllaw3_OfferSays.j3 (k + 1) y0 y1 y2 y3 y4 y5 y6 y7 y8 y9 y10 y11 y12 y13 y14 y15 y16 y17 y18 y19 y20 y21 y22 y23 y24 y25 y26 y27 y28 y29 y30 y31 y32 y33 y34 y35)) ∧ (∀ y0 y1 y2 y3 y4 y5 y6 y7 y8 y9 y10 y11 y12 y13 y14 y15 y16 y17 y18 y19 y20 y21 y22 y23 y24 y25 y26 y27 y28 y29 y30 y31 y32 y33 y34 y35 y36, LeO (gamehalllaw3_OfferSays.j6 k y0 y1 y2 y3 y4 y5 y6 y7 y8 y9 y10 y11 y12 y13 y14 y15 y16 y17 y18 y19 y20 y21 y22 y23 y24 y25 y26 y27 y28 y29 y30 y31 y32 y33 y34 y35 y36) (gamehalllaw3_OfferSays.j6 (k + 1) y0 y1 y2 y3 y4 y5 y6 y7 y8 y9 y10 y11 y12 y13 y14 y15 y16 y17 y18 y19 y20 y21 y22 y23 y24 y25 y26 y27 y28 y29 y30 y31 y32 y33 y34 y35 y36)) ∧ (∀ y0 y1 y2 y3 y4 y5 y6 y7 y8 y9 y10 y11 y12 y13 y14 y15 y16 y17 y18 y19 y20 y21 y22 y23 y24 y25 y26 y27 y28 y29, LeO (gamehalllaw3_OfferSays.j7 k y0 y1 y2 y3 y4 y5 y6 y7 y8 y9 y10 y11 y12 y13 y14 y15 y16 y17 y18 y19 y20 y21 y22 y23 y24 y25 y26 y27 y28 y29) (gamehalllaw3_OfferSays.j7 (k + 1) y0 y1 y2 y3 y4 y5 y6 y7 y8 y9 y10 y11 y12 y13 y14 y15 y16 y17 y18 y19 y20 y21 y22 y23 y24 y25 y26 y27 y28 y29)) ∧ (∀ y0 y1 y2 y3 y4 y5 y6 y7 y8 y9 y10 y11 y12 y13 y14 y15 y16 y17 y18 y19 y20 y21 y22 y23 y24 y25 y26 y27 y28 y29, LeO (gamehalllaw3_OfferSays.j8 k y0 y1 y2 y3 y4 y5 y6 y7 y8 y9 y10 y11 y12 y13 y14 y15 y16 y17 y18 y19 y20 y21 y22 y23 y24 y25 y26 y27 y28 y29) (gamehalllaw3_OfferSays.j8 (k + 1) y0 y1 y2 y3 y4 y5 y6 y7 y8 y9 y10 y11 y12 y13 y14 y15 y16 y17 y18 y19 y20 y21 y22 y23 y24 y25 y26 y27 y28 y29)) ∧ (∀ y0 y1 y2 y3 y4 y5 y6 y7 y8 y9 y10 y11 y12 y13 y14 y15 y16 y17 y18 y19 y20 y21 y22 y23 y24 y25 y26 y27 y28 y29 y30 y31 y32 y33 y34 y35 y36 y37, LeO (gamehalllaw3_OfferSays.j4 k y0 y1 y2 y3 y4 y5 y6 y7 y8 y9 y10 y11 y12 y13 y14 y15 y16 y17 y18 y19 y20 y21 y22 y23 y24 y25 y26 y27 y28 y29 y30 y31 y32 y33 y34 y35 y36 y37) (gamehalllaw3_OfferSays.j4 (k + 1) y0 y1 y2 y3 y4 y5 y6 y7 y8 y9 y10 y11 y12 y13 y14 y15 y16 y17 y18 y19 y20 y21 y22 y23 y24 y25 y26 y27 y28 y29 y30 y31 y32 y33 y34 y35 y36 y37)) ∧ (∀ y0 y1 y2 y3 y4 y5 y6 y7 y8 y9 y10 y11 y12 y13 y14 y15 y16 y17 y18 y19 y20 y21 y22 y23 y24 y25 y26 y27 y28 y29 y30 y31 y32 y33 y34 y35 y36 y37, LeO (gamehalllaw3_OfferSays.j5 k y0 y1 y2 y3 y4 y5 y6 y7 y8 y9 y10 y11 y12 y13 y14 y15 y16 y17 y18 y19 y20 y21 y22 y23 y24 y25 y26 y27 y28 y29 y30 y31 y32 y33 y34 y35 y36 y37) (gamehalllaw3_OfferSays.j5 (k + 1) y0 y1 y2 y3 y4 y5 y6 y7 y8 y9 y10 y11 y12 y13 y14 y15 y16 y17 y18 y19 y20 y21 y22 y23 y24 y25 y26 y27 y28 y29 y30 y31 y32 y33 y34 y35 y36 y37)) ∧ (∀ y0 y1 y2 y3 y4 y5 y6 y7 y8 y9 y10 y11 y12 y13 y14 y15 y16 y17 y18 y19 y20 y21 y22 y23 y24 y25 y26 y27 y28 y29 y30 y31 y32 y33 y34 y35 y36 y37 y38 y39 y40 y41 y42 y43 y44 y45 y46 y47 y48, LeO (gamehalllaw3_OfferSays.l0 k y0 y1 y2 y3 y4 y5 y6 y7 y8 y9 y10 y11 y12 y13 y14 y15 y16 y17 y18 y19 y20 y21 y22 y23 y24 y25 y26 y27 y28 y29 y30 y31 y32 y33 y34 y35 y36 y37 y38 y39 y40 y41 y42 y43 y44 y45 y46 y47 y48) (gamehalllaw3_OfferSays.l0 (k + 1) y0 y1 y2 y3 y4 y5 y6 y7 y8 y9 y10 y11 y12 y13 y14 y15 y16 y17 y18 y19 y20 y21 y22 y23 y24 y25 y26 y27 y28 y29 y30 y31 y32 y33 y34 y35 y36 y37 y38 y39 y40 y41 y42 y43 y44 y45 y46 y47 y48))
  | 0 => ⟨fun _ _ _ _ _ _ _ _ _ _ _ _ _ _ _ _ _ _ _ _ _ _ _ _ _ _ _ _ _ _ _ _ _ _ _ _ _ _ _ _ _ _ _ _ _ _ _ _ _ _ _ r h => by simp [gamehalllaw3_OfferSays.j0] at h, fun _ _ _ _ _ _ _ _ _ _ _ _ _ _ _ _ _ _ _ _ _ _ _ _ _ _ _ _ _ _ _ _ _ _ _ _ _ _ _ _ _ _ _ r h => by simp [gamehalllaw3_OfferSays.j1] at h, fun _ _ _ _ _ _ _ _ _ _ _ _ _ _ _ _ _ _ _ _ _ _ _ _ _ _ _ _ _ _ _ _ _ _ _ _ r h => by simp [gamehalllaw3_OfferSays.j3] at h, fun _ _ _ _ _ _ _ _ _ _ _ _ _ _ _ _ _ _ _ _ _ _ _ _ _ _ _ _ _ _ _ _ _ _ _ _ _ r h => by simp [gamehalllaw3_OfferSays.j6] at h, fun _ _ _ _ _ _ _ _ _ _ _ _ _ _ _ _ _ _ _ _ _ _ _ _ _ _ _ _ _ _ r h => by simp [gamehalllaw3_OfferSays.j7] at h, fun _ _ _ _ _ _ _ _ _ _ _ _ _ _ _ _ _ _ _ _ _ _ _ _ _ _ _ _ _ _ r h => by simp [gamehalllaw3_OfferSays.j8] at h, fun _ _ _ _ _ _ _ _ _ _ _ _ _ _ _ _ _ _ _ _ _ _ _ _ _ _ _ _ _ _ _ _ _ _ _ _ _ _ r h => by simp [gamehalllaw3_OfferSays.j4] at h, fun _ _ _ _ _ _ _ _ _ _ _ _ _ _ _ _ _ _ _ _ _ _ _ _ _ _ _ _ _ _ _ _ _ _ _ _ _ _ r h => by simp [gamehalllaw3_OfferSays.j5] at h, fun _ _ _ _ _ _ _ _ _ _ _ _ _ _ _ _ _ _ _ _ _ _ _ _ _ _ _ _ _ _ _ _ _ _ _ _ _ _ _ _ _ _ _ _ _ _ _ _ _ r h => by simp [gamehalllaw3_OfferSays.l0] at h⟩
  | k + 1 => by
    obtain ⟨ih0, ih1, ih2, ih3, ih4, ih5, ih6, ih7, ih8⟩ := gamehalllaw3_OfferSays.mono_l k
    refine ⟨?_, ?_, ?_, ?_, ?_, ?_, ?_, ?_, ?_⟩
    · intros
      unfold gamehalllaw3_OfferSays.j0
      repeat' first
      | (with_reducible apply ih0)
      | (with_reducible apply ih1)
      | (with_reducible apply ih2)
      | (with_reducible apply ih3)
      | (with_reducible apply ih4)
      | (with_reducible apply ih5)
      | (with_reducible apply ih6)
      | (with_reducible apply ih7)
      | (with_reducible apply ih8)
      | (with_reducible apply gamehalllaw3_offerFault.mono)
      | (with_reducible apply gamehalllaw3_offers.mono)
      | (with_reducible apply offer_Accept.mono)
      | (with_reducible apply offer_Back.mono)
      | (with_reducible apply offer_Decline.mono)
      | (with_reducible apply offer_Make.mono)
      | (with_reducible apply offer_Move.mono)
      | (with_reducible apply offer_Plies.mono)
      | (with_reducible exact LeO.refl _)
      | (with_reducible exact LeO.none _)
      | (with_reducible refine LeO.ite ?_ ?_)
      | (with_reducible refine LeO.bind ?_ (fun _ => ?_))
      | apply ih0
      | apply ih1
      | apply ih2
      | apply ih3
      | apply ih4
      | apply ih5
      | apply ih6
      | apply ih7
      | apply ih8
      | apply gamehalllaw3_offerFault.mono
      | apply gamehalllaw3_offers.mono
      | apply offer_Accept.mono
      | apply offer_Back.mono
      | apply offer_Decline.mono
      | apply offer_Make.mono
      | apply offer_Move.mono
      | apply offer_Plies.mono
      | exact LeO.none _
      | refine LeO.ite ?_ ?_
      | refine LeO.bind ?_ (fun _ => ?_)
    · intros
      unfold gamehalllaw3_OfferSays.j1
      repeat' first
      | (with_reducible apply ih0)
      | (with_reducible apply ih1)
      | (with_reducible apply ih2)
      | (with_reducible apply ih3)
      | (with_reducible apply ih4)
      | (with_reducible apply ih5)
      | (with_reducible apply ih6)
      | (with_reducible apply ih7)
      | (with_reducible apply ih8)
      | (with_reducible apply gamehalllaw3_offerFault.mono)
      | (with_reducible apply gamehalllaw3_offers.mono)
      | (with_reducible apply offer_Accept.mono)
      | (with_reducible apply offer_Back.mono)
      | (with_reducible apply offer_Decline.mono)
      | (with_reducible apply offer_Make.mono)
      | (with_reducible apply offer_Move.mono)
      | (with_reducible apply offer_Plies.mono)
      | (with_reducible exact LeO.refl _)
      | (with_reducible exact LeO.none _)
      | (with_reducible refine LeO.ite ?_ ?_)
      | (with_reducible refine LeO.bind ?_ (fun _ => ?_))
      | apply ih0
      | apply ih1
      | apply ih2
      | apply ih3
      | apply ih4
      | apply ih5
      | apply ih6
      | apply ih7
      | apply ih8
      | apply gamehalllaw3_offerFault.mono
      | apply gamehalllaw3_offers.mono
      | apply offer_Accept.mono
      | apply offer_Back.mono
      | apply offer_Decline.mono
      | apply offer_Make.mono
      | apply offer_Move.mono
      | apply offer_Plies.mono
      | exact LeO.none _
      | refine LeO.ite ?_ ?_
      | refine LeO.bind ?_ (fun _ => ?_)
    · intros
      unfold gamehalllaw3_OfferSays.j3
      repeat' first
      | (with_reducible apply ih0)
      | (with_reducible apply ih1)
      | (with_reducible apply ih2)
      | (with_reducible apply ih3)
      | (with_reducible apply ih4)
      | (with_reducible apply ih5)
      | (with_reducible apply ih6)
      | (with_reducible apply ih7)
      | (with_reducible apply ih8)
      | (with_reducible apply gamehalllaw3_offerFault.mono)
      | (with_reducible apply gamehalllaw3_offers.mono)
      | (with_reducible apply offer_Accept.mono)
      | (with_reducible apply offer_Back.mono)
      | (with_reducible apply offer_Decline.mono)
      | (with_reducible apply offer_Make.mono)
      | (with_reducible apply offer_Move.mono)
      | (with_reducible apply offer_Plies.mono)
      | (with_reducible exact LeO.refl _)
      | (with_reducible exact LeO.none _)
      | (with_reducible refine LeO.ite ?_ ?_)
      | (with_reducible refine LeO.bind ?_ (fun _ => ?_))
      | apply ih0
      | apply ih1
      | apply ih2
      | apply ih3
      | apply ih4
      | apply ih5
      | apply ih6
      | apply ih7
      | apply ih8
      | apply gamehalllaw3_offerFault.mono
      | apply gamehalllaw3_offers.mono
      | apply offer_Accept.mono
      | apply offer_Back.mono
      | apply offer_Decline.mono
      | apply offer_Make.mono
      | apply offer_Move.mono
      | apply offer_Plies.mono
      | exact LeO.none _
      | refine LeO.ite ?_ ?_
      | refine LeO.bind ?_ (fun _ => ?_)
    · intros
      unfold gamehalllaw3_OfferSays.j6
      repeat' first
      | (with_reducible apply ih0)
      | (with_reducible apply ih1)
      | (with_reducible apply ih2)
      | (with_reducible apply ih3)
      | (with_reducible apply ih4)
      | (with_reducible apply ih5)
      | (with_reducible apply ih6)
      | (with_reducible apply ih7)
      | (with_reducible apply ih8)
      | (with_reducible apply gamehalllaw3_offerFault.mono)
      | (with_reducible apply gamehalllaw3_offers.mono)
      | (with_reducible apply offer_Accept.mono)
      | (with_reducible apply offer_Back.mono)
      | (with_reducible apply offer_Decline.mono)
      | (with_reducible apply offer_Make.mono)
      | (with_reducible apply offer_Move.mono)
      | (with_reducible apply offer_Plies.mono)
      | (with_reducible exact LeO.refl _)
      | (with_reducible exact LeO.none _)
      | (with_reducible refine LeO.ite ?_ ?_)
      | (with_reducible refine LeO.bind ?_ (fun _ => ?_))
      | apply ih0
      | apply ih1
      | apply ih2
      | apply ih3
      | apply ih4
      | apply ih5
      | apply ih6
      | apply ih7
      | apply ih8
      | apply gamehalllaw3_offerFault.mono
      | apply gamehalllaw3_offers.mono
      | apply offer_Accept.mono
      | apply offer_Back.mono
      | apply offer_Decline.mono
      | apply offer_Make.mono
      | apply offer_Move.mono
      | apply offer_Plies.mono
      | exact LeO.none _
      | refine LeO.ite ?_ ?_
      | refine LeO.bind ?_ (fun _ => ?_)
    · intros
      unfold gamehalllaw3_OfferSays.j7
      repeat' first
      | (with_reducible apply ih0)
      | (with_reducible apply ih1)
      | (with_reducible apply ih2)
      | (with_reducible apply ih3)
      | (with_reducible apply ih4)
      | (with_reducible apply ih5)
      | (with_reducible apply ih6)
      | (with_reducible apply ih7)
      | (with_reducible apply ih8)
      | (with_reducible apply gamehalllaw3_offerFault.mono)
      | (with_reducible apply gamehalllaw3_offers.mono)
      | (with_reducible apply offer_Accept.mono)
      | (with_reducible apply offer_Back.mono)
      | (with_reducible apply offer_Decline.mono)
      | (with_reducible apply offer_Make.mono)
      | (with_reducible apply offer_Move.mono)
      | (with_reducible apply offer_Plies.mono)
      | (with_reducible exact LeO.refl _)
      | (with_reducible exact LeO.none _)
      | (with_reducible refine LeO.ite ?_ ?_)
      | (with_reducible refine LeO.bind ?_ (fun _ => ?_))
      | apply ih0
      | apply ih1
      | apply ih2
      | apply ih3
      | apply ih4
      | apply ih5
      | apply ih6
      | apply ih7
      | apply ih8
      | apply gamehalllaw3_offerFault.mono
      | apply gamehalllaw3_offers.mono
      | apply offer_Accept.mono
      | apply offer_Back.mono
      | apply offer_Decline.mono
      | apply offer_Make.mono
      | apply offer_Move.mono
      | apply offer_Plies.mono
      | exact LeO.none _
      | refine LeO.ite ?_ ?_
      | refine LeO.bind ?_ (fun _ => ?_)
    · intros
      unfold gamehalllaw3_OfferSays.j8
      repeat' first
      | (with_reducible apply ih0)
      | (with_reducible apply ih1)
      | (with_reducible apply ih2)
      | (with_reducible apply ih3)
      | (with_reducible apply ih4)
      | (with_reducible apply ih5)
      | (with_reducible apply ih6)
      | (with_reducible apply ih7)
      | (with_reducible apply ih8)
      | (with_reducible apply gamehalllaw3_offerFault.mono)
      | (with_reducible apply gamehalllaw3_offers.mono)
      | (with_reducible apply offer_Accept.mono)
      | (with_reducible apply offer_Back.mono)
      | (with_reducible apply offer_Decline.mono)
      | (with_reducible apply offer_Make.mono)
      | (with_reducible apply offer_Move.mono)
      | (with_reducible apply offer_Plies.mono)
      | (with_reducible exact LeO.refl _)
      | (with_reducible exact LeO.none _)
      | (with_reducible refine LeO.ite ?_ ?_)
      | (with_reducible refine LeO.bind ?_ (fun _ => ?_))
      | apply ih0
      | apply ih1
      | apply ih2
      | apply ih3
      | apply ih4
      | apply ih5
      | apply ih6
      | apply ih7
      | apply ih8
      | apply gamehalllaw3_offerFault.mono
      | apply gamehalllaw3_offers.mono
      | apply offer_Accept.mono
      | apply offer_Back.mono
      | apply offer_Decline.mono
      | apply offer_Make.mono
      | apply offer_Move.mono
      | apply offer_Plies.mono
      | exact LeO.none _
      | refine LeO.ite ?_ ?_
      | refine LeO.bind ?_ (fun _ => ?_)
    · intros
      unfold gamehalllaw3_OfferSays.j4
      repeat' first
      | (with_reducible apply ih0)
      | (with_reducible apply ih1)
      | (with_reducible apply ih2)
      | (with_reducible apply ih3)
      | (with_reducible apply ih4)
      | (with_reducible apply ih5)
      | (with_reducible apply ih6)
      | (with_reducible apply ih7)
      | (with_reducible apply ih8)
      | (with_reducible apply gamehalllaw3_offerFault.mono)
      | (with_reducible apply gamehalllaw3_offers.mono)
      | (with_reducible apply offer_Accept.mono)
      | (with_reducible apply offer_Back.mono)
      | (with_reducible apply offer_Decline.mono)
      | (with_reducible apply offer_Make.mono)
      | (with_reducible apply offer_Move.mono)
      | (with_reducible apply offer_Plies.mono)
      | (with_reducible exact LeO.refl _)
      | (with_reducible exact LeO.none _)
      | (with_reducible refine LeO.ite ?_ ?_)
      | (with_reducible refine LeO.bind ?_ (fun _ => ?_))
      | apply ih0
      | apply ih1
      | apply ih2
      | apply ih3
      | apply ih4
      | apply ih5
      | apply ih6
      | apply ih7
      | apply ih8
      | apply gamehalllaw3_offerFault.mono
      | apply gamehalllaw3_offers.mono
      | apply offer_Accept.mono
      | apply offer_Back.mono
      | apply offer_Decline.mono
      | apply offer_Make.mono
      | apply offer_Move.mono
      | apply offer_Plies.mono
      | exact LeO.none _
      | refine LeO.ite ?_ ?_
      | refine LeO.bind ?_ (fun _ => ?_)
    · intros
      unfold gamehalllaw3_OfferSays.j5
      repeat' first
      | (with_reducible apply ih0)
      | (with_reducible apply ih1)
      | (with_reducible apply ih2)
      | (with_reducible apply ih3)
      | (with_reducible apply ih4)
      | (with_reducible apply ih5)
      | (with_reducible apply ih6)
      | (with_reducible apply ih7)
      | (with_reducible apply ih8)
      | (with_reducible apply gamehalllaw3_offerFault.mono)
      | (with_reducible apply gamehalllaw3_offers.mono)
      | (with_reducible apply offer_Accept.mono)
      | (with_reducible apply offer_Back.mono)
      | (with_reducible apply offer_Decline.mono)
      | (with_reducible apply offer_Make.mono)
      | (with_reducible apply offer_Move.mono)
      | (with_reducible apply offer_Plies.mono)
      | (with_reducible exact LeO.refl _)
      | (with_reducible exact LeO.none _)
      | (with_reducible refine LeO.ite ?_ ?_)
      | (with_reducible refine LeO.bind ?_ (fun _ => ?_))
      | apply ih0
      | apply ih1
      | apply ih2
      | apply ih3
      | apply ih4
      | apply ih5
      | apply ih6
      | apply ih7
      | apply ih8
      | apply gamehalllaw3_offerFault.mono
      | apply gamehalllaw3_offers.mono
      | apply offer_Accept.mono
      | apply offer_Back.mono
      | apply offer_Decline.mono
      | apply offer_Make.mono
      | apply offer_Move.mono
      | apply offer_Plies.mono
      | exact LeO.none _
      | refine LeO.ite ?_ ?_
      | refine LeO.bind ?_ (fun _ => ?_)
    · intros
      unfold gamehalllaw3_OfferSays.l0
      repeat' first
      | (with_reducible apply ih0)
      | (with_reducible apply ih1)
      | (with_reducible apply ih2)
      | (with_reducible apply ih3)
      | (with_reducible apply ih4)
      | (with_reducible apply ih5)
      | (with_reducible apply ih6)
      | (with_reducible apply ih7)
      | (with_reducible apply ih8)
      | (with_reducible apply gamehalllaw3_offerFault.mono)
      | (with_reducible apply gamehalllaw3_offers.mono)
      | (with_reducible apply offer_Accept.mono)
      | (with_reducible apply offer_Back.mono)
      | (with_reducible apply offer_Decline.mono)
      | (with_reducible apply offer_Make.mono)
      | (with_reducible apply offer_Move.mono)
      | (with_reducible apply offer_Plies.mono)
      | (with_reducible exact LeO.refl _)
      | (with_reducible exact LeO.none _)
      | (with_reducible refine LeO.ite ?_ ?_)
      | (with_reducible refine LeO.bind ?_ (fun _ => ?_))
      | apply ih0
      | apply ih1
      | apply ih2
      | apply ih3
      | apply ih4
      | apply ih5
      | apply ih6
      | apply ih7
      | apply ih8
      | apply gamehalllaw3_offerFault.mono
      | apply gamehalllaw3_offers.mono
      | apply offer_Accept.mono
      | apply offer_Back.mono
      | apply offer_Decline.mono
      | apply offer_Make.mono
      | apply offer_Move.mono
      | apply offer_Plies.mono
      | exact LeO.none _
      | refine LeO.ite ?_ ?_
      | refine LeO.bind ?_ (fun _ => ?_)
theorem gamehalllaw3_OfferSays.mono : ∀ a0 a1 a2 a3 a4 a5 a6 a7 a8 k, LeO (gamehalllaw3_OfferSays.f k a0 a1 a2 a3 a4 a5 a6 a7 a8) (gamehalllaw3_OfferSays.f (k + 1) a0 a1 a2 a3 a4 a5 a6 a7 a8) := by
  intro a0 a1 a2 a3 a4 a5 a6 a7 a8 k
  obtain ⟨ih0, ih1, ih2, ih3, ih4, ih5, ih6, ih7, ih8⟩ := gamehalllaw3_OfferSays.mono_l k
  unfold gamehalllaw3_OfferSays.f
  repeat' first
      | (with_reducible apply ih0)
      | (with_reducible apply ih1)
      | (with_reducible apply ih2)
      | (with_reducible apply ih3)
      | (with_reducible apply ih4)
      | (with_reducible apply ih5)
      | (with_reducible apply ih6)
      | (with_reducible apply ih7)
      | (with_reducible apply ih8)
      | (with_reducible apply gamehalllaw3_offerFault.mono)
      | (with_reducible apply gamehalllaw3_offers.mono)
      | (with_reducible apply offer_Accept.mono)
      | (with_reducible apply offer_Back.mono)
      | (with_reducible apply offer_Decline.mono)
      | (with_reducible apply offer_Make.mono)
      | (with_reducible apply offer_Move.mono)
      | (with_reducible apply offer_Plies.mono)
      | (with_reducible exact LeO.refl _)
      | (with_reducible exact LeO.none _)
      | (with_reducible refine LeO.ite ?_ ?_)
      | (with_reducible refine LeO.bind ?_ (fun _ => ?_))
      | apply ih0
      | apply ih1
      | apply ih2
      | apply ih3
      | apply ih4
      | apply ih5
      | apply ih6
      | apply ih7
      | apply ih8
      | apply gamehalllaw3_offerFault.mono
      | apply gamehalllaw3_offers.mono
      | apply offer_Accept.mono
      | apply offer_Back.mono
      | apply offer_Decline.mono
      | apply offer_Make.mono
      | apply offer_Move.mono
      | apply offer_Plies.mono
      | exact LeO.none _
      | refine LeO.ite ?_ ?_
      | refine LeO.bind ?_ (fun _ => ?_)
def gamehalllaw3_OfferSays.T23 : Bool × List (List Nat × List Nat) := (true, [([], []), ([0], [0]), ([], []), ([2], [2]), ([], []), ([4], [4]), ([], []), ([6], [6]), ([], []), ([8, 5], [5, 8]), ([9, 7], [7, 9]), ([10], [10]), ([], []), ([11, 12], [11, 12]), ([], []), ([14, 1], [1, 14]), ([15, 3, 0, 1, 2, 3, 4, 5, 6, 7, 8, 9, 10, 11, 12, 13], [3, 15]), ([16, 13, 0, 1, 2, 3, 4, 5, 6, 7, 8, 9, 10, 11, 12, 13], [13, 16])])
def gamehalllaw3_OfferSays.B23 : List Nat := [0, 1, 0, 4, 0, 16, 0, 64, 0, 304, 1008, 2032, 0, 8176, 0, 16387, 65535, 131071]
theorem gamehalllaw3_OfferSays.tab23 : rtab .any (opsOf Try.f3 23) = gamehalllaw3_OfferSays.T23 := by as_aux_lemma => kernel_rfl
theorem gamehalllaw3_OfferSays.bits23 : waitsOk gamehalllaw3_OfferSays.T23.2 gamehalllaw3_OfferSays.B23 = true := by as_aux_lemma => kernel_rfl
def gamehalllaw3_OfferSays.T37 : Bool × List (List Nat × List Nat) := (true, [([], []), ([], []), ([0, 1], [0, 1]), ([2], [2]), ([3], [3]), ([4, 3], [3, 4]), ([5, 3, 3], [3, 5]), ([6], [6]), ([6], [6]), ([7, 8, 6], [6, 7, 8]), ([6, 9, 3], [3, 6, 9]), ([3, 10], [3, 10]), ([11, 6], [11]), ([12], [12]), ([13, 12], [12, 13]), ([14, 12, 12], [12, 14]), ([15], [15]), ([15], [15]), ([17, 16, 15], [15, 16, 17]), ([18, 15], [15, 18]), ([15], [15]), ([19, 20, 15], [15, 19, 20]), ([21, 15, 15], [15, 21]), ([22], [22]), ([22], [22]), ([22], [22]), ([25, 23, 22], [22, 23, 25]), ([26, 24, 22], [22, 24, 26]), ([27, 22], [22, 27]), ([22], [22]), ([28, 29, 22], [22, 28, 29]), ([22, 30, 15], [15, 22, 30]), ([31, 22, 15], [15, 31]), ([32], [32]), ([33, 32], [32, 33]), ([32], [32]), ([35, 34, 32], [32, 34, 35]), ([36, 32], [32, 36]), ([32], [32]), ([38, 32], [32, 38]), ([32], [32]), ([40, 39, 32], [32, 39, 40]), ([41, 32], [32, 41]), ([37, 42, 32], [32, 37, 42]), ([32, 43, 15], [15, 32, 43]), ([15, 44, 12], [12, 15, 44]), ([12, 45], [12, 45])])
def gamehalllaw3_OfferSays.B37 : List Nat := [0, 0, 3, 7, 15, 31, 63, 127, 127, 511, 1023, 2047, 4095, 8191, 16383, 32767, 65535, 65535, 262143, 524287, 65535, 2097151, 4194303, 8388607, 8388607, 8388607, 50331647, 134217727, 268435455, 8388607, 1073741823, 2147483647, 4294967295, 8589934591, 17179869183, 8589934591, 68719476735, 137438953471, 8589934591, 283467841535, 8589934591, 1932735283199, 4131758538751, 8796093022207, 17592186044415, 35184372088831, 70368744177663]
theorem gamehalllaw3_OfferSays.tab37 : rtab .any (opsOf Try.f3 37) = gamehalllaw3_OfferSays.T37 := by as_aux_lemma => kernel_rfl
theorem gamehalllaw3_OfferSays.bits37 : waitsOk gamehalllaw3_OfferSays.T37.2 gamehalllaw3_OfferSays.B37 = true := by as_aux_lemma => kernel_rfl
set_option maxHeartbeats 80000000 in
set_option maxRecDepth 100000 in
def gamehalllaw3_OfferSays_rest0 : {P : Prop // P → (∀ (k : Nat) (a0_0 : Int) (a0_1 : Int) (a0_2 : Int) (a0_3 : Int) (a0_4 : Int) (a0_5 : Int) (a1 : Int) (a2 : Int) (a3 : Int) (r : Bool) (w : World) (h : gamehalllaw3_OfferSays.f k a0_0 a0_1 a0_2 a0_3 a0_4 a0_5 a1 a2 a3 = some r), Calls Try.prog 3 #[.agg #[.int .i64 a0_0, .int .i64 a0_1, .int .i64 a0_2, .int .i64 a0_3, .int .i64 a0_4, .int .i64 a0_5], .int .i64 a1, .int .i64 a2, .int .i64 a3] w fun e w' => e = .returned (.bool r) ∧ Below w.heap.size w w')} := by
 apply Subtype.mk
 intro hP_
 intro k a0_0 a0_1 a0_2 a0_3 a0_4 a0_5 a1 a2 a3 r w h
 have hu25 := Try.underlying25; have hu22 := Try.underlying22; have HB := Aside0.mk (Below.refl w.heap.size w); have hss_ := @isSome_setCell
 have H : ((gamehalllaw3_offers.f k).bind fun t139 => (if t139 = true then ((offer_Make.f k a0_0 a0_1 a0_2 a0_3 a0_4 a0_5 a1 a2 a3).bind fun bt140 => ((offer_Accept.f k a0_0 a0_1 a0_2 a0_3 a0_4 a0_5 a1 a2 a3).bind fun bt148 => ((offer_Decline.f k a0_0 a0_1 a0_2 a0_3 a0_4 a0_5 a1 a2 a3).bind fun bt156 => ((offer_Move.f k a0_0 a0_1 a0_2 a0_3 a0_4 a0_5 a2).bind fun bt164 => ((offer_Back.f k a0_0 a0_1 a0_2 a0_3 a0_4 a0_5 a3).bind fun bt172 => ((gamehalllaw3_offerFault.f k a0_0 a0_1 a0_2 a0_3 a0_4 a0_5 0 a2 0).bind fun t181 => (if bt164.2.2.2.2.2.2 = t181 then ((gamehalllaw3_offerFault.f k a0_0 a0_1 a0_2 a0_3 a0_4 a0_5 0 0 a3).bind fun t182 => (if bt172.2.2.2.2.2.2 = t182 then (if bt164.2.2.2.2.2.2 = 0 then (if bt172.2.2.2.2.2.2 = 0 then (gamehalllaw3_OfferSays.j0 k a1 a2 a3 bt140.2.2.2.2.2.2 bt148.2.2.2.2.2.2 bt156.2.2.2.2.2.2 bt164.2.2.2.2.2.2 bt172.2.2.2.2.2.2 false a0_0 a0_1 a0_2 a0_3 a0_4 a0_5 bt140.1 bt140.2.1 bt140.2.2.1 bt140.2.2.2.1 bt140.2.2.2.2.1 bt140.2.2.2.2.2.1 bt148.1 bt148.2.1 bt148.2.2.1 bt148.2.2.2.1 bt148.2.2.2.2.1 bt148.2.2.2.2.2.1 bt156.1 bt156.2.1 bt156.2.2.1 bt156.2.2.2.1 bt156.2.2.2.2.1 bt156.2.2.2.2.2.1 bt164.1 bt164.2.1 bt164.2.2.1 bt164.2.2.2.1 bt164.2.2.2.2.1 bt164.2.2.2.2.2.1 bt172.1 bt172.2.1 bt172.2.2.1 bt172.2.2.2.1 bt172.2.2.2.2.1 bt172.2.2.2.2.2.1 0 0 0 0 0 0) else (gamehalllaw3_OfferSays.j0 k a1 a2 a3 bt140.2.2.2.2.2.2 bt148.2.2.2.2.2.2 bt156.2.2.2.2.2.2 bt164.2.2.2.2.2.2 bt172.2.2.2.2.2.2 ((!(bt172.1 == 0) || (!(bt172.2.1 == 0))) || (((!(bt172.2.2.1 == 0) || (!(bt172.2.2.2.1 == 0))) || ((!(bt172.2.2.2.2.1 == 0) || (!(bt172.2.2.2.2.2.1 == 0))))))) a0_0 a0_1 a0_2 a0_3 a0_4 a0_5 bt140.1 bt140.2.1 bt140.2.2.1 bt140.2.2.2.1 bt140.2.2.2.2.1 bt140.2.2.2.2.2.1 bt148.1 bt148.2.1 bt148.2.2.1 bt148.2.2.2.1 bt148.2.2.2.2.1 bt148.2.2.2.2.2.1 bt156.1 bt156.2.1 bt156.2.2.1 bt156.2.2.2.1 bt156.2.2.2.2.1 bt156.2.2.2.2.2.1 bt164.1 bt164.2.1 bt164.2.2.1 bt164.2.2.2.1 bt164.2.2.2.2.1 bt164.2.2.2.2.2.1 bt172.1 bt172.2.1 bt172.2.2.1 bt172.2.2.2.1 bt172.2.2.2.2.1 bt172.2.2.2.2.2.1 0 0 0 0 0 0)) else (if ((!(bt164.1 == 0) || (!(bt164.2.1 == 0))) || (((!(bt164.2.2.1 == 0) || (!(bt164.2.2.2.1 == 0))) || ((!(bt164.2.2.2.2.1 == 0) || (!(bt164.2.2.2.2.2.1 == 0))))))) = true then (gamehalllaw3_OfferSays.j0 k a1 a2 a3 bt140.2.2.2.2.2.2 bt148.2.2.2.2.2.2 bt156.2.2.2.2.2.2 bt164.2.2.2.2.2.2 bt172.2.2.2.2.2.2 true a0_0 a0_1 a0_2 a0_3 a0_4 a0_5 bt140.1 bt140.2.1 bt140.2.2.1 bt140.2.2.2.1 bt140.2.2.2.2.1 bt140.2.2.2.2.2.1 bt148.1 bt148.2.1 bt148.2.2.1 bt148.2.2.2.1 bt148.2.2.2.2.1 bt148.2.2.2.2.2.1 bt156.1 bt156.2.1 bt156.2.2.1 bt156.2.2.2.1 bt156.2.2.2.2.1 bt156.2.2.2.2.2.1 bt164.1 bt164.2.1 bt164.2.2.1 bt164.2.2.2.1 bt164.2.2.2.2.1 bt164.2.2.2.2.2.1 bt172.1 bt172.2.1 bt172.2.2.1 bt172.2.2.2.1 bt172.2.2.2.2.1 bt172.2.2.2.2.2.1 0 0 0 0 0 0) else (if bt172.2.2.2.2.2.2 = 0 then (gamehalllaw3_OfferSays.j0 k a1 a2 a3 bt140.2.2.2.2.2.2 bt148.2.2.2.2.2.2 bt156.2.2.2.2.2.2 bt164.2.2.2.2.2.2 bt172.2.2.2.2.2.2 false a0_0 a0_1 a0_2 a0_3 a0_4 a0_5 bt140.1 bt140.2.1 bt140.2.2.1 bt140.2.2.2.1 bt140.2.2.2.2.1 bt140.2.2.2.2.2.1 bt148.1 bt148.2.1 bt148.2.2.1 bt148.2.2.2.1 bt148.2.2.2.2.1 bt148.2.2.2.2.2.1 bt156.1 bt156.2.1 bt156.2.2.1 bt156.2.2.2.1 bt156.2.2.2.2.1 bt156.2.2.2.2.2.1 bt164.1 bt164.2.1 bt164.2.2.1 bt164.2.2.2.1 bt164.2.2.2.2.1 bt164.2.2.2.2.2.1 bt172.1 bt172.2.1 bt172.2.2.1 bt172.2.2.2.1 bt172.2.2.2.2.1 bt172.2.2.2.2.2.1 0 0 0 0 0 0) else (gamehalllaw3_OfferSays.j0 k a1 a2 a3 bt140.2.2.2.2.2.2 bt148.2.2.2.2.2.2 bt156.2.2.2.2.2.2 bt164.2.2.2.2.2.2 bt172.2.2.2.2.2.2 ((!(bt172.1 == 0) || (!(bt172.2.1 == 0))) || (((!(bt172.2.2.1 == 0) || (!(bt172.2.2.2.1 == 0))) || ((!(bt172.2.2.2.2.1 == 0) || (!(bt172.2.2.2.2.2.1 == 0))))))) a0_0 a0_1 a0_2 a0_3 a0_4 a0_5 bt140.1 bt140.2.1 bt140.2.2.1 bt140.2.2.2.1 bt140.2.2.2.2.1 bt140.2.2.2.2.2.1 bt148.1 bt148.2.1 bt148.2.2.1 bt148.2.2.2.1 bt148.2.2.2.2.1 bt148.2.2.2.2.2.1 bt156.1 bt156.2.1 bt156.2.2.1 bt156.2.2.2.1 bt156.2.2.2.2.1 bt156.2.2.2.2.2.1 bt164.1 bt164.2.1 bt164.2.2.1 bt164.2.2.2.1 bt164.2.2.2.2.1 bt164.2.2.2.2.2.1 bt172.1 bt172.2.1 bt172.2.2.1 bt172.2.2.2.1 bt172.2.2.2.2.1 bt172.2.2.2.2.2.1 0 0 0 0 0 0)))) else (gamehalllaw3_OfferSays.j0 k a1 a2 a3 bt140.2.2.2.2.2.2 bt148.2.2.2.2.2.2 bt156.2.2.2.2.2.2 bt164.2.2.2.2.2.2 bt172.2.2.2.2.2.2 true a0_0 a0_1 a0_2 a0_3 a0_4 a0_5 bt140.1 bt140.2.1 bt140.2.2.1 bt140.2.2.2.1 bt140.2.2.2.2.1 bt140.2.2.2.2.2.1 bt148.1 bt148.2.1 bt148.2.2.1 bt148.2.2.2.1 bt148.2.2.2.2.1 bt148.2.2.2.2.2.1 bt156.1 bt156.2.1 bt156.2.2.1 bt156.2.2.2.1 bt156.2.2.2.2.1 bt156.2.2.2.2.2.1 bt164.1 bt164.2.1 bt164.2.2.1 bt164.2.2.2.1 bt164.2.2.2.2.1 bt164.2.2.2.2.2.1 bt172.1 bt172.2.1 bt172.2.2.1 bt172.2.2.2.1 bt172.2.2.2.2.1 bt172.2.2.2.2.2.1 0 0 0 0 0 0))) else (gamehalllaw3_OfferSays.j0 k a1 a2 a3 bt140.2.2.2.2.2.2 bt148.2.2.2.2.2.2 bt156.2.2.2.2.2.2 bt164.2.2.2.2.2.2 bt172.2.2.2.2.2.2 true a0_0 a0_1 a0_2 a0_3 a0_4 a0_5 bt140.1 bt140.2.1 bt140.2.2.1 bt140.2.2.2.1 bt140.2.2.2.2.1 bt140.2.2.2.2.2.1 bt148.1 bt148.2.1 bt148.2.2.1 bt148.2.2.2.1 bt148.2.2.2.2.1 bt148.2.2.2.2.2.1 bt156.1 bt156.2.1 bt156.2.2.1 bt156.2.2.2.1 bt156.2.2.2.2.1 bt156.2.2.2.2.2.1 bt164.1 bt164.2.1 bt164.2.2.1 bt164.2.2.2.1 bt164.2.2.2.2.1 bt164.2.2.2.2.2.1 bt172.1 bt172.2.1 bt172.2.2.1 bt172.2.2.2.1 bt172.2.2.2.2.1 bt172.2.2.2.2.2.1 0 0 0 0 0 0)))))))) else (some false))) = some r := h
 clear h; replace H := Option.bind_eq_some_iff.mp H
 obtain ⟨t139, A50, H⟩ := H
 try dsimp only at H
 have A5 := Aside0.mk A50; clear A50
 by_cases c6 : t139 = true
 ·subst c6
  rw [if_pos rfl] at H
  replace H := Option.bind_eq_some_iff.mp H
  obtain ⟨⟨t140, t141, t142, t143, t144, t145, t146⟩, A70, H⟩ := H
  try dsimp only at H
  have A7 := Aside0.mk A70; clear A70; replace H := Option.bind_eq_some_iff.mp H
  obtain ⟨⟨t148, t149, t150, t151, t152, t153, t154⟩, A80, H⟩ := H
  try dsimp only at H
  have A8 := Aside0.mk A80; clear A80; replace H := Option.bind_eq_some_iff.mp H
  obtain ⟨⟨t156, t157, t158, t159, t160, t161, t162⟩, A90, H⟩ := H
  try dsimp only at H
  have A9 := Aside0.mk A90; clear A90; replace H := Option.bind_eq_some_iff.mp H
  obtain ⟨⟨t164, t165, t166, t167, t168, t169, t170⟩, A100, H⟩ := H
  try dsimp only at H
  have A10 := Aside0.mk A100; clear A100; replace H := Option.bind_eq_some_iff.mp H
  obtain ⟨⟨t172, t173, t174, t175, t176, t177, t178⟩, A110, H⟩ := H
  try dsimp only at H
  have A11 := Aside0.mk A110; clear A110; have HC12 := Aside0.mk H; clear H
  go_enter Try.func3, Try.ntmps3
  go_upto_region 9 with (first | ((with_reducible refine gate_dst (N := 4) rfl ?_); refine box_event ?hg (N := 4) ?hd (cs := #[.int .i64 a0_0, .int .i64 a0_1, .int .i64 a0_2, .int .i64 a0_3, .int .i64 a0_4, .int .i64 a0_5]) (t := 25) ?hr ?_; (case hd => rfl); (case hg => rfl); (case hr => first | (go_simp; done) | (go_simp; rfl)); intro gb138 hg w13 hbox hb; have BK138 := Aside0.mk (hbox); have GW138 := Aside0.mk (xZ HB hg); have GE138 := Aside0.mk (xZ HB hg); replace HB := Aside0.mk (xS HB hb); clear hb hbox hg) | ((with_reducible refine gate_callee (f := 4) rfl ?_); refine goesL_ (some 27) rfl rfl Try.func4 kr_ rfl #[] rfl (by (try simp only [List.map_toArray, List.map_cons, List.map_nil]); first | done | rfl | (simp only [List.length_drop, List.length_take]; rfl)) ?_; (with_reducible refine (gamehalllaw3_offers.calls k  true _ A5.out).mono ?_); rintro e w14 ⟨rfl, hb⟩; refine ⟨_, rfl, ?_⟩; replace BK138 := Aside0.mk (xB BK138 hb); replace HB := Aside0.mk (xS HB hb); (try clear hb); (try clear hb2); (try clear hk); (try clear hi); have hcz15_0 := blkc6 BK138.out) | ((with_reducible refine gate_callee (f := 5) rfl ?_); refine goesL_ (some 34) rfl rfl Try.func5 kr_ rfl #[.agg #[.int .i64 a0_0, .int .i64 a0_1, .int .i64 a0_2, .int .i64 a0_3, .int .i64 a0_4, .int .i64 a0_5], .int .i64 a1, .int .i64 a2, .int .i64 a3] rfl (by (try simp only [List.map_toArray, List.map_cons, List.map_nil]); first | done | rfl | (simp only [List.length_drop, List.length_take]; rfl)) ?_; (with_reducible refine (offer_Make.calls k a0_0 a0_1 a0_2 a0_3 a0_4 a0_5 a1 a2 a3 t140 t141 t142 t143 t144 t145 t146 _ A7.out).mono ?_); rintro e w16 ⟨rfl, hb⟩; refine ⟨_, rfl, ?_⟩; replace BK138 := Aside0.mk (xB BK138 hb); replace HB := Aside0.mk (xS HB hb); (try clear hb); (try clear hb2); (try clear hk); (try clear hi)) | ((with_reducible refine gate_dst (N := 9) rfl ?_); refine box_event ?hg (N := 9) ?hd (cs := #[.int .i64 0, .int .i64 0, .int .i64 0, .int .i64 0, .int .i64 0, .int .i64 0]) (t := 25) ?hr ?_; (case hd => rfl); (case hg => rfl); (case hr => first | (go_simp; done) | (go_simp; rfl)); intro gb147 hg w17 hbox hb; have BK147 := Aside0.mk (hbox); have GW147 := Aside0.mk (xZ HB hg); have GE147 := Aside0.mk (xZ HB hg); have NB138_147 := Aside0.mk (xN BK138 hg); have NB147_138 := Aside0.mk (xM BK138 hg); replace BK138 := Aside0.mk (xB BK138 hb); replace HB := Aside0.mk (xS HB hb); clear hb hbox hg; have hnb18 := xne NB147_138; have hnc18 := xne NB138_147; have hcz19_0 := blkc6 BK147.out; have hcz20_0 := blkc6 BK138.out) | ((with_reducible refine gate_callee (f := 6) rfl ?_); refine goesL_ (some 42) rfl rfl Try.func6 kr_ rfl #[.agg #[.int .i64 a0_0, .int .i64 a0_1, .int .i64 a0_2, .int .i64 a0_3, .int .i64 a0_4, .int .i64 a0_5], .int .i64 a1, .int .i64 a2, .int .i64 a3] rfl (by (try simp only [List.map_toArray, List.map_cons, List.map_nil]); first | done | rfl | (simp only [List.length_drop, List.length_take]; rfl)) ?_; (with_reducible refine (offer_Accept.calls k a0_0 a0_1 a0_2 a0_3 a0_4 a0_5 a1 a2 a3 t148 t149 t150 t151 t152 t153 t154 _ A8.out).mono ?_); rintro e w21 ⟨rfl, hb⟩; refine ⟨_, rfl, ?_⟩; replace BK138 := Aside0.mk (xB BK138 hb); replace BK147 := Aside0.mk (xP (l' := [.int .i64 t140, .int .i64 t141, .int .i64 t142, .int .i64 t143, .int .i64 t144, .int .i64 t145]) BK147 hb); replace HB := Aside0.mk (xS HB hb); (try clear hb); (try clear hb2); (try clear hk); (try clear hi)) | ((with_reducible refine gate_dst (N := 11) rfl ?_); refine box_event ?hg (N := 11) ?hd (cs := #[.int .i64 0, .int .i64 0, .int .i64 0, .int .i64 0, .int .i64 0, .int .i64 0]) (t := 25) ?hr ?_; (case hd => rfl); (case hg => rfl); (case hr => first | (go_simp; done) | (go_simp; rfl)); intro gb155 hg w22 hbox hb; have BK155 := Aside0.mk (hbox); have GW155 := Aside0.mk (xZ HB hg); have GE155 := Aside0.mk (xZ HB hg); have NB138_155 := Aside0.mk (xN BK138 hg); have NB155_138 := Aside0.mk (xM BK138 hg); have NB147_155 := Aside0.mk (xN BK147 hg); have NB155_147 := Aside0.mk (xM BK147 hg); replace BK138 := Aside0.mk (xB BK138 hb); replace BK147 := Aside0.mk (xB BK147 hb); replace HB := Aside0.mk (xS HB hb); clear hb hbox hg; have hnb23 := xne NB155_138; have hnc23 := xne NB138_155; have hnb24 := xne NB155_147; have hnc24 := xne NB147_155; have hcz25_0 := blkc6 BK155.out; have hcz26_0 := blkc6 BK138.out) | ((with_reducible refine gate_callee (f := 7) rfl ?_); refine goesL_ (some 50) rfl rfl Try.func7 kr_ rfl #[.agg #[.int .i64 a0_0, .int .i64 a0_1, .int .i64 a0_2, .int .i64 a0_3, .int .i64 a0_4, .int .i64 a0_5], .int .i64 a1, .int .i64 a2, .int .i64 a3] rfl (by (try simp only [List.map_toArray, List.map_cons, List.map_nil]); first | done | rfl | (simp only [List.length_drop, List.length_take]; rfl)) ?_; (with_reducible refine (offer_Decline.calls k a0_0 a0_1 a0_2 a0_3 a0_4 a0_5 a1 a2 a3 t156 t157 t158 t159 t160 t161 t162 _ A9.out).mono ?_); rintro e w27 ⟨rfl, hb⟩; refine ⟨_, rfl, ?_⟩; replace BK138 := Aside0.mk (xB BK138 hb); replace BK147 := Aside0.mk (xB BK147 hb); replace BK155 := Aside0.mk (xP (l' := [.int .i64 t148, .int .i64 t149, .int .i64 t150, .int .i64 t151, .int .i64 t152, .int .i64 t153]) BK155 hb); replace HB := Aside0.mk (xS HB hb); (try clear hb); (try clear hb2); (try clear hk); (try clear hi)) | ((with_reducible refine gate_dst (N := 13) rfl ?_); refine box_event ?hg (N := 13) ?hd (cs := #[.int .i64 0, .int .i64 0, .int .i64 0, .int .i64 0, .int .i64 0, .int .i64 0]) (t := 25) ?hr ?_; (case hd => rfl); (case hg => rfl); (case hr => first | (go_simp; done) | (go_simp; rfl)); intro gb163 hg w28 hbox hb; have BK163 := Aside0.mk (hbox); have GW163 := Aside0.mk (xZ HB hg); have GE163 := Aside0.mk (xZ HB hg); have NB138_163 := Aside0.mk (xN BK138 hg); have NB163_138 := Aside0.mk (xM BK138 hg); have NB147_163 := Aside0.mk (xN BK147 hg); have NB163_147 := Aside0.mk (xM BK147 hg); have NB155_163 := Aside0.mk (xN BK155 hg); have NB163_155 := Aside0.mk (xM BK155 hg); replace BK138 := Aside0.mk (xB BK138 hb); replace BK147 := Aside0.mk (xB BK147 hb); replace BK155 := Aside0.mk (xB BK155 hb); replace HB := Aside0.mk (xS HB hb); clear hb hbox hg; have hnb29 := xne NB163_138; have hnc29 := xne NB138_163; have hnb30 := xne NB163_147; have hnc30 := xne NB147_163; have hnb31 := xne NB163_155; have hnc31 := xne NB155_163; have hcz32_0 := blkc6 BK163.out; have hcz33_0 := blkc6 BK138.out) | ((with_reducible refine gate_callee (f := 8) rfl ?_); refine goesL_ (some 56) rfl rfl Try.func8 kr_ rfl #[.agg #[.int .i64 a0_0, .int .i64 a0_1, .int .i64 a0_2, .int .i64 a0_3, .int .i64 a0_4, .int .i64 a0_5], .int .i64 a2] rfl (by (try simp only [List.map_toArray, List.map_cons, List.map_nil]); first | done | rfl | (simp only [List.length_drop, List.length_take]; rfl)) ?_; (with_reducible refine (offer_Move.calls k a0_0 a0_1 a0_2 a0_3 a0_4 a0_5 a2 t164 t165 t166 t167 t168 t169 t170 _ A10.out).mono ?_); rintro e w34 ⟨rfl, hb⟩; refine ⟨_, rfl, ?_⟩; replace BK138 := Aside0.mk (xB BK138 hb); replace BK147 := Aside0.mk (xB BK147 hb); replace BK155 := Aside0.mk (xB BK155 hb); replace BK163 := Aside0.mk (xP (l' := [.int .i64 t156, .int .i64 t157, .int .i64 t158, .int .i64 t159, .int .i64 t160, .int .i64 t161]) BK163 hb); replace HB := Aside0.mk (xS HB hb); (try clear hb); (try clear hb2); (try clear hk); (try clear hi)) | ((with_reducible refine gate_dst (N := 15) rfl ?_); refine box_event ?hg (N := 15) ?hd (cs := #[.int .i64 0, .int .i64 0, .int .i64 0, .int .i64 0, .int .i64 0, .int .i64 0]) (t := 25) ?hr ?_; (case hd => rfl); (case hg => rfl); (case hr => first | (go_simp; done) | (go_simp; rfl)); intro gb171 hg w35 hbox hb; have BK171 := Aside0.mk (hbox); have GW171 := Aside0.mk (xZ HB hg); have GE171 := Aside0.mk (xZ HB hg); have NB138_171 := Aside0.mk (xN BK138 hg); have NB171_138 := Aside0.mk (xM BK138 hg); have NB147_171 := Aside0.mk (xN BK147 hg); have NB171_147 := Aside0.mk (xM BK147 hg); have NB155_171 := Aside0.mk (xN BK155 hg); have NB171_155 := Aside0.mk (xM BK155 hg); have NB163_171 := Aside0.mk (xN BK163 hg); have NB171_163 := Aside0.mk (xM BK163 hg); replace BK138 := Aside0.mk (xB BK138 hb); replace BK147 := Aside0.mk (xB BK147 hb); replace BK155 := Aside0.mk (xB BK155 hb); replace BK163 := Aside0.mk (xB BK163 hb); replace HB := Aside0.mk (xS HB hb); clear hb hbox hg; have hnb36 := xne NB171_138; have hnc36 := xne NB138_171; have hnb37 := xne NB171_147; have hnc37 := xne NB147_171; have hnb38 := xne NB171_155; have hnc38 := xne NB155_171; have hnb39 := xne NB171_163; have hnc39 := xne NB163_171; have hcz40_0 := blkc6 BK171.out; have hcz41_0 := blkc6 BK138.out) | ((with_reducible refine gate_callee (f := 9) rfl ?_); refine goesL_ (some 62) rfl rfl Try.func9 kr_ rfl #[.agg #[.int .i64 a0_0, .int .i64 a0_1, .int .i64 a0_2, .int .i64 a0_3, .int .i64 a0_4, .int .i64 a0_5], .int .i64 a3] rfl (by (try simp only [List.map_toArray, List.map_cons, List.map_nil]); first | done | rfl | (simp only [List.length_drop, List.length_take]; rfl)) ?_; (with_reducible refine (offer_Back.calls k a0_0 a0_1 a0_2 a0_3 a0_4 a0_5 a3 t172 t173 t174 t175 t176 t177 t178 _ A11.out).mono ?_); rintro e w42 ⟨rfl, hb⟩; refine ⟨_, rfl, ?_⟩; replace BK138 := Aside0.mk (xB BK138 hb); replace BK147 := Aside0.mk (xB BK147 hb); replace BK155 := Aside0.mk (xB BK155 hb); replace BK163 := Aside0.mk (xB BK163 hb); replace BK171 := Aside0.mk (xP (l' := [.int .i64 t164, .int .i64 t165, .int .i64 t166, .int .i64 t167, .int .i64 t168, .int .i64 t169]) BK171 hb); replace HB := Aside0.mk (xS HB hb); (try clear hb); (try clear hb2); (try clear hk); (try clear hi)) | ((with_reducible refine gate_dst (N := 17) rfl ?_); refine box_event ?hg (N := 17) ?hd (cs := #[.int .i64 0, .int .i64 0, .int .i64 0, .int .i64 0, .int .i64 0, .int .i64 0]) (t := 25) ?hr ?_; (case hd => rfl); (case hg => rfl); (case hr => first | (go_simp; done) | (go_simp; rfl)); intro gb179 hg w43 hbox hb; have BK179 := Aside0.mk (hbox); have GW179 := Aside0.mk (xZ HB hg); have GE179 := Aside0.mk (xZ HB hg); have NB138_179 := Aside0.mk (xN BK138 hg); have NB179_138 := Aside0.mk (xM BK138 hg); have NB147_179 := Aside0.mk (xN BK147 hg); have NB179_147 := Aside0.mk (xM BK147 hg); have NB155_179 := Aside0.mk (xN BK155 hg); have NB179_155 := Aside0.mk (xM BK155 hg); have NB163_179 := Aside0.mk (xN BK163 hg); have NB179_163 := Aside0.mk (xM BK163 hg); have NB171_179 := Aside0.mk (xN BK171 hg); have NB179_171 := Aside0.mk (xM BK171 hg); replace BK138 := Aside0.mk (xB BK138 hb); replace BK147 := Aside0.mk (xB BK147 hb); replace BK155 := Aside0.mk (xB BK155 hb); replace BK163 := Aside0.mk (xB BK163 hb); replace BK171 := Aside0.mk (xB BK171 hb); replace HB := Aside0.mk (xS HB hb); clear hb hbox hg; have hnb44 := xne NB179_138; have hnc44 := xne NB138_179; have hnb45 := xne NB179_147; have hnc45 := xne NB147_179; have hnb46 := xne NB179_155; have hnc46 := xne NB155_179; have hnb47 := xne NB179_163; have hnc47 := xne NB163_179; have hnb48 := xne NB179_171; have hnc48 := xne NB171_179; have hcz49_0 := blkc6 BK179.out) | ((with_reducible refine gate_dst (N := 19) rfl ?_); refine box_event ?hg (N := 19) ?hd (cs := #[.int .i64 0, .int .i64 0, .int .i64 0, .int .i64 0, .int .i64 0, .int .i64 0]) (t := 25) ?hr ?_; (case hd => rfl); (case hg => rfl); (case hr => first | (go_simp; done) | (go_simp; rfl)); intro gb180 hg w50 hbox hb; have BK180 := Aside0.mk (hbox); have GW180 := Aside0.mk (xZ HB hg); have GE180 := Aside0.mk (xZ HB hg); have NB138_180 := Aside0.mk (xN BK138 hg); have NB180_138 := Aside0.mk (xM BK138 hg); have NB147_180 := Aside0.mk (xN BK147 hg); have NB180_147 := Aside0.mk (xM BK147 hg); have NB155_180 := Aside0.mk (xN BK155 hg); have NB180_155 := Aside0.mk (xM BK155 hg); have NB163_180 := Aside0.mk (xN BK163 hg); have NB180_163 := Aside0.mk (xM BK163 hg); have NB171_180 := Aside0.mk (xN BK171 hg); have NB180_171 := Aside0.mk (xM BK171 hg); have NB179_180 := Aside0.mk ((by rw [hg]; exact Nat.ne_of_lt (blk_lt (g := gb179) (o := .cells #[.int .i64 t172, .int .i64 t173, .int .i64 t174, .int .i64 t175, .int .i64 t176, .int .i64 t177] 25 (0, 0)) (xQ BK179)) : gb179 ≠ gb180)); have NB180_179 := Aside0.mk ((by rw [hg]; exact Nat.ne_of_gt (blk_lt (g := gb179) (o := .cells #[.int .i64 t172, .int .i64 t173, .int .i64 t174, .int .i64 t175, .int .i64 t176, .int .i64 t177] 25 (0, 0)) (xQ BK179)) : gb180 ≠ gb179)); replace BK138 := Aside0.mk (xB BK138 hb); replace BK147 := Aside0.mk (xB BK147 hb); replace BK155 := Aside0.mk (xB BK155 hb); replace BK163 := Aside0.mk (xB BK163 hb); replace BK171 := Aside0.mk (xB BK171 hb); replace BK179 := Aside0.mk (xP (l' := [.int .i64 t172, .int .i64 t173, .int .i64 t174, .int .i64 t175, .int .i64 t176, .int .i64 t177]) BK179 hb); replace HB := Aside0.mk (xS HB hb); clear hb hbox hg; have hnb51 := xne NB180_138; have hnc51 := xne NB138_180; have hnb52 := xne NB180_147; have hnc52 := xne NB147_180; have hnb53 := xne NB180_155; have hnc53 := xne NB155_180; have hnb54 := xne NB180_163; have hnc54 := xne NB163_180; have hnb55 := xne NB180_171; have hnc55 := xne NB171_180; have hnb56 := xne NB180_179; have hnc56 := xne NB179_180; have hcz57_0 := blkc6 BK180.out))
  (try have hq138_147 := xne NB138_147); (try have hq147_138 := xne NB147_138); (try have hq138_155 := xne NB138_155); (try have hq155_138 := xne NB155_138); (try have hq138_163 := xne NB138_163); (try have hq163_138 := xne NB163_138); (try have hq138_171 := xne NB138_171); (try have hq171_138 := xne NB171_138); (try have hq138_179 := xne NB138_179); (try have hq179_138 := xne NB179_138); (try have hq138_180 := xne NB138_180); (try have hq180_138 := xne NB180_138); (try have hq179_147 := xne NB179_147); (try have hq147_179 := xne NB147_179); (try have hq179_155 := xne NB179_155); (try have hq155_179 := xne NB155_179); (try have hq179_163 := xne NB179_163); (try have hq163_179 := xne NB163_179); (try have hq179_171 := xne NB179_171); (try have hq171_179 := xne NB171_179); (try have hq179_180 := xne NB179_180); (try have hq180_179 := xne NB180_179); (try have hq155_147 := xne NB155_147); (try have hq147_155 := xne NB147_155); (try have hq155_163 := xne NB155_163); (try have hq163_155 := xne NB163_155); (try have hq155_171 := xne NB155_171); (try have hq171_155 := xne NB171_155); (try have hq155_180 := xne NB155_180); (try have hq180_155 := xne NB180_155); (try have hq180_147 := xne NB180_147); (try have hq147_180 := xne NB147_180); (try have hq180_163 := xne NB180_163); (try have hq163_180 := xne NB163_180); (try have hq180_171 := xne NB180_171); (try have hq171_180 := xne NB171_180); (try have hq163_147 := xne NB163_147); (try have hq147_163 := xne NB147_163); (try have hq163_171 := xne NB163_171)
  (try have hq171_163 := xne NB171_163)
  (try simp only [Act.put, List.setIfInBounds_toArray, List.set_cons_zero, List.set_cons_succ])
  go_cut [95] (fun vs95 wc => ∃ (kq : Nat) (x95_11 : Bool), vs95 = .bool x95_11 ∧ Aside0 (gamehalllaw3_OfferSays.j0 kq a1 a2 a3 t146 t154 t162 t170 t178 x95_11 a0_0 a0_1 a0_2 a0_3 a0_4 a0_5 t140 t141 t142 t143 t144 t145 t148 t149 t150 t151 t152 t153 t156 t157 t158 t159 t160 t161 t164 t165 t166 t167 t168 t169 t172 t173 t174 t175 t176 t177 0 0 0 0 0 0 = some r) ∧ Aside0 (kq ≤ k) ∧ Aside0 (wc.heap[gb138]? = some (.cells #[.int .i64 a0_0, .int .i64 a0_1, .int .i64 a0_2, .int .i64 a0_3, .int .i64 a0_4, .int .i64 a0_5] 25 (0, 0))) ∧ Aside0 (wc.heap[gb147]? = some (.cells #[.int .i64 t140, .int .i64 t141, .int .i64 t142, .int .i64 t143, .int .i64 t144, .int .i64 t145] 25 (0, 0))) ∧ Aside0 (wc.heap[gb155]? = some (.cells #[.int .i64 t148, .int .i64 t149, .int .i64 t150, .int .i64 t151, .int .i64 t152, .int .i64 t153] 25 (0, 0))) ∧ Aside0 (wc.heap[gb163]? = some (.cells #[.int .i64 t156, .int .i64 t157, .int .i64 t158, .int .i64 t159, .int .i64 t160, .int .i64 t161] 25 (0, 0))) ∧ Aside0 (wc.heap[gb171]? = some (.cells #[.int .i64 t164, .int .i64 t165, .int .i64 t166, .int .i64 t167, .int .i64 t168, .int .i64 t169] 25 (0, 0))) ∧ Aside0 (wc.heap[gb179]? = some (.cells #[.int .i64 t172, .int .i64 t173, .int .i64 t174, .int .i64 t175, .int .i64 t176, .int .i64 t177] 25 (0, 0))) ∧ Aside0 (wc.heap[gb180]? = some (.cells #[.int .i64 0, .int .i64 0, .int .i64 0, .int .i64 0, .int .i64 0, .int .i64 0] 25 (0, 0))) ∧ Aside0 (Below w.heap.size w wc))
  case first =>
   refine box_ ?g1;letI i:type_of% ?g1:=⟨by
   have H := HC12.out; clear HC12; replace H := Option.bind_eq_some_iff.mp H
   obtain ⟨t181, A580, H⟩ := H
   try dsimp only at H
   have A58 := Aside0.mk A580; clear A580
   by_cases c59 : t170 = t181
   ·refine box_ ?g2;letI i:type_of% ?g2:=⟨by
    rw [if_pos c59] at H
    have c59b0 : (t170 == t181) = true := beq_iff_eq.mpr c59
    have c59b1 : (t170 != t181) = false := bne_eq_false_iff_eq.mpr c59
    clear c59
    (first | rw [c59b0] | (simp only [i64_w, i32_w]; rw [c59b0]) | skip)
    replace H := Option.bind_eq_some_iff.mp H
    obtain ⟨t182, A600, H⟩ := H
    try dsimp only at H
    have A60 := Aside0.mk A600; clear A600
    by_cases c61 : t178 = t182
    ·refine box_ ?g3;letI i:type_of% ?g3:=⟨by
     rw [if_pos c61] at H
     have c61b0 : (t178 == t182) = true := beq_iff_eq.mpr c61
     have c61b1 : (t178 != t182) = false := bne_eq_false_iff_eq.mpr c61
     clear c61
     by_cases c62 : t170 = 0
     ·refine box_ ?g4;letI i:type_of% ?g4:=⟨by
      rw [if_pos c62] at H
      have c62b0 : (t170 == 0) = true := beq_iff_eq.mpr c62
      have c62b1 : (t170 != 0) = false := bne_eq_false_iff_eq.mpr c62
      clear c62
      by_cases c63 : t178 = 0
      ·refine box_ ?g5;letI i:type_of% ?g5:=⟨by
       rw [if_pos c63] at H
       have c63b0 : (t178 == 0) = true := beq_iff_eq.mpr c63
       have c63b1 : (t178 != 0) = false := bne_eq_false_iff_eq.mpr c63
       clear c63
       have H' := Aside0.mk H
       clear H; have hcz70_0 := blkc6 BK138.out
       go_wp2_with (first | ((with_reducible refine gate_callee (f := 10) rfl ?_); refine goesL_ (some 69) rfl rfl Try.func10 kr_ rfl #[.agg #[.int .i64 a0_0, .int .i64 a0_1, .int .i64 a0_2, .int .i64 a0_3, .int .i64 a0_4, .int .i64 a0_5], .int .i64 0, .int .i64 a2, .int .i64 0] rfl (by (try simp only [List.map_toArray, List.map_cons, List.map_nil]); first | done | rfl | (simp only [List.length_drop, List.length_take]; rfl)) ?_; (with_reducible refine (gamehalllaw3_offerFault.calls k a0_0 a0_1 a0_2 a0_3 a0_4 a0_5 0 a2 0 t181 _ A58.out).mono ?_); rintro e w71 ⟨rfl, hb⟩; refine ⟨_, rfl, ?_⟩; replace BK138 := Aside0.mk (xB BK138 hb); replace BK147 := Aside0.mk (xB BK147 hb); replace BK155 := Aside0.mk (xB BK155 hb); replace BK163 := Aside0.mk (xB BK163 hb); replace BK171 := Aside0.mk (xB BK171 hb); replace BK179 := Aside0.mk (xB BK179 hb); replace BK180 := Aside0.mk (xP (l' := [.int .i64 0, .int .i64 0, .int .i64 0, .int .i64 0, .int .i64 0, .int .i64 0]) BK180 hb); replace HB := Aside0.mk (xS HB hb); (try clear hb); (try clear hb2); (try clear hk); (try clear hi); have hcz72_0 := blkc6 BK138.out) | (go_at_call 10; (with_reducible refine (gamehalllaw3_offerFault.calls k a0_0 a0_1 a0_2 a0_3 a0_4 a0_5 0 0 a3 t182 _ A60.out).mono ?_); rintro e w73 ⟨rfl, hb⟩; replace BK138 := Aside0.mk (xB BK138 hb); replace BK147 := Aside0.mk (xB BK147 hb); replace BK155 := Aside0.mk (xB BK155 hb); replace BK163 := Aside0.mk (xB BK163 hb); replace BK171 := Aside0.mk (xB BK171 hb); replace BK179 := Aside0.mk (xB BK179 hb); replace BK180 := Aside0.mk (xB BK180 hb); replace HB := Aside0.mk (xS HB hb); (try clear hb); (try clear hb2); (try clear hk); (try clear hi)))
       go_meet
       case rel => exact ⟨_, (false), (xrf), H', ⟨by first | omega | exact Nat.le_refl _⟩, ⟨xK BK138⟩, ⟨xK BK147⟩, ⟨xK BK155⟩, ⟨xK BK163⟩, ⟨xK BK171⟩, ⟨xK BK179⟩, ⟨xK BK180⟩, ⟨xW HB⟩⟩⟩
       exact inferInstanceAs _
      ·refine box_ ?g6;letI i:type_of% ?g6:=⟨by
       rw [if_neg c63] at H
       have c63b0 : (t178 == 0) = false := beq_eq_false_iff_ne.mpr c63
       have c63b1 : (t178 != 0) = true := bne_iff_ne.mpr c63
       have H' := Aside0.mk H
       clear H; have hcz80_0 := blkc6 BK138.out
       go_wp2_with (first | ((with_reducible refine gate_callee (f := 10) rfl ?_); refine goesL_ (some 69) rfl rfl Try.func10 kr_ rfl #[.agg #[.int .i64 a0_0, .int .i64 a0_1, .int .i64 a0_2, .int .i64 a0_3, .int .i64 a0_4, .int .i64 a0_5], .int .i64 0, .int .i64 a2, .int .i64 0] rfl (by (try simp only [List.map_toArray, List.map_cons, List.map_nil]); first | done | rfl | (simp only [List.length_drop, List.length_take]; rfl)) ?_; (with_reducible refine (gamehalllaw3_offerFault.calls k a0_0 a0_1 a0_2 a0_3 a0_4 a0_5 0 a2 0 t181 _ A58.out).mono ?_); rintro e w81 ⟨rfl, hb⟩; refine ⟨_, rfl, ?_⟩; replace BK138 := Aside0.mk (xB BK138 hb); replace BK147 := Aside0.mk (xB BK147 hb); replace BK155 := Aside0.mk (xB BK155 hb); replace BK163 := Aside0.mk (xB BK163 hb); replace BK171 := Aside0.mk (xB BK171 hb); replace BK179 := Aside0.mk (xB BK179 hb); replace BK180 := Aside0.mk (xP (l' := [.int .i64 0, .int .i64 0, .int .i64 0, .int .i64 0, .int .i64 0, .int .i64 0]) BK180 hb); replace HB := Aside0.mk (xS HB hb); (try clear hb); (try clear hb2); (try clear hk); (try clear hi); have hcz82_0 := blkc6 BK138.out) | (go_at_call 10; (with_reducible refine (gamehalllaw3_offerFault.calls k a0_0 a0_1 a0_2 a0_3 a0_4 a0_5 0 0 a3 t182 _ A60.out).mono ?_); rintro e w83 ⟨rfl, hb⟩; replace BK138 := Aside0.mk (xB BK138 hb); replace BK147 := Aside0.mk (xB BK147 hb); replace BK155 := Aside0.mk (xB BK155 hb); replace BK163 := Aside0.mk (xB BK163 hb); replace BK171 := Aside0.mk (xB BK171 hb); replace BK179 := Aside0.mk (xB BK179 hb); replace BK180 := Aside0.mk (xB BK180 hb); replace HB := Aside0.mk (xS HB hb); (try clear hb); (try clear hb2); (try clear hk); (try clear hi); have hcz89_0 := blkc6 BK179.out; have hcz94_0 := blkc6 BK180.out))
       go_meet
       case rel => exact ⟨_, (((!(t172 == 0) || (!(t173 == 0))) || (((!(t174 == 0) || (!(t175 == 0))) || ((!(t176 == 0) || (!(t177 == 0)))))))), (xrf), H', ⟨by first | omega | exact Nat.le_refl _⟩, ⟨xK BK138⟩, ⟨xK BK147⟩, ⟨xK BK155⟩, ⟨xK BK163⟩, ⟨xK BK171⟩, ⟨xK BK179⟩, ⟨xK BK180⟩, ⟨xW HB⟩⟩⟩
       exact inferInstanceAs _⟩
      exact inferInstanceAs _
     ·refine box_ ?g7;letI i:type_of% ?g7:=⟨by
      rw [if_neg c62] at H
      have c62b0 : (t170 == 0) = false := beq_eq_false_iff_ne.mpr c62
      have c62b1 : (t170 != 0) = true := bne_iff_ne.mpr c62
      by_cases c95 : ((!(t164 == 0) || (!(t165 == 0))) || (((!(t166 == 0) || (!(t167 == 0))) || ((!(t168 == 0) || (!(t169 == 0))))))) = true
      ·refine box_ ?g8;letI i:type_of% ?g8:=⟨by
       rw [if_pos c95] at H
       have c95b0 : ((!(t164 == 0) || (!(t165 == 0))) || (((!(t166 == 0) || (!(t167 == 0))) || ((!(t168 == 0) || (!(t169 == 0))))))) = true := c95
       clear c95
       have H' := Aside0.mk H
       clear H; have hcz102_0 := blkc6 BK138.out
       go_wp2_with (first | ((with_reducible refine gate_callee (f := 10) rfl ?_); refine goesL_ (some 69) rfl rfl Try.func10 kr_ rfl #[.agg #[.int .i64 a0_0, .int .i64 a0_1, .int .i64 a0_2, .int .i64 a0_3, .int .i64 a0_4, .int .i64 a0_5], .int .i64 0, .int .i64 a2, .int .i64 0] rfl (by (try simp only [List.map_toArray, List.map_cons, List.map_nil]); first | done | rfl | (simp only [List.length_drop, List.length_take]; rfl)) ?_; (with_reducible refine (gamehalllaw3_offerFault.calls k a0_0 a0_1 a0_2 a0_3 a0_4 a0_5 0 a2 0 t181 _ A58.out).mono ?_); rintro e w103 ⟨rfl, hb⟩; refine ⟨_, rfl, ?_⟩; replace BK138 := Aside0.mk (xB BK138 hb); replace BK147 := Aside0.mk (xB BK147 hb); replace BK155 := Aside0.mk (xB BK155 hb); replace BK163 := Aside0.mk (xB BK163 hb); replace BK171 := Aside0.mk (xB BK171 hb); replace BK179 := Aside0.mk (xB BK179 hb); replace BK180 := Aside0.mk (xP (l' := [.int .i64 0, .int .i64 0, .int .i64 0, .int .i64 0, .int .i64 0, .int .i64 0]) BK180 hb); replace HB := Aside0.mk (xS HB hb); (try clear hb); (try clear hb2); (try clear hk); (try clear hi); have hcz104_0 := blkc6 BK138.out) | (go_at_call 10; (with_reducible refine (gamehalllaw3_offerFault.calls k a0_0 a0_1 a0_2 a0_3 a0_4 a0_5 0 0 a3 t182 _ A60.out).mono ?_); rintro e w105 ⟨rfl, hb⟩; replace BK138 := Aside0.mk (xB BK138 hb); replace BK147 := Aside0.mk (xB BK147 hb); replace BK155 := Aside0.mk (xB BK155 hb); replace BK163 := Aside0.mk (xB BK163 hb); replace BK171 := Aside0.mk (xB BK171 hb); replace BK179 := Aside0.mk (xB BK179 hb); replace BK180 := Aside0.mk (xB BK180 hb); replace HB := Aside0.mk (xS HB hb); (try clear hb); (try clear hb2); (try clear hk); (try clear hi); have hcz111_0 := blkc6 BK171.out; have hcz116_0 := blkc6 BK180.out))
       go_meet
       case rel => exact ⟨_, (true), (xrf), H', ⟨by first | omega | exact Nat.le_refl _⟩, ⟨xK BK138⟩, ⟨xK BK147⟩, ⟨xK BK155⟩, ⟨xK BK163⟩, ⟨xK BK171⟩, ⟨xK BK179⟩, ⟨xK BK180⟩, ⟨xW HB⟩⟩⟩
       exact inferInstanceAs _
      ·refine box_ ?g9;letI i:type_of% ?g9:=⟨by
       rw [if_neg c95] at H
       have c95b0 : ((!(t164 == 0) || (!(t165 == 0))) || (((!(t166 == 0) || (!(t167 == 0))) || ((!(t168 == 0) || (!(t169 == 0))))))) = false := by simpa using c95
       clear c95
       by_cases c117 : t178 = 0
       ·refine box_ ?g10;letI i:type_of% ?g10:=⟨by
        rw [if_pos c117] at H
        have c117b0 : (t178 == 0) = true := beq_iff_eq.mpr c117
        have c117b1 : (t178 != 0) = false := bne_eq_false_iff_eq.mpr c117
        clear c117
        have H' := Aside0.mk H
        clear H; have hcz124_0 := blkc6 BK138.out
        go_wp2_with (first | ((with_reducible refine gate_callee (f := 10) rfl ?_); refine goesL_ (some 69) rfl rfl Try.func10 kr_ rfl #[.agg #[.int .i64 a0_0, .int .i64 a0_1, .int .i64 a0_2, .int .i64 a0_3, .int .i64 a0_4, .int .i64 a0_5], .int .i64 0, .int .i64 a2, .int .i64 0] rfl (by (try simp only [List.map_toArray, List.map_cons, List.map_nil]); first | done | rfl | (simp only [List.length_drop, List.length_take]; rfl)) ?_; (with_reducible refine (gamehalllaw3_offerFault.calls k a0_0 a0_1 a0_2 a0_3 a0_4 a0_5 0 a2 0 t181 _ A58.out).mono ?_); rintro e w125 ⟨rfl, hb⟩; refine ⟨_, rfl, ?_⟩; replace BK138 := Aside0.mk (xB BK138 hb); replace BK147 := Aside0.mk (xB BK147 hb); replace BK155 := Aside0.mk (xB BK155 hb); replace BK163 := Aside0.mk (xB BK163 hb); replace BK171 := Aside0.mk (xB BK171 hb); replace BK179 := Aside0.mk (xB BK179 hb); replace BK180 := Aside0.mk (xP (l' := [.int .i64 0, .int .i64 0, .int .i64 0, .int .i64 0, .int .i64 0, .int .i64 0]) BK180 hb); replace HB := Aside0.mk (xS HB hb); (try clear hb); (try clear hb2); (try clear hk); (try clear hi); have hcz126_0 := blkc6 BK138.out) | (go_at_call 10; (with_reducible refine (gamehalllaw3_offerFault.calls k a0_0 a0_1 a0_2 a0_3 a0_4 a0_5 0 0 a3 t182 _ A60.out).mono ?_); rintro e w127 ⟨rfl, hb⟩; replace BK138 := Aside0.mk (xB BK138 hb); replace BK147 := Aside0.mk (xB BK147 hb); replace BK155 := Aside0.mk (xB BK155 hb); replace BK163 := Aside0.mk (xB BK163 hb); replace BK171 := Aside0.mk (xB BK171 hb); replace BK179 := Aside0.mk (xB BK179 hb); replace BK180 := Aside0.mk (xB BK180 hb); replace HB := Aside0.mk (xS HB hb); (try clear hb); (try clear hb2); (try clear hk); (try clear hi); have hcz133_0 := blkc6 BK171.out; have hcz138_0 := blkc6 BK180.out))
        go_meet
        case rel => exact ⟨_, (false), (xrf), H', ⟨by first | omega | exact Nat.le_refl _⟩, ⟨xK BK138⟩, ⟨xK BK147⟩, ⟨xK BK155⟩, ⟨xK BK163⟩, ⟨xK BK171⟩, ⟨xK BK179⟩, ⟨xK BK180⟩, ⟨xW HB⟩⟩⟩
        exact inferInstanceAs _
       ·refine box_ ?g11;letI i:type_of% ?g11:=⟨by
        rw [if_neg c117] at H
        have c117b0 : (t178 == 0) = false := beq_eq_false_iff_ne.mpr c117
        have c117b1 : (t178 != 0) = true := bne_iff_ne.mpr c117
        have H' := Aside0.mk H
        clear H; have hcz145_0 := blkc6 BK138.out
        go_wp2_with (first | ((with_reducible refine gate_callee (f := 10) rfl ?_); refine goesL_ (some 69) rfl rfl Try.func10 kr_ rfl #[.agg #[.int .i64 a0_0, .int .i64 a0_1, .int .i64 a0_2, .int .i64 a0_3, .int .i64 a0_4, .int .i64 a0_5], .int .i64 0, .int .i64 a2, .int .i64 0] rfl (by (try simp only [List.map_toArray, List.map_cons, List.map_nil]); first | done | rfl | (simp only [List.length_drop, List.length_take]; rfl)) ?_; (with_reducible refine (gamehalllaw3_offerFault.calls k a0_0 a0_1 a0_2 a0_3 a0_4 a0_5 0 a2 0 t181 _ A58.out).mono ?_); rintro e w146 ⟨rfl, hb⟩; refine ⟨_, rfl, ?_⟩; replace BK138 := Aside0.mk (xB BK138 hb); replace BK147 := Aside0.mk (xB BK147 hb); replace BK155 := Aside0.mk (xB BK155 hb); replace BK163 := Aside0.mk (xB BK163 hb); replace BK171 := Aside0.mk (xB BK171 hb); replace BK179 := Aside0.mk (xB BK179 hb); replace BK180 := Aside0.mk (xP (l' := [.int .i64 0, .int .i64 0, .int .i64 0, .int .i64 0, .int .i64 0, .int .i64 0]) BK180 hb); replace HB := Aside0.mk (xS HB hb); (try clear hb); (try clear hb2); (try clear hk); (try clear hi); have hcz147_0 := blkc6 BK138.out) | (go_at_call 10; (with_reducible refine (gamehalllaw3_offerFault.calls k a0_0 a0_1 a0_2 a0_3 a0_4 a0_5 0 0 a3 t182 _ A60.out).mono ?_); rintro e w148 ⟨rfl, hb⟩; replace BK138 := Aside0.mk (xB BK138 hb); replace BK147 := Aside0.mk (xB BK147 hb); replace BK155 := Aside0.mk (xB BK155 hb); replace BK163 := Aside0.mk (xB BK163 hb); replace BK171 := Aside0.mk (xB BK171 hb); replace BK179 := Aside0.mk (xB BK179 hb); replace BK180 := Aside0.mk (xB BK180 hb); replace HB := Aside0.mk (xS HB hb); (try clear hb); (try clear hb2); (try clear hk); (try clear hi); have hcz154_0 := blkc6 BK171.out; have hcz159_0 := blkc6 BK180.out; have hcz163_0 := blkc6 BK179.out))
        go_meet
        case rel => exact ⟨_, (((!(t172 == 0) || (!(t173 == 0))) || (((!(t174 == 0) || (!(t175 == 0))) || ((!(t176 == 0) || (!(t177 == 0)))))))), (xrf), H', ⟨by first | omega | exact Nat.le_refl _⟩, ⟨xK BK138⟩, ⟨xK BK147⟩, ⟨xK BK155⟩, ⟨xK BK163⟩, ⟨xK BK171⟩, ⟨xK BK179⟩, ⟨xK BK180⟩, ⟨xW HB⟩⟩⟩
        exact inferInstanceAs _⟩
       exact inferInstanceAs _⟩
      exact inferInstanceAs _⟩
     exact inferInstanceAs _
    ·refine box_ ?g12;letI i:type_of% ?g12:=⟨by
     rw [if_neg c61] at H
     have c61b0 : (t178 == t182) = false := beq_eq_false_iff_ne.mpr c61
     have c61b1 : (t178 != t182) = true := bne_iff_ne.mpr c61
     have H' := Aside0.mk H
     clear H; have hcz170_0 := blkc6 BK138.out
     go_wp2_with (first | ((with_reducible refine gate_callee (f := 10) rfl ?_); refine goesL_ (some 69) rfl rfl Try.func10 kr_ rfl #[.agg #[.int .i64 a0_0, .int .i64 a0_1, .int .i64 a0_2, .int .i64 a0_3, .int .i64 a0_4, .int .i64 a0_5], .int .i64 0, .int .i64 a2, .int .i64 0] rfl (by (try simp only [List.map_toArray, List.map_cons, List.map_nil]); first | done | rfl | (simp only [List.length_drop, List.length_take]; rfl)) ?_; (with_reducible refine (gamehalllaw3_offerFault.calls k a0_0 a0_1 a0_2 a0_3 a0_4 a0_5 0 a2 0 t181 _ A58.out).mono ?_); rintro e w171 ⟨rfl, hb⟩; refine ⟨_, rfl, ?_⟩; replace BK138 := Aside0.mk (xB BK138 hb); replace BK147 := Aside0.mk (xB BK147 hb); replace BK155 := Aside0.mk (xB BK155 hb); replace BK163 := Aside0.mk (xB BK163 hb); replace BK171 := Aside0.mk (xB BK171 hb); replace BK179 := Aside0.mk (xB BK179 hb); replace BK180 := Aside0.mk (xP (l' := [.int .i64 0, .int .i64 0, .int .i64 0, .int .i64 0, .int .i64 0, .int .i64 0]) BK180 hb); replace HB := Aside0.mk (xS HB hb); (try clear hb); (try clear hb2); (try clear hk); (try clear hi); have hcz172_0 := blkc6 BK138.out) | (go_at_call 10; (with_reducible refine (gamehalllaw3_offerFault.calls k a0_0 a0_1 a0_2 a0_3 a0_4 a0_5 0 0 a3 t182 _ A60.out).mono ?_); rintro e w173 ⟨rfl, hb⟩; replace BK138 := Aside0.mk (xB BK138 hb); replace BK147 := Aside0.mk (xB BK147 hb); replace BK155 := Aside0.mk (xB BK155 hb); replace BK163 := Aside0.mk (xB BK163 hb); replace BK171 := Aside0.mk (xB BK171 hb); replace BK179 := Aside0.mk (xB BK179 hb); replace BK180 := Aside0.mk (xB BK180 hb); replace HB := Aside0.mk (xS HB hb); (try clear hb); (try clear hb2); (try clear hk); (try clear hi)))
     go_meet
     case rel => exact ⟨_, (true), (xrf), H', ⟨by first | omega | exact Nat.le_refl _⟩, ⟨xK BK138⟩, ⟨xK BK147⟩, ⟨xK BK155⟩, ⟨xK BK163⟩, ⟨xK BK171⟩, ⟨xK BK179⟩, ⟨xK BK180⟩, ⟨xW HB⟩⟩⟩
     exact inferInstanceAs _⟩
    exact inferInstanceAs _
   ·refine box_ ?g13;letI i:type_of% ?g13:=⟨by
    rw [if_neg c59] at H
    have c59b0 : (t170 == t181) = false := beq_eq_false_iff_ne.mpr c59
    have c59b1 : (t170 != t181) = true := bne_iff_ne.mpr c59
    (first | rw [c59b0] | (simp only [i64_w, i32_w]; rw [c59b0]) | skip)
    have H' := Aside0.mk H
    clear H; have hcz180_0 := blkc6 BK138.out
    go_wp2_with (first | ((with_reducible refine gate_callee (f := 10) rfl ?_); refine goesL_ (some 69) rfl rfl Try.func10 kr_ rfl #[.agg #[.int .i64 a0_0, .int .i64 a0_1, .int .i64 a0_2, .int .i64 a0_3, .int .i64 a0_4, .int .i64 a0_5], .int .i64 0, .int .i64 a2, .int .i64 0] rfl (by (try simp only [List.map_toArray, List.map_cons, List.map_nil]); first | done | rfl | (simp only [List.length_drop, List.length_take]; rfl)) ?_; (with_reducible refine (gamehalllaw3_offerFault.calls k a0_0 a0_1 a0_2 a0_3 a0_4 a0_5 0 a2 0 t181 _ A58.out).mono ?_); rintro e w181 ⟨rfl, hb⟩; refine ⟨_, rfl, ?_⟩; replace BK138 := Aside0.mk (xB BK138 hb); replace BK147 := Aside0.mk (xB BK147 hb); replace BK155 := Aside0.mk (xB BK155 hb); replace BK163 := Aside0.mk (xB BK163 hb); replace BK171 := Aside0.mk (xB BK171 hb); replace BK179 := Aside0.mk (xB BK179 hb); replace BK180 := Aside0.mk (xP (l' := [.int .i64 0, .int .i64 0, .int .i64 0, .int .i64 0, .int .i64 0, .int .i64 0]) BK180 hb); replace HB := Aside0.mk (xS HB hb); (try clear hb); (try clear hb2); (try clear hk); (try clear hi)))
    go_meet
    case rel => exact ⟨_, (true), (xrf), H', ⟨by first | omega | exact Nat.le_refl _⟩, ⟨xK BK138⟩, ⟨xK BK147⟩, ⟨xK BK155⟩, ⟨xK BK163⟩, ⟨xK BK171⟩, ⟨xK BK179⟩, ⟨xK BK180⟩, ⟨xW HB⟩⟩⟩
    exact inferInstanceAs _⟩
   exact inferInstanceAs _
  case rest =>
   repeat (rename_i xv0_; (first | (have zv_ : Value := xv0_; clear zv_; clear xv0_) | revert xv0_))
   (try revert wc); (try revert vs95); (try revert w50); (try revert gb180); (try revert w43); (try revert gb179); (try revert w42); (try revert w35); (try revert gb171); (try revert w34); (try revert w28); (try revert gb163); (try revert w27); (try revert w22); (try revert gb155); (try revert w21)
   (try revert w17); (try revert gb147); (try revert w16); (try revert rfl); (try revert w14); (try revert e); (try revert hb); (try revert hbox); (try revert w13); (try revert hg); (try revert gb138); (try revert t178); (try revert t177); (try revert t176); (try revert t175); (try revert t174)
   (try revert t173); (try revert t172); (try revert t170); (try revert t169); (try revert t168); (try revert t167); (try revert t166); (try revert t165); (try revert t164); (try revert t162); (try revert t161); (try revert t160); (try revert t159); (try revert t158); (try revert t157); (try revert t156)
   (try revert t154); (try revert t153); (try revert t152); (try revert t151); (try revert t150); (try revert t149); (try revert t148); (try revert t146); (try revert t145); (try revert t144); (try revert t143); (try revert t142); (try revert t141); (try revert t140); (try revert t182); (try revert t181)
   (try revert bt172); (try revert bt164); (try revert bt156); (try revert bt148); (try revert bt140); (try revert t139); (try revert hss_); (try revert h); (try revert w); (try revert r); (try revert a3); (try revert a2); (try revert a1); (try revert a0_5); (try revert a0_4); (try revert a0_3)
   (try revert a0_2); (try revert a0_1); (try revert a0_0); (try revert k); (try revert hu22); (try revert hu25); (try revert u324); (try revert u323); (try revert u322); (try revert u321); (try revert u320); (try revert u319); (try revert u318); (try revert u317); (try revert u316); (try revert u315)
   (try revert u314); (try revert u313); (try revert u312); (try revert u311); (try revert u310); (try revert u309); (try revert u308); (try revert u307); (try revert u306); (try revert u305); (try revert u304); (try revert u303); (try revert u302); (try revert u301); (try revert u300); (try revert u299)
   (try revert u298); (try revert u297); (try revert u296); (try revert u295); (try revert u294); (try revert u293); (try revert u292); (try revert u291); (try revert u290); (try revert u289); (try revert u288); (try revert u287); (try revert u286); (try revert u285); (try revert u284); (try revert u283)
   (try revert u282); (try revert u281); (try revert u280); (try revert u279); (try revert u278); (try revert u277); (try revert u276); (try revert u275); (try revert u274); (try revert u273); (try revert u272); (try revert u271); (try revert u270); (try revert u269); (try revert u268); (try revert u267)
   (try revert u266); (try revert u265); (try revert u264); (try revert u263); (try revert u262); (try revert u261); (try revert u260); (try revert u259); (try revert u258); (try revert u257); (try revert u256); (try revert u255); (try revert u254); (try revert u253); (try revert u252); (try revert u251)
   (try revert u250); (try revert u249); (try revert u248); (try revert u247); (try revert u246); (try revert u245); (try revert u244); (try revert u243); (try revert u242); (try revert u241); (try revert u240); (try revert u239); (try revert u238); (try revert u237); (try revert u236); (try revert u235)
   (try revert u234); (try revert u233); (try revert u232); (try revert u231); (try revert u230); (try revert u229); (try revert u228); (try revert u227); (try revert u226); (try revert u225); (try revert u224); (try revert u223); (try revert u222); (try revert u221); (try revert u220); (try revert u219)
   (try revert u218); (try revert u217); (try revert u216); (try revert u215); (try revert u214); (try revert u213); (try revert u212); (try revert u211); (try revert u210); (try revert u209); (try revert u208); (try revert u207); (try revert u206); (try revert u205); (try revert u204); (try revert u203)
   (try revert u202); (try revert u201); (try revert u200); (try revert u199); (try revert u198); (try revert u197); (try revert u196); (try revert u195); (try revert u194); (try revert u193); (try revert u192); (try revert u191); (try revert u190); (try revert u189); (try revert u188); (try revert u187)
   (try revert u186); (try revert u185); (try revert u184); (try revert u183); (try revert u182); (try revert u181); (try revert u180); (try revert u179); (try revert u178); (try revert u177); (try revert u176); (try revert u175); (try revert u174); (try revert u173); (try revert u172); (try revert u171)
   (try revert u170); (try revert u169); (try revert u168); (try revert u167); (try revert u166); (try revert u165); (try revert u164); (try revert u163); (try revert u162); (try revert u161); (try revert u160); (try revert u159); (try revert u158); (try revert u157); (try revert u156); (try revert u155)
   (try revert u154); (try revert u153); (try revert u152); (try revert u151); (try revert u150); (try revert u149); (try revert u148); (try revert u147); (try revert u146); (try revert u145); (try revert u144); (try revert u143); (try revert u142); (try revert u141); (try revert u140); (try revert u139)
   (try revert u138); (try revert u137); (try revert u136); (try revert u135); (try revert u134); (try revert u133); (try revert u132); (try revert u131); (try revert u130); (try revert u129); (try revert u128); (try revert u127); (try revert u126); (try revert u125); (try revert u124); (try revert u123)
   (try revert u122); (try revert u121); (try revert u120); (try revert u119); (try revert u118); (try revert u117); (try revert u116); (try revert u115); (try revert u114); (try revert u113); (try revert u112); (try revert u111); (try revert u110); (try revert u109); (try revert u108); (try revert u107)
   (try revert u106); (try revert u105); (try revert u104); (try revert u103); (try revert u102); (try revert u101); (try revert u100); (try revert u99); (try revert u98); (try revert u97); (try revert u96); (try revert u95); (try revert u94); (try revert u93); (try revert u92); (try revert u91)
   (try revert u90); (try revert u89); (try revert u88); (try revert u87); (try revert u86); (try revert u85); (try revert u84); (try revert u83); (try revert u82); (try revert u81); (try revert u80); (try revert u79); (try revert u78); (try revert u77); (try revert u76); (try revert u75)
   (try revert u74); (try revert u73); (try revert u72); (try revert u71); (try revert u70); (try revert u69); (try revert u68); (try revert u67); (try revert u66); (try revert u65); (try revert u64); (try revert u63); (try revert u62); (try revert u61); (try revert u60); (try revert u59)
   (try revert u58); (try revert u57); (try revert u56); (try revert u55); (try revert u54); (try revert u53); (try revert u52); (try revert u51); (try revert u50); (try revert u49); (try revert u48); (try revert u47); (try revert u46); (try revert u45); (try revert u44); (try revert u43)
   (try revert u42); (try revert u41); (try revert u40); (try revert u39); (try revert u38); (try revert u37); (try revert u36); (try revert u35); (try revert u34); (try revert u33); (try revert u32); (try revert u31); (try revert u30); (try revert u29); (try revert u28); (try revert u27)
   (try revert u26); (try revert u25); (try revert u24); (try revert u23); (try revert u22); (try revert u21); (try revert u20); (try revert u19); (try revert u18); (try revert u17); (try revert u16); (try revert u15); (try revert u14); (try revert u13); (try revert u12); (try revert u11)
   (try revert u10); (try revert u9); (try revert u8); (try revert u7); (try revert u6); (try revert u5); (try revert u4); (try revert u3); (try revert u2); (try revert u1); (try revert u0)
   repeat (rename_i xv0_; (first | (have zv_ : Value := xv0_; clear zv_; clear xv0_) | revert xv0_))
   repeat (rename_i xv0_; (first | (have zv_ : Value := xv0_; clear zv_; clear xv0_) | revert xv0_))
   have zz_ := True.intro
   revert zz_
   exact hP_
 ·replace c6 := Bool.eq_false_iff.mpr c6
  subst c6
  rw [if_neg (show ¬ (false = true) by decide)] at H
  obtain rfl := Option.some.inj H
  go_enter Try.func3, Try.ntmps3
  go_wp2_with (first | ((with_reducible refine gate_dst (N := 4) rfl ?_); refine box_event ?hg (N := 4) ?hd (cs := #[.int .i64 a0_0, .int .i64 a0_1, .int .i64 a0_2, .int .i64 a0_3, .int .i64 a0_4, .int .i64 a0_5]) (t := 25) ?hr ?_; (case hd => rfl); (case hg => rfl); (case hr => first | (go_simp; done) | (go_simp; rfl)); intro gb138 hg w1078 hbox hb; have BK138 := Aside0.mk (hbox); have GW138 := Aside0.mk (xZ HB hg); have GE138 := Aside0.mk (xZ HB hg); replace HB := Aside0.mk (xS HB hb); clear hb hbox hg) | ((with_reducible refine gate_callee (f := 4) rfl ?_); refine goesL_ (some 27) rfl rfl Try.func4 kr_ rfl #[] rfl (by (try simp only [List.map_toArray, List.map_cons, List.map_nil]); first | done | rfl | (simp only [List.length_drop, List.length_take]; rfl)) ?_; (with_reducible refine (gamehalllaw3_offers.calls k  false _ A5.out).mono ?_); rintro e w1079 ⟨rfl, hb⟩; refine ⟨_, rfl, ?_⟩; replace BK138 := Aside0.mk (xB BK138 hb); replace HB := Aside0.mk (xS HB hb); (try clear hb); (try clear hb2); (try clear hk); (try clear hi)))
  go_ret
  exact ⟨xer, xW HB⟩
end Go.Proofs.Yteioadnojajjoaa.POfferSays
