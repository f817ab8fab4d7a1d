/- From the row's condition to the variables in memory, and a world that meets it (laid by the kit's own function). -/
import Derived.Test.YtkkgpabjpnkjjaaDoorRows
import Derived.Test.YtkkgpabjpnkjjaaDoorGivenText
import Derived.SliceStrings
import Derived.ProofKit
import Derived.LaidLaws
import Derived.Lay
import Derived.Lib.LaidTab
import Derived.Stop.LaidErr
namespace Go.Proofs.YtkkgpabjpnkjjaaDoor
open Go.ChangeShapes Go.WideShapes Go.ChangeAt Go.RowKit Go.Proofs.YtkkgpabjpnkjjaaDoorW.PrintWords
def textLaid : List (String × DataW Unit) := Rows.ruletextPrintsRow.laid
theorem strs_inj {xs ys : List ByteArray} (h : (strs xs : List (DataW Unit)) = strs ys) : xs = ys := by
  unfold strs at h
  refine List.map_inj_right (fun a b e => ?_) |>.1 h
  injection e with e1
  injection e1 with e2
  obtain ⟨⟨x⟩⟩ := a; obtain ⟨⟨y⟩⟩ := b
  simpa using e2
theorem add0 (a : Addr) : a.add 0 = a := by simp [Addr.add]
theorem strings_of {W : World} {name : String} {g st : Nat} {d : DataW Unit} {ys : List ByteArray} {rest : List (String × DataW Unit)}
    (hgl : Tryd.prog.globalNamed name = some g) (hty : (Tryd.prog.globals[g]?).map (·.type) = some st) (hu : Tryd.prog.underlying st = some (.slice 9)) (h9 : Tryd.prog.underlying 9 = some .string) (hc9 : Tryd.prog.cellsOf 9 = 1)
    (hd : d = .slice (strs ys) []) (h : laidMet Tryd.prog ((name, d) :: rest) W) :
    ∃ (A : Option Addr) (c : Nat), W.cell? ⟨g, 0, none⟩ = some (.slice A ys.length c) ∧ Kd.string.C W A ys.length ys ∧ ys.length ≤ c := by
  subst hd
  obtain ⟨ps, ⟨g', t', cs, fuel, p, q, hg, ht, hvar, hdd, _, _⟩, _⟩ := h
  obtain rfl := Option.some.inj (hgl.symm.trans hg)
  obtain rfl := Option.some.inj (hty.symm.trans ht)
  have hv := World.var?_cell hg hvar 0
  rcases open_strings hu h9 hc9 hdd with ⟨_, hx⟩ | ⟨a, len, cap, ss, hcs, _, hl, hm, hlen, hx, hcell, _⟩
  · cases (Prod.mk.inj hx).1
  · have h1 := (Prod.mk.inj hx).1
    injection h1 with h2 h3
    have hy := strs_inj h2
    have hlc : len ≤ ss.length := by rw [hlen]; split <;> omega
    have hyl : ys.length = len := by rw [hy, List.length_take]; omega
    have hcs0 : cs[0]? = some (.slice (some a) len cap) := by
      rw [← Array.getElem?_toList, hcs]; rfl
    rw [hcs0] at hv
    refine ⟨some a, cap, by rw [hyl]; exact hv, ⟨rfl, ?_, fun _ => ⟨a, rfl, fun j s hj => ?_⟩⟩, by rw [hyl]; exact hl⟩
    · have hml : len ≤ maxLen := Nat.le_trans hl hm
      rw [hyl]; unfold maxLen at hml; exact hml
    · have hj1 : j < ys.length := (List.getElem?_eq_some_iff.1 hj).1
      have hj2 : j < ss.length := by omega
      have e1 : ss.getD j ByteArray.empty = s := by
        rw [hy, List.getElem?_take] at hj
        split at hj
        · simp [List.getD_eq_getElem?_getD, hj]
        · cases hj
      have hcj := hcell j hj2
      rw [e1] at hcj
      refine ⟨[.string s], rfl, rfl, fun i u hu' => ?_⟩
      match i, hu' with
      | 0, hu' =>
        obtain rfl := Option.some.inj hu'
        rw [show j * Kd.string.sz + 0 = j by show j * 1 + 0 = j; omega]
        exact hcj
      | i + 1, hu' => simp at hu'
theorem laidS_of {W : World} (h : laidMet Tryd.prog textLaid W) : LaidS W := by
  have h : laidMet Tryd.prog [("math/bits.deBruijn32tab", Rows.laid_math_bits_deBruijn32tab), ("math/bits.deBruijn64tab", Rows.laid_math_bits_deBruijn64tab), ("internal/strconv.uint64pow10", Rows.laid_internal_strconv_uint64pow10), ("gamehall/ruletext.takes", Rows.laid_gamehall_ruletext_takes), ("gamehall/ruletext.blocked", Rows.laid_gamehall_ruletext_blocked)] W := h
  have h2 := laidMet.tail (laidMet.tail h)
  have h3 := laidMet.tail h2
  have h4 := laidMet.tail h3
  have e : (Rows.laid_internal_strconv_uint64pow10 : DataW Unit) = Lib.tabData .u64 Lib.pow10Tab := by kernel_rfl
  rw [e] at h2
  exact ⟨Lib.tabIs_of_head (g := 2) (t := 76) (e := 66) (n := 20) (by kernel_rfl) (by kernel_rfl) (by kernel_rfl) (by kernel_rfl) (by kernel_rfl) (by kernel_rfl) h2,
    strings_of (g := 0) (st := 35) (by kernel_rfl) (by kernel_rfl) (by kernel_rfl) (by kernel_rfl) (by kernel_rfl) (ys := blockedL) (by kernel_rfl) h4,
    strings_of (g := 1) (st := 35) (by kernel_rfl) (by kernel_rfl) (by kernel_rfl) (by kernel_rfl) (by kernel_rfl) (ys := takesL) (by kernel_rfl) h3⟩
noncomputable def laidWorld (os : Os) : World := World.laidAll Tryd.prog os textLaid
theorem laid_met (os : Os) (args : Array Value) : laidMet Tryd.prog textLaid ((laidWorld os).forCall (fun _ _ => 0) ⟨#[], args, []⟩).memory :=
  laidMet_laidAll args (by kernel_rfl) (by kernel_rfl)
end Go.Proofs.YtkkgpabjpnkjjaaDoor
