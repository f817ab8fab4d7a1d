/- From the row's condition to the variables in memory, and a world that meets it (laid by the kit's own function). -/
import Derived.Test.YtloadbbndnmdlaaDoorRows
import Derived.Test.YtloadbbndnmdlaaDoorGivenText
import Derived.SliceStrings
import Derived.ProofKit
import Derived.LaidLaws
import Derived.Lay
import Derived.Lib.LaidTab
import Derived.Stop.LaidErr
namespace Go.Proofs.YtloadbbndnmdlaaDoor
open Go.ChangeShapes Go.WideShapes Go.ChangeAt Go.RowKit Go.Proofs.YtloadbbndnmdlaaDoorW.PrintWords
def textLaid : List (String × DataW Unit) := Rows.placeChecksRow.laid
theorem laidS_of {W : World} (h : laidMet Tryd.prog textLaid W) : LaidS W := by
  have h : laidMet Tryd.prog [("math/bits.deBruijn32tab", Rows.laid_math_bits_deBruijn32tab), ("math/bits.deBruijn64tab", Rows.laid_math_bits_deBruijn64tab), ("internal/strconv.uint64pow10", Rows.laid_internal_strconv_uint64pow10)] W := h
  have h2 := laidMet.tail (laidMet.tail h)
  have e : (Rows.laid_internal_strconv_uint64pow10 : DataW Unit) = Lib.tabData .u64 Lib.pow10Tab := by kernel_rfl
  rw [e] at h2
  exact ⟨Lib.tabIs_of_head (g := 1) (t := 87) (e := 80) (n := 20) (by kernel_rfl) (by kernel_rfl) (by kernel_rfl) (by kernel_rfl) (by kernel_rfl) (by kernel_rfl) h2⟩
noncomputable def laidWorld (os : Os) : World := World.laidAll Tryd.prog os textLaid
theorem laid_met (os : Os) (args : Array Value) : laidMet Tryd.prog textLaid ((laidWorld os).forCall (fun _ _ => 0) ⟨#[], args, []⟩).memory :=
  laidMet_laidAll args (by kernel_rfl) (by kernel_rfl)
end Go.Proofs.YtloadbbndnmdlaaDoor
