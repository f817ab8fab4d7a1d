/- From the row's condition to the table in memory, and a world that meets it. -/
import Derived.Test.YtcncilipmekfhaaDoorRows
import Derived.Test.YtcncilipmekfhaaDoorGivenBits
import Derived.OpenShut
import Derived.ProofKit
import Derived.LaidLaws
import Derived.Handed
namespace Go.Proofs.YtcncilipmekfhaaDoor
open Go.ChangeShapes Go.WideShapes Go.ChangeAt Go.RowKit Go.Proofs.YtcncilipmekfhaaDoorW.PrintWords
def bitsLaid : List (String × DataW Unit) := [("math/bits.deBruijn64tab", Rows.laid_math_bits_deBruijn64tab)]
theorem laidS_of {W : World} (h : laidMet Tryd.prog bitsLaid W) : LaidS W := by
  obtain ⟨ps, ⟨g, t, cs, fuel, p, q, hg, ht, hvar, hd, _, _⟩, _⟩ := h
  obtain rfl := Option.some.inj ((show Tryd.prog.globalNamed "math/bits.deBruijn64tab" = some 1 by kernel_rfl).symm.trans hg)
  obtain rfl := Option.some.inj ((show (Tryd.prog.globals[1]?).map (·.type) = some 54 by kernel_rfl).symm.trans ht)
  obtain ⟨xs, m, rfl, hx, hlen, hxs, hel⟩ := DataW.trod_array Tryd.underlying54 hd
  have hdat : xs.map (·.1) = Tz.tab.map (fun n => DataW.lit (.int .u8 n)) := by
    have := (Prod.mk.inj hx).1
    rw [show (Rows.laid_math_bits_deBruijn64tab : DataW Unit) = .agg (Tz.tab.map (fun n => DataW.lit (.int .u8 n))) from rfl] at this
    injection this with e
    exact e.symm
  intro i v e
  rw [World.var?_cell hg hvar i]
  have hi : i < 64 := by
    have := (Array.getElem?_eq_some_iff.1 e).1
    simpa [tabA, Tz.tab] using this
  have hs : i < Tz.tab.length := hi
  have hv : v = .int .u8 Tz.tab[i] := by
    have := (Array.getElem?_eq_some_iff.1 e).2
    rw [← this]; simp [tabA]
  have he := hel i hi
  rw [show Tryd.prog.cellsOf 5 = 1 by kernel_rfl, Nat.mul_one] at he
  have hxi : i < xs.length := by omega
  rw [List.getElem?_eq_getElem hxi] at he
  obtain ⟨n, hc, hn, _⟩ := DataW.trod_int Tryd.underlying5 he
  have hd1 : xs[i].1 = DataW.lit (.int .u8 Tz.tab[i]) := by
    have h1 : (xs.map (·.1))[i]'(by simpa using hxi) = xs[i].1 := by simp
    rw [← h1]
    simp only [hdat]
    simp
  have hn1 : n = Tz.tab[i] := by
    rw [hn] at hd1
    injection hd1 with a
    injection a
  subst hn1
  rw [hv]
  have hcl : cs.toList[i]? = some (.int .u8 Tz.tab[i]) := by
    have : ((cs.toList.drop i).take 1)[0]? = some (.int .u8 Tz.tab[i]) := by rw [hc]; rfl
    simpa using this
  simpa using hcl
noncomputable def laidWorld (os : Os) : World :=
  let w0 := World.holding Tryd.prog os ⟨#[], #[], []⟩
  { w0 with heap := w0.heap.modify 1 fun
      | .cells _ t frozen => .cells tabA t frozen
      | o => o }
theorem laid_met (os : Os) (args : Array Value) : laidMet Tryd.prog bitsLaid ((laidWorld os).forCall (fun _ _ => 0) ⟨#[], args, []⟩).memory :=
  laidMet_of_run' 8 (by kernel_rfl) (by kernel_rfl)
end Go.Proofs.YtcncilipmekfhaaDoor
