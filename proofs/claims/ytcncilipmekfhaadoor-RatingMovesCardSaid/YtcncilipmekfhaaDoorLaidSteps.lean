/- From the row's condition to the table in memory, and a world that meets it. -/
import Derived.Test.YtcncilipmekfhaaDoorRows
import Derived.Test.YtcncilipmekfhaaDoorGivenExpect
import Derived.OpenShut
import Derived.ProofKit
import Derived.LaidLaws
import Derived.Handed
namespace Go.Proofs.YtcncilipmekfhaaDoor
open Go.ChangeShapes Go.WideShapes Go.ChangeAt Go.RowKit Go.Proofs.YtcncilipmekfhaaDoorW.PrintWords
def stepsLaid : List (String × DataW Unit) := [("gamehall/rating.steps", Rows.laid_gamehall_rating_steps)]
theorem laidS_of {W : World} (h : laidMet Tryd.prog stepsLaid W) : LaidS W := by
  obtain ⟨ps, ⟨g, t, cs, fuel, p, q, hg, ht, hvar, hd, _, _⟩, _⟩ := h
  obtain rfl := Option.some.inj ((show Tryd.prog.globalNamed "gamehall/rating.steps" = some 0 by kernel_rfl).symm.trans hg)
  obtain rfl := Option.some.inj ((show (Tryd.prog.globals[0]?).map (·.type) = some 50 by kernel_rfl).symm.trans ht)
  obtain ⟨xs, m, rfl, hx, hlen, hxs, hel⟩ := DataW.trod_array Tryd.underlying50 hd
  have hdat : xs.map (·.1) = stepsL.map (fun n => DataW.lit (.int .i64 n)) := by
    have := (Prod.mk.inj hx).1
    rw [show (Rows.laid_gamehall_rating_steps : DataW Unit) = .agg (stepsL.map (fun n => DataW.lit (.int .i64 n))) from rfl] at this
    injection this with e
    exact e.symm
  intro i v e
  rw [World.var?_cell hg hvar i]
  have hi : i < 42 := by
    have := (Array.getElem?_eq_some_iff.1 e).1
    simpa [stepsA, stepsL] using this
  have hs : i < stepsL.length := hi
  have hv : v = .int .i64 stepsL[i] := by
    have := (Array.getElem?_eq_some_iff.1 e).2
    rw [← this]; simp [stepsA]
  have he := hel i hi
  rw [show Tryd.prog.cellsOf 3 = 1 by kernel_rfl, Nat.mul_one] at he
  have hxi : i < xs.length := by omega
  rw [List.getElem?_eq_getElem hxi] at he
  obtain ⟨n, hc, hn, _⟩ := DataW.trod_int Tryd.underlying3 he
  have hd1 : xs[i].1 = DataW.lit (.int .i64 stepsL[i]) := by
    have h1 : (xs.map (·.1))[i]'(by simpa using hxi) = xs[i].1 := by simp
    rw [← h1]
    simp only [hdat]
    simp
  have hn1 : n = stepsL[i] := by
    rw [hn] at hd1
    injection hd1 with a
    injection a
  subst hn1
  rw [hv]
  have hcl : cs.toList[i]? = some (.int .i64 stepsL[i]) := by
    have : ((cs.toList.drop i).take 1)[0]? = some (.int .i64 stepsL[i]) := by rw [hc]; rfl
    simpa using this
  simpa using hcl
noncomputable def laidWorld (os : Os) : World :=
  let w0 := World.holding Tryd.prog os ⟨#[], #[], []⟩
  { w0 with heap := w0.heap.modify 0 fun
      | .cells _ t frozen => .cells stepsA t frozen
      | o => o }
theorem laid_met (os : Os) (args : Array Value) : laidMet Tryd.prog stepsLaid ((laidWorld os).forCall (fun _ _ => 0) ⟨#[], args, []⟩).memory :=
  laidMet_of_run' 8 (by kernel_rfl) (by kernel_rfl)
end Go.Proofs.YtcncilipmekfhaaDoor
