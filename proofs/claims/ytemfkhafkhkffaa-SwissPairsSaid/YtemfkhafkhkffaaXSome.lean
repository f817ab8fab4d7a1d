/- A store makes no cell and takes none away. -/
import Derived.Test.YtemfkhafkhkffaaXWords
namespace Go.Proofs.YtemfkhafkhkffaaW.PrintWords
open Go.RowKit
theorem isSome_setCell (w : World) (p q : Addr) (v : Value) : ((w.setCell p v).cell? q).isSome = (w.cell? q).isSome := by
  unfold World.cell? World.setCell
  simp only [Array.getElem?_modify]
  by_cases h : p.block = q.block
  · rw [if_pos h]
    cases hb : w.heap[q.block]? with
    | none => rfl
    | some o =>
      cases o with
      | cells c t f =>
        simp only [Option.map_some]
        by_cases hq : q.spot.isSome
        · simp [hq]
        · by_cases hp : p.spot.isSome
          · simp [hq, hp]
          · simp only [hq, hp]
            by_cases h1 : q.off < c.size <;> simp [h1]
      | _ => rfl
  · rw [if_neg h]
end Go.Proofs.YtemfkhafkhkffaaW.PrintWords
