/- A strings.Builder of a call's own: what it holds, told by a string; its methods by the shelf's contracts. -/
import Derived.Test.YtloadbbndnmdlaaDoorShelf
import Derived.Test.YtloadbbndnmdlaaDoorGivenText
namespace Go.Proofs.YtloadbbndnmdlaaDoorW.PrintWords
open Go.RowKit Go.Proofs.YtloadbbndnmdlaaDoorW.PrintLast Go.Proofs.YtloadbbndnmdlaaDoorW.PrintMore
set_option linter.unusedVariables false
def Bd (g : Nat) (x : ByteArray) (w : World) : Prop := Lib.IsBuilderF 62 5 g g (Lib.byteCells x.data.toList) w
theorem Bd.lt {g : Nat} {x : ByteArray} {w : World} (h : Bd g x w) : g < w.heap.size := h.elim (fun a => a.lt) (fun a => a.lt)
theorem Bd.new {g : Nat} {w : World} (h : w.heap[g]? = some (.cells #[.pointer none, .slice none 0 0] 62 (0, 0))) : Bd g ⟨#[]⟩ w :=
  .inl ⟨Nat.le_refl _, _, h, ⟨rfl, .inl ⟨rfl, rfl⟩⟩, by simp [Value.ownBlock]⟩
theorem Bd.below {g : Nat} {x : ByteArray} {w w' : World} (h : Bd g x w) (hb : Below w.heap.size w w') : Bd g x w' := by
  have one : ∀ p, Lib.BuilderAtF 62 5 g g p (Lib.byteCells x.data.toList) w → Lib.BuilderAtF 62 5 g g p (Lib.byteCells x.data.toList) w' := by
    intro p h
    have hlt := h.lt
    obtain ⟨hB, v, hk, hown, hne⟩ := h
    refine ⟨hB, v, (hb.block g hlt).trans hk, ⟨hown.1, ?_⟩, hne⟩
    rcases hown.2 with hn | ⟨g', cap, cur, fz, hv, hbg, hg, rest⟩
    · exact .inl hn
    · exact .inr ⟨g', cap, cur, fz, hv, hbg, blk_below hg hb, rest⟩
  exact h.elim (fun a => .inl (one _ a)) (fun a => .inr (one _ a))
theorem blk_low {g k : Nat} {o : Obj} {w w' : World} (h : w.heap[k]? = some o) (hk : k < g) (hb : Below g w w') : w'.heap[k]? = some o := (hb.block k hk).trans h
theorem below_low {B g : Nat} {u w w' : World} (h : Below B u w) (hB : B ≤ g) (hb : Below g w w') : Below B u w' := h.trans (hb.mono hB)
theorem Bd.write {g : Nat} {x s : ByteArray} {w : World} (h : Bd g x w) (hl : x.size + s.size ≤ 140737488355328) :
    Calls Tryd.prog 30 #[.pointer (some ⟨g, 0, none⟩), .string s] w fun e w' => e = .returned (.tuple #[.int .i64 s.size, .nilIface]) ∧ Bd g (x ++ s) w' ∧ Below g w w' := by
  refine (Tryd.Builder_WriteString_k g g _ s w h ?_ (Nat.le_of_lt h.lt)).mono ?_
  · rw [Lib.byteCells_length]; simpa using hl
  · rintro e w' ⟨rfl, h1, h2, _⟩
    refine ⟨rfl, .inr ?_, h2⟩
    rw [Lib.strCells_eq] at h1
    rw [show Lib.byteCells (x ++ s).data.toList = Lib.byteCells x.data.toList ++ Lib.byteCells s.data.toList by simp [Lib.byteCells, ByteArray.data_append]]
    exact h1
theorem Bd.writeByte {g : Nat} {x : ByteArray} {c : Int} {w : World} (h : Bd g x w) (hl : x.size + 1 ≤ 140737488355328 ∧ 0 ≤ c ∧ c ≤ 255) :
    Calls Tryd.prog 32 #[.pointer (some ⟨g, 0, none⟩), .int .u8 c] w fun e w' => e = .returned .nilIface ∧ Bd g (x ++ (⟨#[c.toNat.toUInt8]⟩ : ByteArray)) w' ∧ Below g w w' := by
  refine (Tryd.Builder_WriteByte_k g g _ c w h ?_ (Nat.le_of_lt h.lt)).mono ?_
  · rw [Lib.byteCells_length]; simpa using hl.1
  · rintro e w' ⟨rfl, h1, h2, _⟩
    refine ⟨rfl, .inr ?_, h2⟩
    have hc : ((c.toNat.toUInt8).toNat : Int) = c := by
      have : c.toNat < 256 := by omega
      rw [show (c.toNat.toUInt8).toNat = c.toNat from Nat.mod_eq_of_lt this]; omega
    rw [show Lib.byteCells (x ++ (⟨#[c.toNat.toUInt8]⟩ : ByteArray)).data.toList = Lib.byteCells x.data.toList ++ [.int .u8 c] by simp only [Lib.byteCells, ByteArray.data_append, Array.toList_append, List.map_append, List.map_cons, List.map_nil, hc]]
    exact h1
theorem Bd.slash {g : Nat} {x : ByteArray} {w : World} (h : Bd g x w) (hl : x.size + 1 ≤ 140737488355328) :
    Calls Tryd.prog 32 #[.pointer (some ⟨g, 0, none⟩), .int .u8 47] w fun e w' => e = .returned .nilIface ∧ Bd g (x ++ (⟨#[47]⟩ : ByteArray)) w' ∧ Below g w w' := Bd.writeByte h ⟨hl, by decide, by decide⟩
theorem Bd.string {g : Nat} {x : ByteArray} {w : World} (h : Bd g x w) :
    Calls Tryd.prog 31 #[.pointer (some ⟨g, 0, none⟩)] w fun e w' => e = .returned (.string x) ∧ Bd g x w' ∧ Below g w w' := by
  refine (Tryd.Builder_String_any_k g g x.data.toList w h (Nat.le_of_lt h.lt)).mono ?_
  rintro e w' ⟨rfl, h1, h2, _⟩
  exact ⟨rfl, h1, h2⟩
section -- the words of the walk
variable {w0 w w1 W : World} {g g' b : Nat} {o : Obj} {x : ByteArray}
theorem xBd (H : Aside0 (Bd g x w0)) (k : Bd g x w0 → Bd g x w := by intro h_; exact h_) : Bd g x w := k H.out
theorem xBb (H : Aside0 (Bd g x w0)) (hb : Below w.heap.size w w1) (k : Bd g x w0 → Bd g x w := by intro h_; exact h_) : Bd g x w1 := (k H.out).below hb
theorem xLow (H : Aside0 (w0.heap[g]? = some o)) (hk : Aside0 (g < b)) (hb : Below b w w1) (k : w0.heap[g]? = some o → w.heap[g]? = some o := by intro h_; repeat (first | (with_reducible exact h_) | (with_reducible refine blk_drewN ?_ _) | (with_reducible refine blk_drew ?_) | (with_reducible refine blk_alloc ?_ _) | ((with_reducible apply blk_far); (case hp => (try dsimp only); exact Aside0.out (by first | (with_reducible assumption) | assumption))) | exact h_)) : w1.heap[g]? = some o := blk_low (k H.out) hk.out hb
theorem xLt (H : Aside0 (w0.heap[g]? = some o)) (hg : g' = w.heap.size) (k : w0.heap[g]? = some o → w.heap[g]? = some o := by intro h_; repeat (first | (with_reducible exact h_) | (with_reducible refine blk_drewN ?_ _) | (with_reducible refine blk_drew ?_) | (with_reducible refine blk_alloc ?_ _) | ((with_reducible apply blk_far); (case hp => (try dsimp only); exact Aside0.out (by first | (with_reducible assumption) | assumption))) | exact h_)) : g < g' := by rw [hg]; exact blk_lt (k H.out)
theorem xHlow (H : Aside0 (Below w.heap.size w w0)) (hB : Aside0 (w.heap.size ≤ b)) (hb : Below b W w1) (k : Below w.heap.size w w0 → Below w.heap.size w W := by intro h_; repeat (first | (with_reducible first | exact h_ | apply below_alloc | apply pw_below_drewN | apply below_drew1) | ((with_reducible apply below_set); (case hg => exact Aside0.out (by first | (with_reducible assumption) | assumption))) | exact h_)) : Below w.heap.size w w1 := below_low (k H.out) hB.out hb
end
end Go.Proofs.YtloadbbndnmdlaaDoorW.PrintWords
