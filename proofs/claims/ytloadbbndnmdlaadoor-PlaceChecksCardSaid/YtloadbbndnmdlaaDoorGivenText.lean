/- strconv.Itoa and strings.Join, by the shelf's contracts; the table that the row lists. -/
import Derived.Test.YtloadbbndnmdlaaDoorShelf
import Derived.Test.YtloadbbndnmdlaaDoorXTells
import Derived.Test.YtloadbbndnmdlaaDoorXWords
import Derived.Test.YtloadbbndnmdlaaDoorWLast
import Derived.Lib.SmallJoins
namespace Go.Proofs.YtloadbbndnmdlaaDoorW.PrintWords
open Go.RowKit Go.Sort Go.Proofs.YtloadbbndnmdlaaDoorW.PrintLast Go.Proofs.YtloadbbndnmdlaaDoorW.PrintMore
set_option linter.unusedVariables false
structure LaidS (w : World) : Prop where
  tab : Lib.TabIs Tryd.prog w "internal/strconv.uint64pow10" .u64 Lib.pow10Tab
theorem LaidS.below {w W : World} (h : LaidS w) (hb : Below w.heap.size w W) : LaidS W := by
  exact ⟨Go.Joins.tab_stays (g := 1) (by kernel_rfl) h.tab hb (Nat.le_refl _)⟩
theorem LaidS.drewN {w : World} (h : LaidS w) (n : Nat) : LaidS (w.drewN n) := LaidS.below h (pw_below_drewN (Below.refl _ _) n)
theorem LaidS.drew {w : World} (h : LaidS w) : LaidS w.drew := LaidS.below h (below_drew1 (Below.refl _ _))
theorem xLs {w W : World} (hl : LaidS w) (k : LaidS w → LaidS W := by intro h_; repeat (first | (with_reducible exact h_) | (with_reducible refine LaidS.drewN ?_ _) | (with_reducible refine LaidS.drew ?_) | exact LaidS.below h_ (xW HB))) : LaidS W := k hl
theorem below_grow {B : Nat} {w W : World} (h : Below B w W) (hB : B ≤ W.heap.size) (os : Array Obj) : Below B w (grow W os) :=
  ⟨h.os, h.tape, h.output, by have := h.size; simp [grow]; omega, fun k hk => by rw [← h.block k hk]; show (W.heap ++ os)[k]? = _; rw [Array.getElem?_append_left (by omega)]⟩
def strconv_Itoa.f (a0 : Int) : Option ByteArray := if -9223372036854775808 ≤ a0 ∧ a0 ≤ 9223372036854775807 then some ⟨(Lib.itoa a0).toArray⟩ else none
theorem strconv_Itoa.calls (a0 : Int) (r : ByteArray) (w : World) (h : strconv_Itoa.f a0 = some r) (hlaid : LaidS w) :
    Calls Tryd.prog 18 #[.int .i64 a0] w fun e w' => e = .returned (.string r) ∧ Below w.heap.size w w' := by
  unfold strconv_Itoa.f at h
  by_cases hb : -9223372036854775808 ≤ a0 ∧ a0 ≤ 9223372036854775807
  · rw [if_pos hb] at h
    obtain rfl := Option.some.inj h
    refine (Tryd.strconv_Itoa a0 hb.1 hb.2 w hlaid.tab).mono ?_
    rintro e w' ⟨rfl, k, os, rfl⟩
    exact ⟨rfl, below_grow (pw_below_drewN (Below.refl _ _) k) (Nat.le_refl _) os⟩
  · rw [if_neg hb] at h; cases h
def strings_Join.f (l0 : List ByteArray) (a1 : ByteArray) : Option ByteArray := if l0.length ≤ 140737488355328 ∧ (Lib.join (l0.map (·.data.toList)) a1.data.toList).length ≤ 140737488355328 then some ⟨(Lib.join (l0.map (·.data.toList)) a1.data.toList).toArray⟩ else none
theorem strings_Join.calls (A0 : Option Addr) (c0 : Nat) (l0 : List ByteArray) (a1 : ByteArray) (r : ByteArray) (w : World) (hr0 : Kd.string.C w A0 l0.length l0) (hc0 : l0.length ≤ c0) (h : strings_Join.f l0 a1 = some r) :
    Calls Tryd.prog 15 #[.slice A0 l0.length c0, .string a1] w fun e w' => e = .returned (.string r) ∧ Below w.heap.size w w' := by
  unfold strings_Join.f at h
  by_cases hb : l0.length ≤ 140737488355328 ∧ (Lib.join (l0.map (·.data.toList)) a1.data.toList).length ≤ 140737488355328
  · rw [if_pos hb] at h
    obtain rfl := Option.some.inj h
    by_cases h0 : l0 = []
    · subst h0
      refine (Tryd.strings_Join_none A0 c0 a1 w).mono ?_
      rintro e w' ⟨rfl, rfl⟩
      exact ⟨rfl, Below.refl _ _⟩
    · have hp : 0 < l0.length := List.length_pos_iff.2 h0
      have at0 := Kd.at_string hr0 0 (by decide) (by omega)
      obtain ⟨ad, e0, hc⟩ := at0
      have hall : ∀ (j : Nat) x, l0[j]? = some x → w.cell? (ad.add j) = some (.string x) := by
        intro j x hx
        have hj : j < l0.length := (List.getElem?_eq_some_iff.1 hx).1
        obtain ⟨ad', e', hc'⟩ := Kd.at_string hr0 (j : Int) (by omega) (by omega)
        obtain rfl : ad = ad' := Option.some.inj (e0.symm.trans e')
        have hv : rdOf ByteArray.empty l0 (j : Int) = x := by simp [rdOf, List.getD_eq_getElem?_getD, hx]
        rw [hv] at hc'
        simpa using hc'
      have hs : ad.spot = none := by
        have hc0 : w.cell? ad = some (.string (rdOf ByteArray.empty l0 0)) := by simpa [Addr.add] using hc
        unfold World.cell? at hc0
        split at hc0
        · split at hc0
          · cases hc0
          · rename_i hq; simpa using hq
        · cases hc0
      obtain ⟨bk, o, sp⟩ := ad
      obtain rfl : sp = none := hs
      subst e0
      refine Tryd.strings_Join bk o c0 l0 a1 w (fun j x hx => ?_) ?_ hb.1 hc0 hb.2
      · have := hall j x hx
        unfold Addr.add at this
        split at this
        · rename_i hj; subst hj; simpa using this
        · exact this
      · have := World.block_lt_of_cell? w _ hc
        unfold Addr.add at this
        split at this <;> exact this
  · rw [if_neg hb] at h; cases h
end Go.Proofs.YtloadbbndnmdlaaDoorW.PrintWords
