-- Printed by a program of this claim's writer (wip/ext): an extension of the kit's print.
import Derived.Test.YtcncilipmekfhaaDoorRows
import Derived.Test.YtcncilipmekfhaaDoorCards
import Derived.Test.YtcncilipmekfhaaDoorTie
import Derived.Test.YtcncilipmekfhaaDoorLaidBits
import Derived.SevenTiedAt
import Derived.Handed
import Derived.LaidLaws
import Derived.Test.YtcncilipmekfhaaDoorPBitsSetsx2
import Derived.Test.YtcncilipmekfhaaDoorPureBitsSets
import Derived.WalkKit
import Derived.ProofKit
import Derived.OpenShut
import Derived.ShutString
import Derived.ChangeOld
import Derived.Below
import Derived.SizedLaws
namespace Go.Proofs.YtcncilipmekfhaaDoor.bitsSets
open Go.ChangeShapes Go.WideShapes Go.ChangeAt Go.RowKit
open Go.ChangeMaps (open_string shut_string)
open Go.Proofs.YtcncilipmekfhaaDoorW.PrintWords Go.Proofs.YtcncilipmekfhaaDoor.PBitsSets
set_option linter.unusedVariables false
set_option linter.unusedSimpArgs false
theorem own : ownKnob Tryd.prog.godebug = none := by kernel_rfl
theorem laidOut : laidOutB Tryd.prog = true := by kernel_rfl
set_option maxRecDepth 100000 in
theorem lifted (os : Os) (started : os.Started) (H : Type) (enc : TypeId × Value → H) :
    ReturnsInHanded {} Tryd.checked os 3 .any (fun w args => (Rows.bitsSetsSpec.pre enc Tryd.prog Tryd.f3 Rows.bitsSetsRow.domain false w args ∧ laidMet Tryd.prog Rows.bitsSetsRow.laid w) ∧ sizedMet enc Tryd.prog Tryd.f3 (OpenSpec.ofChange Rows.bitsSetsSpec) false w args) (Rows.bitsSetsSpec.post enc Tryd.prog Tryd.f3 false true false false) := by
  refine returnsInHanded_of_change_and (C := Tryd.checked) (X := fun w _ => laidMet Tryd.prog Rows.bitsSetsRow.laid w) (fun _ _ _ hh h => h.of_heap hh) own started (by kernel_rfl) Tryd.func3
    (ChangeSpec.witness_at (enc := enc) (C := Tryd.checked) (os := os) (X := fun w _ => laidMet Tryd.prog Rows.bitsSetsRow.laid w) false (laidWorld os) #[.slice none 0 0, .int .u64 0] 20 rfl (by kernel_rfl) (by kernel_rfl) (by kernel_rfl) (by kernel_rfl) (by kernel_rfl) (laid_met os _)) ?_
  intro W base args ds gs before hval0 hW hcnd hsz0 hL _
  have hsz : (DataW.weightsEach Tryd.prog (Tryd.f3.params.toList ++ Rows.bitsSetsSpec.plain.varTypes Tryd.prog) (ds ++ gs)).all (· ≤ reachBytes) = true := hsz0
  have hval : ∀ (j : Nat) t v, Tryd.f3.params[j]? = some t → args[j]? = some v → Value.okWide Tryd.prog W .any base t v := hval0
  have hW' := hW
  obtain ⟨p, q, hA0, hV, rfl, hfz, hnd⟩ := hW
  have hA : DataW.TrodAll enc Tryd.prog W 0 (fun _ => true) true Tryd.f3.params.toList args.toList ds p := hA0
  rw [Tryd.params3] at hA hval hsz
  obtain ⟨v0, vs0, d0, ds0, p0, q0, hargs, rfl, rfl, h0, r0⟩ := trodAll_cons hA
  obtain ⟨v1, vs1, d1, ds1, p1, q1, rfl, rfl, rfl, h1, r1⟩ := trodAll_cons r0
  obtain ⟨rfl, rfl, rfl⟩ := trodAll_nil r1
  obtain rfl : args = #[v0, v1] := by cases args; simp_all
  obtain ⟨rfl, rfl⟩ := trodVars_none hV
  have k0 := h0
  have lt0 : ∀ x ∈ p0, x.block < W.heap.size := by obtain ⟨m, hm⟩ := k0; exact DataW.trod_lt m _ _ _ hm
  obtain ⟨a0, n0, c0, rfl⟩ := okWide_slice Tryd.underlying22 (hval 0 22 v0 rfl rfl)
  obtain ⟨l0, hK0, w0⟩ : ∃ l_ : List Int, (Kd.slice 3 (Kd.int .i64)).K W l_ [.slice a0 n0 c0] ∧ (l_.length * 8 ≤ 140737488351232 ∧ ∀ y_ ∈ l_, (Lit.int .i64 y_).wf = true) := by obtain ⟨m_, hf_⟩ := h0; exact Tells.use (tells_slice (W := W) Tryd.underlying22 (tells_int Tryd.underlying3) (by kernel_rfl) (by kernel_rfl)) (d0, p0) hf_ (sized_one hsz (j := 0) rfl rfl)
  obtain ⟨A0, C0, hE0, hc0, hr0⟩ := hK0
  injection hE0 with hE0 _
  injection hE0 with hE0a hE0b hE0c
  subst hE0a
  subst hE0b
  subst hE0c
  obtain ⟨a1, rfl, rfl, rfl, w1⟩ := open_int Tryd.underlying23 (hval 1 23 v1 rfl rfl) h1
  clear hA0 hval0 hsz0 hsz
  refine (PBitsSets.gamehalllaw1_BitsSets.walk Pure.BitsSets l0 _ _ a1 W hr0 hc0 w0 w1 (laidS_of hL)).mono fun e W' ⟨he, bel⟩ => ?_
  subst he
  exact ⟨_, rfl, _, _, _, [], _, [], hW', trodAll_mk1 (shut_bool Tryd.underlying4 _), (trodAll_cons_mk (Below.trod laidOut (by kernel_rfl) (of_decide_eq_true (by kernel_rfl)) k0 bel lt0) (trodAll_cons_mk (shut_int Tryd.underlying23 w1) trodAll_mk0)), rfl, bel.frame _, fun h => by cases h⟩
theorem over : Rows.bitsSetsRow.holds Tryd.pinned (OpenSpec.ofChange Rows.bitsSetsSpec) :=
  OpenClaim.holds_of_wide 3 Tryd.f3 rfl rfl rfl rfl rfl rfl rfl ⟨rfl, rfl, rfl, rfl, rfl⟩ rfl rfl rfl rfl rfl (by kernel_rfl) Tryd.func3 (by kernel_rfl)
    (of_decide_eq_true (by kernel_rfl)) (by unfold Func.isWrapper; first | (rw [if_pos (by decide +kernel)]; kernel_rfl) | (rw [if_neg (by decide +kernel)]; exact ⟨rfl, rfl⟩))
    (fun os started H enc _ => lifted os started H enc)
theorem proved : Rows.BitsSetsSaid := over
#print axioms proved
end Go.Proofs.YtcncilipmekfhaaDoor.bitsSets
namespace Go.Proofs.YtcncilipmekfhaaDoor
/-- The row, under a short name, for the claim. -/
theorem bitsSets_holds : Rows.BitsSetsSaid := bitsSets.proved
/-- THE CARD: the row, its listed variable tied to the program's text. -/
theorem bitsSetsCard_holds : Rows.BitsSetsCardSaid :=
  Claim7.holds_tied_plain_at .later [] [.data] true (true, "cc684df129470e4db825e3f57ddeab9f5799ebc28a5ed7d11f02c3c544a76b9b") false bitsSets_holds (fun _ h => by cases h) (by kernel_rfl) (fun _ h => by cases h)
    bitsSets_row_tie rfl ⟨rfl, rfl⟩ (by kernel_rfl) rfl
    (fun f fn h1 h2 => by
      obtain rfl : f = 3 := Option.some.inj (h1.symm.trans (by kernel_rfl))
      obtain rfl : fn = Tryd.f3 := Option.some.inj (h2.symm.trans Tryd.func3)
      refine ⟨by kernel_rfl, fun j t hj => ?_⟩
      rw [Tryd.params3] at hj
      match j, hj with
      | 0, hj =>
        obtain rfl : t = 22 := by simpa using hj.symm
        exact (by kernel_rfl : Tryd.pinned.checked.prog.wantsStandIn 22 = false)
      | 1, hj =>
        obtain rfl : t = 23 := by simpa using hj.symm
        exact (by kernel_rfl : Tryd.pinned.checked.prog.wantsStandIn 23 = false)
      | j + 2, hj => simp at hj)
    (by kernel_rfl)
#print axioms bitsSetsCard_holds
end Go.Proofs.YtcncilipmekfhaaDoor
