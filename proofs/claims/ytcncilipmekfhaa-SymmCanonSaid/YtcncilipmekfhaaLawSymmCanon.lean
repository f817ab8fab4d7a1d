-- Printed by a program of this claim's writer (wip/ext): an extension of the kit's print.
import Derived.Test.YtcncilipmekfhaaRows
import Derived.Test.YtcncilipmekfhaaPSymmCanonx3
import Derived.Test.YtcncilipmekfhaaPureSymmCanon
import Derived.WalkKit
import Derived.ProofKit
import Derived.OpenShut
import Derived.ShutString
import Derived.ChangeOld
import Derived.Below
import Derived.SizedLaws
namespace Go.Proofs.Ytcncilipmekfhaa.symmCanon
open Go.ChangeShapes Go.WideShapes Go.ChangeAt Go.RowKit
open Go.ChangeMaps (open_string shut_string)
open Go.Proofs.YtcncilipmekfhaaW.PrintWords Go.Proofs.Ytcncilipmekfhaa.PSymmCanon
set_option linter.unusedVariables false
set_option linter.unusedSimpArgs false
theorem own : ownKnob Try.prog.godebug = none := by kernel_rfl
theorem laidOut : laidOutB Try.prog = true := by kernel_rfl
set_option maxRecDepth 100000 in
theorem lifted (os : Os) (started : os.Started) (H : Type) (enc : TypeId × Value → H) :
    ReturnsInHanded {} Try.checked os 10 .any (Rows.symmCanonSpec.pre6 enc Try.prog Try.f10 Rows.symmCanonRow.domain false) (Rows.symmCanonSpec.post enc Try.prog Try.f10 false true false false) := by
  refine returnsInHanded_of_change_sized (C := Try.checked) own started (by kernel_rfl) Try.func10
    (ChangeSpec.witness6 (enc := enc) (C := Try.checked) false ⟨#[], #[.int .i64 0, .int .i64 0, .slice none 0 0], []⟩ 20 (by kernel_rfl) (by kernel_rfl) (by kernel_rfl) (by kernel_rfl)) ?_
  intro W base args ds gs before hval0 hW hcnd hsz0 _
  have hsz : (DataW.weightsEach Try.prog (Try.f10.params.toList ++ Rows.symmCanonSpec.plain.varTypes Try.prog) (ds ++ gs)).all (· ≤ reachBytes) = true := hsz0
  have hval : ∀ (j : Nat) t v, Try.f10.params[j]? = some t → args[j]? = some v → Value.okWide Try.prog W .any base t v := hval0
  have hW' := hW
  obtain ⟨p, q, hA0, hV, rfl, hfz, hnd⟩ := hW
  have hA : DataW.TrodAll enc Try.prog W 0 (fun _ => true) true Try.f10.params.toList args.toList ds p := hA0
  rw [Try.params10] at hA hval hsz
  obtain ⟨v0, vs0, d0, ds0, p0, q0, hargs, rfl, rfl, h0, r0⟩ := trodAll_cons hA
  obtain ⟨v1, vs1, d1, ds1, p1, q1, rfl, rfl, rfl, h1, r1⟩ := trodAll_cons r0
  obtain ⟨v2, vs2, d2, ds2, p2, q2, rfl, rfl, rfl, h2, r2⟩ := trodAll_cons r1
  obtain ⟨rfl, rfl, rfl⟩ := trodAll_nil r2
  obtain rfl : args = #[v0, v1, v2] := by cases args; simp_all
  obtain ⟨rfl, rfl⟩ := trodVars_none hV
  obtain ⟨a0, rfl, rfl, rfl, w0⟩ := open_int Try.underlying3 (hval 0 3 v0 rfl rfl) h0
  obtain ⟨a1, rfl, rfl, rfl, w1⟩ := open_int Try.underlying3 (hval 1 3 v1 rfl rfl) h1
  have k2 := h2
  have lt2 : ∀ x ∈ p2, x.block < W.heap.size := by obtain ⟨m, hm⟩ := k2; exact DataW.trod_lt m _ _ _ hm
  obtain ⟨a2, n2, c2, rfl⟩ := okWide_slice Try.underlying24 (hval 2 24 v2 rfl rfl)
  obtain ⟨l2, hK2, w2⟩ : ∃ l_ : List Int, (Kd.slice 3 (Kd.int .i64)).K W l_ [.slice a2 n2 c2] ∧ (l_.length * 8 ≤ 140737488351232 ∧ ∀ y_ ∈ l_, (Lit.int .i64 y_).wf = true) := by obtain ⟨m_, hf_⟩ := h2; exact Tells.use (tells_slice (W := W) Try.underlying24 (tells_int Try.underlying3) (by kernel_rfl) (by kernel_rfl)) (d2, p2) hf_ (sized_one hsz (j := 2) rfl rfl)
  obtain ⟨A2, C2, hE2, hc2, hr2⟩ := hK2
  injection hE2 with hE2 _
  injection hE2 with hE2a hE2b hE2c
  subst hE2a
  subst hE2b
  subst hE2c
  clear hA0 hval0 hsz0 hsz
  refine (PSymmCanon.gamehalllaw1_SymmCanon.walk Pure.SymmCanon a0 a1 l2 _ _ W w0 w1 hr2 hc2 w2).mono fun e W' ⟨he, bel⟩ => ?_
  subst he
  exact ⟨_, rfl, _, _, _, [], _, [], hW', trodAll_mk1 (shut_bool Try.underlying4 _), (trodAll_cons_mk (shut_int Try.underlying3 w0) (trodAll_cons_mk (shut_int Try.underlying3 w1) (trodAll_cons_mk (Below.trod laidOut (by kernel_rfl) (of_decide_eq_true (by kernel_rfl)) k2 bel lt2) trodAll_mk0))), rfl, bel.frame _, fun h => by cases h⟩
theorem over : Rows.symmCanonRow.holds Try.pinned (OpenSpec.ofChange Rows.symmCanonSpec) :=
  OpenClaim.holds_of_wide 10 Try.f10 rfl rfl rfl rfl rfl rfl rfl ⟨rfl, rfl, rfl, rfl, rfl⟩ rfl rfl rfl rfl rfl (by kernel_rfl) Try.func10 (by kernel_rfl)
    (of_decide_eq_true (by kernel_rfl)) (by unfold Func.isWrapper; first | (rw [if_pos (by decide +kernel)]; kernel_rfl) | (rw [if_neg (by decide +kernel)]; exact ⟨rfl, rfl⟩))
    (fun os started H enc _ => lifted os started H enc)
theorem proved : Rows.SymmCanonSaid := over
#print axioms proved
end Go.Proofs.Ytcncilipmekfhaa.symmCanon
namespace Go.Proofs.Ytcncilipmekfhaa
/-- The row, under a short name, for the claim. -/
theorem symmCanon_holds : Rows.SymmCanonSaid := symmCanon.proved
end Go.Proofs.Ytcncilipmekfhaa
