-- Printed by a program of this claim's writer (wip/ext): an extension of the kit's print.
import Derived.Test.YtkkgpabjpnkjjaaDoorRows
import Derived.Test.YtkkgpabjpnkjjaaDoorCards
import Derived.Test.YtkkgpabjpnkjjaaDoorTie
import Derived.Test.YtkkgpabjpnkjjaaDoorLaidText
import Derived.SevenTiedAt
import Derived.Handed
import Derived.LaidLaws
import Derived.Test.YtkkgpabjpnkjjaaDoorPRuletextPrintsx8
import Derived.Test.YtkkgpabjpnkjjaaDoorPureRuletextPrints
import Derived.WalkKit
import Derived.ProofKit
import Derived.OpenShut
import Derived.ShutString
import Derived.ChangeOld
import Derived.Below
import Derived.SizedLaws
namespace Go.Proofs.YtkkgpabjpnkjjaaDoor.ruletextPrints
open Go.ChangeShapes Go.WideShapes Go.ChangeAt Go.RowKit
open Go.ChangeMaps (open_string shut_string)
open Go.Proofs.YtkkgpabjpnkjjaaDoorW.PrintWords Go.Proofs.YtkkgpabjpnkjjaaDoor.PRuletextPrints
set_option linter.unusedVariables false
set_option linter.unusedSimpArgs false
theorem own : ownKnob Tryd.prog.godebug = none := by kernel_rfl
theorem laidOut : laidOutB Tryd.prog = true := by kernel_rfl
set_option maxRecDepth 100000 in
theorem lifted (os : Os) (started : os.Started) (H : Type) (enc : TypeId × Value → H) :
    ReturnsInHanded {} Tryd.checked os 3 .any (fun w args => (Rows.ruletextPrintsSpec.pre enc Tryd.prog Tryd.f3 Rows.ruletextPrintsRow.domain false w args ∧ laidMet Tryd.prog Rows.ruletextPrintsRow.laid w) ∧ sizedMet enc Tryd.prog Tryd.f3 (OpenSpec.ofChange Rows.ruletextPrintsSpec) false w args) (Rows.ruletextPrintsSpec.post enc Tryd.prog Tryd.f3 false true false false) := by
  refine returnsInHanded_of_change_and (C := Tryd.checked) (X := fun w _ => laidMet Tryd.prog Rows.ruletextPrintsRow.laid w) (fun _ _ _ hh h => h.of_heap hh) own started (by kernel_rfl) Tryd.func3
    (ChangeSpec.witness_shaped (enc := enc) (C := Tryd.checked) (os := os) (X := fun w _ => laidMet Tryd.prog Rows.ruletextPrintsRow.laid w) false (laidWorld os) #[(.agg #[(.string ByteArray.empty), (.int .i64 0), (.int .i64 0), (.slice none 0 0), (.slice none 0 0), (.bool false), (.bool false), (.slice none 0 0), (.int .i64 0), (.int .i64 0), (.int .i64 0)])] 20 (World.laidAll_os _ _ _) (World.shaped_of_ZipB (by kernel_rfl) (by kernel_rfl)) (by kernel_rfl) (by kernel_rfl) (by kernel_rfl) (laid_met os _)) ?_
  intro W base args ds gs before hval0 hW hcnd hsz0 hL _
  have hsz : (DataW.weightsEach Tryd.prog (Tryd.f3.params.toList ++ Rows.ruletextPrintsSpec.plain.varTypes Tryd.prog) (ds ++ gs)).all (· ≤ reachBytes) = true := hsz0
  have hval : ∀ (j : Nat) t v, Tryd.f3.params[j]? = some t → args[j]? = some v → Value.okWide Tryd.prog W .any base t v := hval0
  have hW' := hW
  obtain ⟨p, q, hA0, hV, rfl, hfz, hnd⟩ := hW
  have hA : DataW.TrodAll enc Tryd.prog W 0 (fun _ => true) true Tryd.f3.params.toList args.toList ds p := hA0
  rw [Tryd.params3] at hA hval hsz
  obtain ⟨v0, vs0, d0, ds0, p0, q0, hargs, rfl, rfl, h0, r0⟩ := trodAll_cons hA
  obtain ⟨rfl, rfl, rfl⟩ := trodAll_nil r0
  obtain rfl : args = #[v0] := by cases args; simp_all
  obtain ⟨rfl, rfl⟩ := trodVars_none hV
  have k0 := h0
  have lt0 : ∀ x ∈ p0, x.block < W.heap.size := by obtain ⟨m, hm⟩ := k0; exact DataW.trod_lt m _ _ _ hm
  obtain ⟨u0, rfl, _⟩ := okWide_struct Tryd.underlying26 (hval 0 26 v0 rfl rfl)
  obtain ⟨x0, hK0, w0⟩ : ∃ a_ : S26, k26.K W a_ u0.toList ∧ wf26 a_ := by obtain ⟨m_, hf_⟩ := h0; exact tells26 (x := (d0, p0)) hf_ (sized_one hsz (j := 0) rfl rfl)
  clear hA0 hval0 hsz0 hsz
  refine (PRuletextPrints.gamehalllaw1_RuletextPrints.walk Pure.RuletextPrints x0 u0 W hK0 w0 (laidS_of hL)).mono fun e W' ⟨he, bel⟩ => ?_
  subst he
  exact ⟨_, rfl, _, _, _, [], _, [], hW', trodAll_mk1 (shut_bool Tryd.underlying4 _), (trodAll_cons_mk (Below.trod laidOut (by kernel_rfl) (of_decide_eq_true (by kernel_rfl)) k0 bel lt0) trodAll_mk0), rfl, bel.frame _, fun h => by cases h⟩
theorem over : Rows.ruletextPrintsRow.holds Tryd.pinned (OpenSpec.ofChange Rows.ruletextPrintsSpec) :=
  OpenClaim.holds_of_wide 3 Tryd.f3 rfl rfl rfl rfl rfl rfl rfl ⟨rfl, rfl, rfl, rfl, rfl⟩ rfl rfl rfl rfl rfl (by kernel_rfl) Tryd.func3 (by kernel_rfl)
    (of_decide_eq_true (by kernel_rfl)) (by unfold Func.isWrapper; first | (rw [if_pos (by decide +kernel)]; kernel_rfl) | (rw [if_neg (by decide +kernel)]; exact ⟨rfl, rfl⟩))
    (fun os started H enc _ => lifted os started H enc)
theorem proved : Rows.RuletextPrintsSaid := over
#print axioms proved
end Go.Proofs.YtkkgpabjpnkjjaaDoor.ruletextPrints
namespace Go.Proofs.YtkkgpabjpnkjjaaDoor
/-- The row, under a short name, for the claim. -/
theorem ruletextPrints_holds : Rows.RuletextPrintsSaid := ruletextPrints.proved
/-- THE CARD: the row, its listed variable tied to the program's text. -/
theorem ruletextPrintsCard_holds : Rows.RuletextPrintsCardSaid :=
  Claim7.holds_tied_plain_at .later [] [.data, .data, .data, .widerDeep, .widerDeep] true (true, "4bbe4bcbfbc511fd0de99fdf5df62d3dc7ada746ae00e126866729d4cb412dbe") false ruletextPrints_holds (fun _ h => by cases h) (by kernel_rfl) (fun _ h => by cases h)
    ruletextPrints_row_tie rfl ⟨rfl, rfl⟩ (by kernel_rfl) rfl
    (fun f fn h1 h2 => by
      obtain rfl : f = 3 := Option.some.inj (h1.symm.trans (by kernel_rfl))
      obtain rfl : fn = Tryd.f3 := Option.some.inj (h2.symm.trans Tryd.func3)
      refine ⟨by kernel_rfl, fun j t hj => ?_⟩
      rw [Tryd.params3] at hj
      match j, hj with
      | 0, hj =>
        obtain rfl : t = 26 := by simpa using hj.symm
        exact (by kernel_rfl : Tryd.pinned.checked.prog.wantsStandIn 26 = false)
      | j + 1, hj => simp at hj)
    (by kernel_rfl)
#print axioms ruletextPrintsCard_holds
end Go.Proofs.YtkkgpabjpnkjjaaDoor
