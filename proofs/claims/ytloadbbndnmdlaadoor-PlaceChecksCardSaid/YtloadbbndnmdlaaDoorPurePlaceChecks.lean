/- PlaceChecks: place.Check, place.Begin and place.Text answer as the reference does, for all rules and positions. -/
import Derived.Test.YtloadbbndnmdlaaDoorPlBegin
import Derived.Test.YtloadbbndnmdlaaDoorPPlaceChecksx11
namespace Go.Proofs.YtloadbbndnmdlaaDoor.Pure
open Go.RowKit Go.Proofs.YtloadbbndnmdlaaDoor.PPlaceChecks Go.Proofs.YtloadbbndnmdlaaDoorW.PrintWords Go.Proofs.YtloadbbndnmdlaaDoorW.PrintLast
set_option linter.unusedSimpArgs false
set_option linter.unusedVariables false
namespace Co
open Aid
theorem rules_three (r : S26) (hw : wf26 r) : ∃ e, Ev (fun k => rules_Check.f k r.f0 r.f1 r.f2 r.f3 r.f4 r.f5 r.f6 r.f7 r.f8 r.f9 r.f10) e ∧ Ev (fun k => gamehallref1_RulesError.f k r.f0 r.f1 r.f2 r.f3 r.f4 r.f5 r.f6 r.f7 r.f8 r.f9 r.f10) e ∧ (e = 0 → VR r ∧ LR r) := by
  obtain ⟨b, h1, h2⟩ := Rc.name_ev r.f0 (by have := hw.1; simpa using this)
  refine ⟨_, Rc.check_f r hw b h1, Rc.check_ref r hw b h2, fun h => ?_⟩
  cases b
  · simp at h
  · exact ⟨vr_of r (by simpa using h), lr_of r (by simpa using h)⟩
def tic : S26 := ⟨⟨#[84, 73, 67]⟩, 3, 3, [⟨65, 5, 0, []⟩], List.replicate 9 0, false, false, [⟨0, 0, 3, false⟩], 2, 0, 0⟩
def beg : S29 := ⟨List.replicate 9 0, ⟨[5], [5]⟩, 0, 0⟩
theorem tic_v : VR tic := ⟨by decide, by decide, by decide, by decide +kernel, by decide +kernel, by decide +kernel, by decide⟩
theorem tic_l : LR tic := by
  constructor
  · intro t h0 h1
    obtain rfl : t = 0 := by have : (tic.f3.length : Int) = 1 := rfl; omega
    decide
  · intro s t h0 h1 h2
    have : (tic.f3.length : Int) = 1 := rfl
    omega
theorem beg_v : VP tic beg := ⟨by decide, by decide +kernel, by decide, by decide, by decide, by decide, by decide, by decide⟩
set_option maxRecDepth 100000 in
theorem tic_c : Ev (fun k => rules_Check.f k tic.f0 tic.f1 tic.f2 tic.f3 tic.f4 tic.f5 tic.f6 tic.f7 tic.f8 tic.f9 tic.f10) 0 :=
  Ev.of (fun k => rules_Check.mono _ _ _ _ _ _ _ _ _ _ _ k) (k := 100) (by decide +kernel)
set_option maxRecDepth 100000 in
theorem beg_c : Ev (fun k => place_Check.f k tic.f0 tic.f1 tic.f2 tic.f3 tic.f4 tic.f5 tic.f6 tic.f7 tic.f8 tic.f9 tic.f10 beg.f0 beg.f1.f0 beg.f1.f1 beg.f2 beg.f3) 0 :=
  Ev.of (fun k => place_Check.mono _ _ _ _ _ _ _ _ _ _ _ _ _ _ _ _ k) (k := 100) (by decide +kernel)
set_option maxRecDepth 100000 in
theorem nil_c : Ev (fun k => place_Check.f k tic.f0 tic.f1 tic.f2 tic.f3 tic.f4 tic.f5 tic.f6 tic.f7 tic.f8 tic.f9 tic.f10 ([] : List Int) ([] : List Int) ([] : List Int) 0 0) 3 :=
  Ev.of (fun k => place_Check.mono _ _ _ _ _ _ _ _ _ _ _ _ _ _ _ _ k) (k := 100) (by decide +kernel)
theorem beg_t : (B (placeT tic beg)).toList = [51, 47, 51, 47, 51, 32, 65, 53, 32, 65, 53, 32, 49, 32, 48] := by
  rw [ByteArray.toList_eq, B_l]; decide +kernel
theorem nil_b : (⟨#[]⟩ : ByteArray).toList = [] := by rw [ByteArray.toList_eq]
theorem j2_f (r : S26) (e : Int) (h1 : Ev (fun k => rules_Check.f k r.f0 r.f1 r.f2 r.f3 r.f4 r.f5 r.f6 r.f7 r.f8 r.f9 r.f10) e) (h2 : Ev (fun k => gamehallref1_RulesError.f k r.f0 r.f1 r.f2 r.f3 r.f4 r.f5 r.f6 r.f7 r.f8 r.f9 r.f10) e) (hv : e = 0 → VR r) : Ev (fun k => gamehalllaw1_PlaceChecks.j2 k false r.f0 r.f1 r.f2 r.f3 r.f4 r.f5 r.f6 r.f7 r.f8 r.f9 r.f10) true := by
  refine Ev.step (fun k => by rw [gamehalllaw1_PlaceChecks.j2]) ?_
  refine ite (fun h => absurd h (by decide)) (fun _ => ?_)
  by_cases h0 : e = 0
  · subst h0
    have vr := hv rfl
    have ha := area vr
    have hs := vr.st.1
    have ht := vr.t
    refine Ev.bind (begin_f r vr h1) ?_
    refine Ev.bind h2 ?_
    refine ite (fun _ => ?_) (fun h => absurd rfl h)
    refine ite (fun _ => ?_) (fun h => absurd rfl h)
    refine Ev.bind (rb_f r vr) ?_
    have hd : (HD r).length ≤ 100000 := by unfold HD; rw [List.length_map]; omega
    exact Ev.bind (place_refl r.f4 (HD r) (HD r) 0 0 (by omega) hd hd) (now rfl)
  · refine Ev.bind (begin_no r e h0 h1) ?_
    refine Ev.bind h2 ?_
    refine ite (fun h => absurd h h0) (fun _ => ?_)
    exact ite (fun _ => now rfl) (fun h => absurd rfl h)
theorem law_f (r : S26) (p : S29) (hr : wf26 r) (hp : wf29 p) : Ev (fun k => gamehalllaw1_PlaceChecks.f k r.f0 r.f1 r.f2 r.f3 r.f4 r.f5 r.f6 r.f7 r.f8 r.f9 r.f10 p.f0 p.f1.f0 p.f1.f1 p.f2 p.f3) true := by
  obtain ⟨er, r1, r2, r3⟩ := rules_three r hr
  have c1 := check_pl r p hp er r1 (fun h => (r3 h).1)
  have c2 := ref_pl r p hp er r2 (fun h => (r3 h).1)
  have hv : (if er = 0 then placeE r p else er) = 0 → VR r ∧ LR r ∧ VP r p := by
    intro h
    by_cases h0 : er = 0
    · rw [if_pos h0] at h; exact ⟨(r3 h0).1, (r3 h0).2, vp_of r p h⟩
    · rw [if_neg h0] at h; exact absurd h h0
  have j2 := j2_f r er r1 r2 (fun h => (r3 h).1)
  generalize (if er = 0 then placeE r p else er) = e at c1 c2 hv
  clear r1 r2 r3
  unfold gamehalllaw1_PlaceChecks.f
  have T : gamehalllaw1_three.f = some (tic.f0, tic.f1, tic.f2, tic.f3, tic.f4, tic.f5, tic.f6, tic.f7, tic.f8, tic.f9, tic.f10) := rfl
  refine bind_now T ?_
  refine Ev.bind (begin_f tic tic_v tic_c) ?_
  refine bind_now T ?_
  refine Ev.bind (text_f tic beg tic_v tic_l beg_v beg_c) ?_
  refine ite (fun _ => ?_) (fun h => absurd rfl h)
  refine ite (fun _ => ?_) (fun h => absurd rfl h)
  refine ite (fun _ => ?_) (fun h => absurd beg_t h)
  refine bind_now T ?_
  refine Ev.bind nil_c ?_
  refine Ev.step (fun k => by rw [gamehalllaw1_PlaceChecks.j0]) ?_
  refine ite (fun h => absurd h (by decide)) (fun _ => ?_)
  refine Ev.bind c2 ?_
  by_cases h0 : e = 0
  · subst h0
    obtain ⟨vr, lr, vp⟩ := hv rfl
    refine Ev.bind (text_f r p vr lr vp c1) ?_
    refine Ev.bind c1 ?_
    refine ite (fun _ => ?_) (fun h => absurd rfl h)
    refine Ev.step (fun k => by rw [gamehalllaw1_PlaceChecks.j1]) ?_
    refine ite (fun h => absurd h (by simp)) (fun _ => ?_)
    refine ite (fun _ => ?_) (fun h => absurd rfl h)
    refine Ev.bind (ref_text r p vr lr vp) ?_
    exact ite (fun _ => j2) (fun h => absurd rfl h)
  · refine Ev.bind (text_no r p e h0 c1) ?_
    refine Ev.bind c1 ?_
    refine ite (fun _ => ?_) (fun h => absurd rfl h)
    refine Ev.step (fun k => by rw [gamehalllaw1_PlaceChecks.j1]) ?_
    refine ite (fun h => absurd h (by simp)) (fun _ => ?_)
    refine ite (fun h => absurd h h0) (fun _ => ?_)
    rw [nil_b]
    exact j2
end Co
theorem PlaceChecks : gamehalllaw1_PlaceChecks.Pure := by
  intro x0 x1 h0 h1
  obtain ⟨K, e⟩ := Co.law_f x0 x1 h0 h1
  exact ⟨K, e K (Nat.le_refl K)⟩
end Go.Proofs.YtloadbbndnmdlaaDoor.Pure
