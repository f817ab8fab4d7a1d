/- Words of our own beside the print's: whatever reads as data of a type is told by the print's kind of that type. For the rows of laws over structs, arrays and slices of them. -/
import Derived.Test.YtemfkhafkhkffaaWMore
import Derived.OpenShut
import Derived.SizedLaws
import Derived.ChangeArms
namespace Go.Proofs.YtemfkhafkhkffaaW.PrintWords
open Go.RowKit
/-- Whatever reads as data of type t, with no string or slice beyond the reach, is told by k. -/
def Tells {α : Type} (P : Program) (W : World) (t : TypeId) (k : Kd α) (wf : α → Prop) : Prop :=
  ∀ {H : Type} {enc : TypeId × Value → H} {base : Nat} {spare : Nat → Bool} {held : Bool} {fuel : Nat} {cs : List Value} {x : DataW H × List MemPlace},
    DataW.trod enc P W base spare held fuel t cs = some x → (x.1.weights P t).all (· ≤ reachBytes) = true → ∃ a : α, k.K W a cs ∧ wf a
/-- The same of the parts of a struct or an array, from the place o on. -/
def TellsFs {α : Type} (P : Program) (W : World) (o : Nat) (fs : List (TypeId × Nat)) (k : Kd α) (wf : α → Prop) : Prop :=
  ∀ {H : Type} {enc : TypeId × Value → H} {base : Nat} {spare : Nat → Bool} {held : Bool} {fuel : Nat} {cs : List Value} {xs : List (DataW H × List MemPlace)},
    xs.length = fs.length → (∀ (i : Nat) (t : TypeId) (q : Nat), fs[i]? = some (t, q) → DataW.trod enc P W base spare held fuel t ((cs.drop q).take (P.cellsOf t)) = xs[i]?) →
    (DataW.weightsEach P (fs.map (·.1)) (xs.map (·.1))).all (· ≤ reachBytes) = true → ∃ a : α, k.K W a ((cs.drop o).take k.sz) ∧ wf a
section
variable {α β : Type} {P : Program} {W : World} {t e : TypeId}
theorem tells_int {k : IntKind} (hu : P.underlying t = some (.int k)) : Tells P W t (Kd.int k) (fun n => (Lit.int k n).wf = true) := by
  intro H enc base spare held fuel cs x h _
  obtain ⟨n, rfl, rfl, hw⟩ := DataW.trod_int hu h
  exact ⟨n, rfl, hw⟩
theorem tells_bool (hu : P.underlying t = some .bool) : Tells P W t Kd.bool (fun _ => True) := by
  intro H enc base spare held fuel cs x h _
  obtain ⟨b, rfl, rfl⟩ := DataW.trod_bool hu h
  exact ⟨b, rfl, trivial⟩
theorem tells_string (hu : P.underlying t = some .string) : Tells P W t Kd.string (fun s => s.size ≤ 140737488351232) := by
  intro H enc base spare held fuel cs x h hz
  obtain ⟨s, rfl, rfl, hs⟩ := DataW.trod_string hu h
  refine ⟨s, rfl, ?_⟩
  have hz' := List.all_eq_true.1 hz s.data.toList.length (by simp [DataW.weights])
  have hz2 : s.size ≤ reachBytes := by simpa using hz'
  exact hz2
theorem choose_list {Q : Nat → α → Prop} : ∀ (n : Nat), (∀ i, i < n → ∃ a, Q i a) → ∃ as : List α, as.length = n ∧ ∀ i a, as[i]? = some a → Q i a
  | 0, _ => ⟨[], rfl, fun i a h => by simp at h⟩
  | n + 1, h => by
    obtain ⟨as, hl, hq⟩ := choose_list n (fun i hi => h i (Nat.lt_succ_of_lt hi))
    obtain ⟨a, ha⟩ := h n (Nat.lt_succ_self n)
    refine ⟨as ++ [a], by simp [hl], fun i b hb => ?_⟩
    rcases Nat.lt_trichotomy i n with hi | hi | hi
    · rw [List.getElem?_append_left (by omega)] at hb; exact hq i b hb
    · subst hi
      rw [List.getElem?_append_right (by omega), hl, Nat.sub_self] at hb
      simp at hb
      subst hb; exact ha
    · rw [List.getElem?_eq_none (by simp; omega)] at hb; cases hb
theorem weightsAll_mem {H : Type} {e : TypeId} : ∀ {ds : List (DataW H)} {i : Nat} {d : DataW H}, ds[i]? = some d → ∀ n ∈ d.weights P e, n ∈ DataW.weightsAll P e ds
  | [], i, d, h => by simp at h
  | d0 :: ds, 0, d, h => by
    intro n hn
    simp at h
    subst h
    simp only [DataW.weightsAll, List.mem_append]
    exact Or.inl hn
  | d0 :: ds, i + 1, d, h => by
    intro n hn
    simp only [DataW.weightsAll, List.mem_append]
    exact Or.inr (weightsAll_mem (by simpa using h) n hn)
theorem weightsEach_replicate {H : Type} {e : TypeId} : ∀ (ds : List (DataW H)), DataW.weightsEach P (List.replicate ds.length e) ds = DataW.weightsAll P e ds
  | [] => by simp [DataW.weightsEach, DataW.weightsAll]
  | d :: ds => by
    simp only [List.length_cons, List.replicate_succ, DataW.weightsEach, DataW.weightsAll]
    rw [weightsEach_replicate ds]
theorem Tells.use {k : Kd α} {wf : α → Prop} (h : Tells P W t k wf) {H : Type} {enc : TypeId × Value → H} {base : Nat} {spare : Nat → Bool} {held : Bool} {fuel : Nat} {cs : List Value} (x : DataW H × List MemPlace)
    (h1 : DataW.trod enc P W base spare held fuel t cs = some x) (h2 : (x.1.weights P t).all (· ≤ reachBytes) = true) : ∃ a : α, k.K W a cs ∧ wf a := h h1 h2
theorem tells_slice {k : Kd α} {wf : α → Prop} {B : Nat} (hu : P.underlying t = some (.slice e)) (h : Tells P W e k wf) (hc : P.cellsOf e = k.sz) (hB : P.bytesOf e = B) :
    Tells P W t (Kd.slice e k) (fun xs => xs.length * B ≤ 140737488351232 ∧ ∀ x ∈ xs, wf x) := by
  intro H enc base spare held fuel cs x hx hz
  rcases DataW.trod_slice hu hx with ⟨rfl, rfl⟩ | ⟨a, len, cap, elems, rest, n, rfl, rfl, rfl, hb, hl, hm, hel, hel2, _, _⟩
  · exact ⟨[], ⟨none, 0, rfl, by simp, ⟨rfl, by simp, fun h0 => by simp at h0⟩⟩, by simp, by simp⟩
  · have hz' := List.all_eq_true.1 hz
    have hw : ∀ i, i < len → ∃ y : α, (∃ c, c.length = k.sz ∧ k.K W y c ∧ ∀ j u, c[j]? = some u → W.cell? (a.add (i * k.sz + j)) = some u) ∧ wf y := by
      intro i hi
      have h1 := hel2 i hi
      rw [List.getElem?_eq_getElem (by omega), Option.bind_eq_some_iff] at h1
      obtain ⟨c, hc1, hc2⟩ := h1
      obtain ⟨_, hcl, hcc⟩ := World.cells?_some hc1
      obtain ⟨y, hy, hwy⟩ := h hc2 (List.all_eq_true.2 fun m hmem => hz' m (by
        simp only [DataW.weights, hu, List.mem_cons, List.mem_append]
        exact Or.inr (Or.inl (weightsAll_mem (i := i) (by rw [List.getElem?_map, List.getElem?_eq_getElem (by omega)]; rfl) m hmem))))
      refine ⟨y, ⟨c, by rw [hcl, hc], hy, fun j u hu' => ?_⟩, hwy⟩
      have hj : j < P.cellsOf e := by rw [← hcl]; exact (List.getElem?_eq_some_iff.1 hu').1
      have := hcc j hj
      rw [hu', add_add, hc] at this
      exact this
    obtain ⟨ys, hyl, hyq⟩ := choose_list len hw
    have hml : len ≤ maxLen := Nat.le_trans hl hm
    refine ⟨ys, ⟨some a, cap, by rw [hyl], by omega, ⟨rfl, ?_, fun _ => ⟨a, rfl, fun j p hp => (hyq j p hp).1⟩⟩⟩, ?_, fun y hy => ?_⟩
    · rw [hyl]; unfold maxLen at hml; exact hml
    · have := hz' ((elems.length + rest.length) * P.bytesOf e) (by simp [DataW.weights, hu])
      simp only [decide_eq_true_eq] at this
      rw [hB] at this
      rw [hyl]
      unfold reachBytes at this
      exact Nat.le_trans (Nat.mul_le_mul_right B (by omega)) this
    · obtain ⟨j, hj⟩ := List.mem_iff_getElem?.1 hy
      exact (hyq j y hj).2
theorem tellsFs_one {k : Kd α} {wf : α → Prop} {o : Nat} (h : Tells P W t k wf) (hc : P.cellsOf t = k.sz) : TellsFs P W o [(t, o)] k wf := by
  intro H enc base spare held fuel cs xs hl hx hz
  obtain ⟨x, rfl⟩ : ∃ x, xs = [x] := by
    match xs, hl with
    | [x], _ => exact ⟨x, rfl⟩
  have h0 := hx 0 t o rfl
  rw [hc] at h0
  exact h (x := x) (by rw [h0]; rfl) (by simpa [DataW.weightsEach] using hz)
theorem tellsFs_cons {k : Kd α} {k' : Kd β} {wf : α → Prop} {wf' : β → Prop} {o : Nat} {fs : List (TypeId × Nat)} (h : Tells P W t k wf) (hc : P.cellsOf t = k.sz) (hr : TellsFs P W (o + k.sz) fs k' wf') :
    TellsFs P W o ((t, o) :: fs) (Kd.pair k k') (fun x => wf x.1 ∧ wf' x.2) := by
  intro H enc base spare held fuel cs xs hl hx hz
  obtain ⟨x, xs, rfl⟩ : ∃ x xs', xs = x :: xs' := by
    match xs, hl with
    | x :: xs', _ => exact ⟨x, xs', rfl⟩
  have h0 := hx 0 t o rfl
  rw [hc] at h0
  simp only [List.map_cons, DataW.weightsEach, List.all_append, Bool.and_eq_true] at hz
  obtain ⟨a, ha, hwa⟩ := h (x := x) (by rw [h0]; rfl) hz.1
  obtain ⟨b, hb, hwb⟩ := hr (cs := cs) (xs := xs) (by simpa using hl) (fun i t' q hq => by simpa using hx (i + 1) t' q (by simpa using hq)) hz.2
  refine ⟨(a, b), ⟨_, _, ?_, ha, hb⟩, hwa, hwb⟩
  rw [← List.drop_drop]
  exact List.take_add
theorem tells_struct {k : Kd α} {wf : α → Prop} {fs : Array Field} {l : List (TypeId × Nat)} (hu : P.underlying t = some (.struct fs)) (hl : fs.toList.map (fun f => (f.type, f.offset)) = l) (hr : TellsFs P W 0 l k wf) (hs : P.cellsOf t = k.sz) : Tells P W t k wf := by
  intro H enc base spare held fuel cs x h hz
  obtain ⟨xs, n, rfl, rfl, hcl, hxl, hx⟩ := DataW.trod_struct hu h
  subst hl
  have := hr (cs := cs) (xs := xs) (by simp [hxl]) (fun i t' q hq => by
    rw [List.getElem?_map, Option.map_eq_some_iff] at hq
    obtain ⟨f, hf, he⟩ := hq
    obtain ⟨rfl, rfl⟩ := Prod.mk.inj he
    exact hx i f (by simpa using hf)) (by
    simp only [DataW.weights, hu] at hz
    rw [List.map_map]
    exact hz)
  obtain ⟨a, ha, hwa⟩ := this
  refine ⟨a, ?_, hwa⟩
  rw [List.drop_zero, List.take_of_length_le (by omega)] at ha
  exact ha
theorem tells_array {k : Kd α} {wf : α → Prop} {n c : Nat} {l : List (TypeId × Nat)} (hu : P.underlying t = some (.array n e)) (hc : P.cellsOf e = c) (hl : (List.range n).map (fun i => (e, i * c)) = l) (hr : TellsFs P W 0 l k wf) (hs : P.cellsOf t = k.sz) : Tells P W t k wf := by
  intro H enc base spare held fuel cs x h hz
  obtain ⟨xs, m, rfl, rfl, hcl, hxl, hx⟩ := DataW.trod_array hu h
  subst hl
  have := hr (cs := cs) (xs := xs) (by simp [hxl]) (fun i t' q hq => by
    rw [List.getElem?_map, Option.map_eq_some_iff] at hq
    obtain ⟨j, hj, he⟩ := hq
    have hji : j = i ∧ i < n := by
      rw [List.getElem?_eq_some_iff] at hj
      obtain ⟨h1, h2⟩ := hj
      simp at h1 h2
      exact ⟨h2.symm, h1⟩
    obtain ⟨rfl, hi⟩ := hji
    obtain ⟨rfl, rfl⟩ := Prod.mk.inj he
    have := hx j hi
    rw [← hc]
    exact this) (by
    simp only [DataW.weights, hu] at hz
    rw [← weightsEach_replicate] at hz
    have e1 : ((List.range n).map (fun i => (e, i * c))).map (·.1) = List.replicate (xs.map (·.1)).length e := by
      rw [List.map_map, List.length_map, hxl]
      apply List.ext_getElem
      · simp
      · intro i h1 h2; simp
    rw [e1]
    exact hz)
  obtain ⟨a, ha, hwa⟩ := this
  refine ⟨a, ?_, hwa⟩
  rw [List.drop_zero, List.take_of_length_le (by omega)] at ha
  exact ha
theorem tells_iso {k : Kd α} {wf : α → Prop} {f : β → α} {wf' : β → Prop} (g : α → β) (hg : ∀ a, f (g a) = a) (hw : ∀ a, wf a → wf' (g a)) (h : Tells P W t k wf) : Tells P W t (Kd.iso k f) wf' := by
  intro H enc base spare held fuel cs x hx hz
  obtain ⟨a, ha, hwa⟩ := h hx hz
  refine ⟨g a, ?_, hw a hwa⟩
  show k.K W (f (g a)) cs
  rw [hg]
  exact ha
theorem sized_one {H : Type} {ts : List TypeId} {ds : List (DataW H)} (h : (DataW.weightsEach P ts ds).all (· ≤ reachBytes) = true) {j : Nat} {d : DataW H} (ht : ts[j]? = some t) (hd : ds[j]? = some d) : (d.weights P t).all (· ≤ reachBytes) = true :=
  List.all_eq_true.2 fun n hn => List.all_eq_true.1 h n (DataW.weights_mem_each ht hd n hn)
end
/-- A slice of whole numbers that came in, told as one that may be shared: nothing writes into it. -/
theorem Kd.F_int {k : IntKind} {W : World} {A : Option Addr} {n : Nat} {xs : List Int} (h : (Kd.int k).C W A n xs) : Kd.F (Kd.int k) W (fun _ => True) A n xs := by
  intro W' hW
  have hs : W.heap.size ≤ W'.heap.size := by
    by_cases h0 : W.heap.size = 0
    · omega
    · have := heap_lt (hW (W.heap.size - 1) trivial (by omega)) (by omega)
      omega
  have := Kd.C_below h (w1 := { W with heap := W'.heap }) ⟨rfl, rfl, rfl, hs, fun k hk => hW k trivial hk⟩
  exact this
theorem Kd.V_atq {α : Type} {d : Kd α} {e m base : Nat} {w w' : World} {ok : Nat → Prop} {v : Value} {xs : List α} (hq : w.drewN m = w') (h : Kd.V d e w base ok v xs) : Kd.V d e w' base ok v xs := by subst hq; exact Kd.V_drewN h m
end Go.Proofs.YtemfkhafkhkffaaW.PrintWords
