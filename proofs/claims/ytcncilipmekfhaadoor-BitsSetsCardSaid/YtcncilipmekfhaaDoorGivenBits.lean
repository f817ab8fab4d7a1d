/- The functions of the package bits that range over an iterator, walked by hand: List, Count, First. -/
import Derived.Test.YtcncilipmekfhaaDoorProg
import Derived.Test.YtcncilipmekfhaaDoorXTells
import Derived.Test.YtcncilipmekfhaaDoorXWords
import Derived.Test.YtcncilipmekfhaaDoorWLast
import Derived.Test.YtcncilipmekfhaaDoorBits
import Derived.RangeFuncOwn
import Derived.RangeFuncKeeps
import Derived.RangeFuncLeaves
import Derived.RangeFuncBox
import Derived.TacticsInMore
import Derived.LoopNIn
import Derived.LoopIn
import Derived.OwnWalkIn
import Derived.RangeFuncNested
import Derived.Maps.AppendAt
import Derived.Shelf.Abstract
namespace Go.Proofs.YtcncilipmekfhaaDoorW.PrintWords
open Go.RowKit Go.Proofs.YtcncilipmekfhaaDoorW.PrintLast Go.Proofs.YtcncilipmekfhaaDoorW.PrintMore
set_option linter.unusedVariables false
set_option linter.unusedSimpArgs false
attribute [local go_sem] Oper.semAt_some
namespace Tz
/-- the squares of a set, the smallest first -/
def sqs (A : BitVec 64) : List Nat := (List.range 64).filter fun i => A.getLsbD i
def clr (A : BitVec 64) : BitVec 64 := A &&& (A - 1#64)
def tab : List Int := [0, 1, 56, 2, 57, 49, 28, 3, 61, 58, 42, 50, 38, 29, 17, 4, 62, 47, 59, 36, 45, 43, 51, 22, 53, 39, 33, 30, 24, 18, 12, 5, 63, 55, 48, 27, 60, 41, 37, 16, 46, 35, 44, 21, 52, 32, 23, 11, 54, 26, 40, 15, 34, 20, 31, 10, 25, 14, 19, 9, 13, 8, 7, 6]
def magic : BitVec 64 := 285870213051353865#64
theorem filt (p q : Nat → Bool) (k : Nat) (hk : p k = true) (hl : ∀ i, i < k → p i = false) (hq : ∀ i, q i = (p i && decide (k < i))) : ∀ n, k < n → (List.range n).filter p = k :: (List.range n).filter q
  | 0, h => absurd h (by omega)
  | n + 1, h => by
    rw [List.range_succ, List.filter_append, List.filter_append]
    by_cases e : k < n
    · rw [filt p q k hk hl hq n e]
      have : q n = p n := by rw [hq n]; simp [e]
      have e2 : List.filter p [n] = List.filter q [n] := by cases hp : p n <;> simp [List.filter, hp, this ▸ hp]
      rw [e2]; rfl
    · have e : k = n := by omega
      subst e
      have h1 : (List.range k).filter p = [] := by
        rw [List.filter_eq_nil_iff]; intro i hi; rw [hl i (List.mem_range.1 hi)]; simp
      have h2 : (List.range k).filter q = [] := by
        rw [List.filter_eq_nil_iff]; intro i hi; rw [hq i, hl i (List.mem_range.1 hi)]; simp
      rw [h1, h2]
      have : q k = false := by rw [hq k]; simp
      simp [hk, this]
theorem first (A : BitVec 64) (h : A ≠ 0#64) : ∃ k, k < 64 ∧ A.getLsbD k = true ∧ ∀ i, i < k → A.getLsbD i = false := by
  have hex : ∃ k, A.getLsbD k = true := by
    apply Classical.byContradiction
    intro hn
    apply h
    apply BitVec.eq_of_getLsbD_eq
    intro i hi
    have : ¬ A.getLsbD i = true := fun e => hn ⟨i, e⟩
    simpa using this
  obtain ⟨k, hk⟩ := hex
  induction k using Nat.strongRecOn with
  | _ k ih =>
    by_cases hm : ∃ i, i < k ∧ A.getLsbD i = true
    · obtain ⟨i, hi, e⟩ := hm; exact ih i hi e
    · refine ⟨k, ?_, hk, fun i hi => ?_⟩
      · apply Classical.byContradiction; intro hn; rw [BitVec.getLsbD_of_ge A k (by omega)] at hk; cases hk
      · have : ¬ A.getLsbD i = true := fun e => hm ⟨i, hi, e⟩
        simpa using this
theorem neg_bit (A : BitVec 64) (k i : Nat) (hi : i < 64) (hk : A.getLsbD k = true) (hl : ∀ i, i < k → A.getLsbD i = false) : (-A).getLsbD i = (A.getLsbD i ^^ decide (k < i)) := by
  rw [BitVec.getLsbD_neg]
  have : (∃ j, j < i ∧ A.getLsbD j = true) ↔ k < i := by
    constructor
    · rintro ⟨j, hj, e⟩
      apply Classical.byContradiction; intro hn; rw [hl j (by omega)] at e; cases e
    · intro h; exact ⟨k, h, hk⟩
  simp [hi, this]
theorem low (A : BitVec 64) (k : Nat) (hk64 : k < 64) (hk : A.getLsbD k = true) (hl : ∀ i, i < k → A.getLsbD i = false) : A &&& -A = BitVec.twoPow 64 k := by
  apply BitVec.eq_of_getLsbD_eq
  intro i hi
  rw [BitVec.getLsbD_and, neg_bit A k i hi hk hl, BitVec.getLsbD_twoPow]
  by_cases e : i = k
  · subst e; simp [hk, hi]
  · by_cases e2 : i < k
    · simp [hl i e2]; omega
    · have : k < i := by omega
      cases A.getLsbD i <;> simp [this] <;> omega
theorem clr_bit (A : BitVec 64) (k i : Nat) (hk : A.getLsbD k = true) (hl : ∀ i, i < k → A.getLsbD i = false) : (clr A).getLsbD i = (A.getLsbD i && decide (k < i)) := by
  by_cases hi : i < 64
  · have e : A - 1#64 = ~~~(-A) := (BitVec.not_neg A).symm
    rw [clr, e, BitVec.getLsbD_and, BitVec.getLsbD_not, neg_bit A k i hi hk hl]
    cases A.getLsbD i <;> simp [hi]
  · rw [BitVec.getLsbD_of_ge _ _ (by omega), BitVec.getLsbD_of_ge _ _ (by omega)]; rfl
theorem tabs : ∀ k : Fin 64, tab[((BitVec.twoPow 64 k.1 * magic) >>> 58).toNat]? = some (k.1 : Int) := by decide +kernel
/-- a set that is not empty: its smallest square, and the others -/
theorem step (A : BitVec 64) (h : A ≠ 0#64) : ∃ k, k < 64 ∧ sqs A = k :: sqs (clr A) ∧ tab[(((A &&& -A) * magic) >>> 58).toNat]? = some (k : Int) := by
  obtain ⟨k, h1, h2, h3⟩ := first A h
  refine ⟨k, h1, filt _ _ k h2 h3 (fun i => clr_bit A k i h2 h3) 64 h1, ?_⟩
  rw [low A k h1 h2 h3]
  exact tabs ⟨k, h1⟩
theorem nil : sqs 0#64 = [] := by decide +kernel
theorem le (A : BitVec 64) : (sqs A).length ≤ 64 := by
  have := List.length_filter_le (fun i => A.getLsbD i) (List.range 64)
  simpa [sqs] using this
theorem cast0 {A : BitVec 64} (h : (A.toNat : Int) = 0) : A = 0#64 := by
  apply BitVec.eq_of_toNat_eq
  have : A.toNat = 0 := by omega
  rw [this]; rfl
theorem u_neg (A : BitVec 64) : IntKind.u64.wrap (-(A.toNat : Int)) = ((-A).toNat : Int) := by
  simp only [IntKind.wrap, IntKind.bits, IntKind.signed, BitVec.toNat_neg]
  have := A.isLt
  simp
  omega
theorem u_mul (A B : BitVec 64) : IntKind.u64.wrap ((A.toNat : Int) * (B.toNat : Int)) = ((A * B).toNat : Int) := by
  rw [show ((A.toNat : Int) * (B.toNat : Int)) = ((A.toNat * B.toNat : Nat) : Int) by push_cast; rfl, Go.Proofs.YtcncilipmekfhaaDoor.Bits.wrap_u, BitVec.toNat_mul]
theorem p58 : (2 : Nat) ^ 58 = 288230376151711744 := by decide
theorem magic_nat : (285870213051353865 : Int) = (magic.toNat : Int) := by decide +kernel
theorem u_clr (A : BitVec 64) : Go.bits .and .u64 (A.toNat : Int) (IntKind.u64.wrap ((A.toNat : Int) - 1)) = ((clr A).toNat : Int) := by
  have e : IntKind.u64.wrap ((A.toNat : Int) - 1) = ((A - 1#64).toNat : Int) := by
    simp only [IntKind.wrap, IntKind.bits, IntKind.signed, BitVec.toNat_sub]
    have := A.isLt
    simp
    omega
  rw [e]; exact Go.Proofs.YtcncilipmekfhaaDoor.Bits.u_and _ _
end Tz
def tabA : Array Value := (Tz.tab.map (Value.int .u8)).toArray
/-- the table lies in memory -/
def LaidS (w : World) : Prop := ∀ i v, tabA[i]? = some v → w.cell? ⟨1, i, none⟩ = some v
theorem LaidS.below {w W : World} (h : LaidS w) (hb : Below w.heap.size w W) : LaidS W := fun i v e => (hb.cell (World.block_lt_of_cell? w _ (h i v e))).trans (h i v e)
theorem LaidS.drewN {w : World} (h : LaidS w) (n : Nat) : LaidS (w.drewN n) := h
theorem LaidS.drew {w : World} (h : LaidS w) : LaidS w.drew := h
theorem xL {w W : World} (hl : LaidS w) (k : LaidS w → LaidS W := by intro h_; repeat (first | (with_reducible exact h_) | (with_reducible refine LaidS.drewN ?_ _) | (with_reducible refine LaidS.drew ?_) | exact LaidS.below h_ (xW HB))) : LaidS W := k hl
theorem f1 (A : BitVec 64) : IntKind.u64.wrap (Go.bits .and .u64 (A.toNat : Int) (IntKind.u64.wrap (-(A.toNat : Int))) * 285870213051353865) = ((((A &&& -A) * Tz.magic).toNat : Nat) : Int) := by
  rw [Tz.u_neg, Go.Proofs.YtcncilipmekfhaaDoor.Bits.u_and, show (285870213051353865 : Int) = (Tz.magic.toNat : Int) from Tz.magic_nat, Tz.u_mul]
theorem f2 (B : BitVec 64) : (B.toNat : Int) / (288230376151711744 : Int) = (((B >>> 58).toNat : Nat) : Int) := by
  rw [BitVec.toNat_ushiftRight, Nat.shiftRight_eq_div_pow, Tz.p58]
  omega
theorem f3 (B : BitVec 64) : (B >>> 58).toNat < 64 := by
  rw [BitVec.toNat_ushiftRight, Nat.shiftRight_eq_div_pow, Tz.p58]
  have := B.isLt
  omega
theorem f4 {w : World} {n k : Nat} (h : Tz.tab[n]? = some (k : Int)) (hl : LaidS w) : w.cell? ⟨1, n, none⟩ = some (.int .u8 (k : Int)) := by
  refine hl _ _ ?_
  rw [tabA, List.getElem?_toArray, List.getElem?_map, h]
  rfl
theorem g1 (n k : Nat) (w : World) (X : Int) (h3 : n < 64) (h4 : w.cell? ⟨1, n, none⟩ = some (.int .u8 (k : Int))) (e : X = (n : Int)) : w.cell? ⟨1, X.toNat, none⟩ = some (.int .u8 (k : Int)) ∧ (0 : Int) ≤ X ∧ X < (64 : Int) := by
  subst e
  exact ⟨h4, by omega, by omega⟩
theorem tz_facts (A : BitVec 64) (k : Nat) (w : World) (n : Nat) (hn : n = (((A &&& -A) * Tz.magic) >>> 58).toNat) (hk : Tz.tab[n]? = some (k : Int)) (hlaid : LaidS w) :
    w.cell? ⟨1, (IntKind.u64.wrap (Go.bits .and .u64 (A.toNat : Int) (IntKind.u64.wrap (-(A.toNat : Int))) * 285870213051353865) / (288230376151711744 : Int)).toNat, none⟩ = some (.int .u8 (k : Int)) ∧ (0 : Int) ≤ IntKind.u64.wrap (Go.bits .and .u64 (A.toNat : Int) (IntKind.u64.wrap (-(A.toNat : Int))) * 285870213051353865) / (288230376151711744 : Int) ∧ IntKind.u64.wrap (Go.bits .and .u64 (A.toNat : Int) (IntKind.u64.wrap (-(A.toNat : Int))) * 285870213051353865) / (288230376151711744 : Int) < (64 : Int) :=
  g1 n k w _ (hn ▸ f3 ((A &&& -A) * Tz.magic)) (f4 hk hlaid) (by rw [f1, f2, hn])
set_option maxHeartbeats 8000000 in
set_option maxRecDepth 100000 in
theorem tz_calls (A : BitVec 64) (k : Nat) (w : World) (hA : A ≠ 0#64) (hk64 : k < 64) (n : Nat) (hn : n = (((A &&& -A) * Tz.magic) >>> 58).toNat) (hk : Tz.tab[n]? = some (k : Int)) (hlaid : LaidS w) :
    Calls Tryd.prog 25 #[.int .u64 (A.toNat : Int)] w fun e w' => e = .returned (.int .i64 (k : Int)) ∧ Drawn0 w w' := by
  obtain ⟨hc, h0, h1⟩ := tz_facts A k w n hn hk hlaid
  clear hk hlaid hn
  go_enter Tryd.func25, Tryd.ntmps25
  go_wp2
  · rename_i h; exact absurd (Tz.cast0 (by simpa using h)) hA
  · go_ret
    exact ⟨rfl, by repeat (first | exact Drawn0.refl _ | apply Drawn0.step)⟩
/-- How many squares the boxed set has. -/
def sqLeft (B : Nat) (W : World) : Nat := match W.cell? ⟨B, 0, none⟩ with
  | some (.int _ x) => (Tz.sqs (BitVec.ofInt 64 x)).length
  | _ => 0
theorem sqLeft_eq {B : Nat} {W : World} {A : BitVec 64} (h : Boxed W B 23 (.int .u64 (A.toNat : Int))) : sqLeft B W = (Tz.sqs A).length := by
  unfold sqLeft
  rw [h.cell]
  simp only [Go.Proofs.YtcncilipmekfhaaDoor.Bits.ofInt_u]
set_option maxHeartbeats 8000000 in
set_option maxRecDepth 100000 in
theorem all1_in (n : Nat) (hn : 1 ≤ n) (l Bn : Nat) (A0 : BitVec 64) (J Jx : List Nat → World → Prop)
    (hJs : ∀ pre W u v, J pre W → Boxed W Bn 23 u → J pre (W.setCell ⟨Bn, 0, none⟩ v)) (hJd : ∀ pre W W', J pre W → Drawn0 W W' → J pre W') (hJl : ∀ pre W, J pre W → LaidS W)
    (hY : ∀ (pre : List Nat) (x : Nat) v W, pre ++ [x] <+: Tz.sqs A0 → J pre W → Boxed W Bn 23 v → YieldAt Fence.wide (n - 1) Tryd.prog l #[.int .i64 (x : Int)] W fun e W' =>
      (e = .returned (.bool true) ∧ J (pre ++ [x]) W' ∧ Boxed W' Bn 23 v) ∨ (e = .returned (.bool false) ∧ Jx (pre ++ [x]) W'))
    (W : World) (hB : Boxed W Bn 23 (.int .u64 (A0.toNat : Int))) (h0 : J [] W) :
    CallsIn Fence.wide n Tryd.prog 24 #[.func (.yield l) #[] #[], .pointer (some ⟨Bn, 0, none⟩)] W fun e W' => (∃ v, e = .returned v) ∧ (J (Tz.sqs A0) W' ∨ ∃ pre x, pre ++ [x] <+: Tz.sqs A0 ∧ Jx (pre ++ [x]) W') := by
  refine callsIn_of_wp Tryd.func24 rfl trivial ?_ rfl
  simp only [Tryd.ntmps24, List.size_toArray, List.length_cons, List.length_nil, Nat.reduceAdd, Nat.reduceSub, Array.replicate_succ, Array.replicate_zero, List.push_toArray, List.append_toArray, List.nil_append, List.cons_append]
  gi_wp2
  gi_loopw [] (fun wr => ∃ (pre : List Nat) (A : BitVec 64), J pre wr ∧ Boxed wr Bn 23 (.int .u64 (A.toNat : Int)) ∧ pre ++ Tz.sqs A = Tz.sqs A0)
    (fun wr => sqLeft Bn wr)
  case atStart =>
    exact ⟨[], A0, h0, hB, rfl⟩
  case round =>
    obtain ⟨pre, A, hJ, hb, hs⟩ := hrel
    have cB := hb.cell
    have fB := hb.frozen
    by_cases hz : A = 0#64
    · subst hz
      gi_wp2
      go_end0
      exact ⟨⟨_, rfl⟩, .inl (by rw [← hs, Tz.nil, List.append_nil]; exact hJ)⟩
    · obtain ⟨k, hk64, hsq, htab⟩ := Tz.step A hz
      have hne : ((A.toNat : Int) == 0) = false := by
        cases h : ((A.toNat : Int) == 0)
        · rfl
        · exact absurd (Tz.cast0 (by simpa using h)) hz
      gi_wp2
      refine ⟨trivial, callsIn_wide.2 ((tz_calls A k wr hz hk64 _ rfl htab (hJl _ _ hJ)).mono ?_)⟩
      rintro e w4 ⟨rfl, nd, rfl⟩
      have hJ4 : J pre (wr.drewN nd) := hJd _ _ _ hJ ⟨nd, rfl⟩
      have hb4 : Boxed (wr.drewN nd) Bn 23 (.int .u64 (A.toNat : Int)) := hb
      obtain ⟨fn, tmps, assign, body, hy, hR⟩ := hY pre k _ _ ⟨Tz.sqs (Tz.clr A), by rw [← hs, hsq]; simp⟩ hJ4 hb4
      gi_wp2
      refine hR.mono ?_
      rintro e W3 (⟨rfl, hJ3, hb3⟩ | ⟨rfl, hJx3⟩)
      · have c3 := hb3.cell
        have f3 := hb3.frozen
        gi_wp2
        rw [Tz.u_clr]
        go_roundw
        case rel => exact ⟨pre ++ [k], Tz.clr A, hJs _ _ _ _ hJ3 hb3, hb3.set _, by rw [← hs, hsq]; simp⟩
        case measure => rw [sqLeft_eq (hb3.set _), sqLeft_eq hb, hsq]; simp
      · gi_wp2
        refine bodyPost_ret (results_none rfl _ _ _) rfl ?_
        exact ⟨⟨_, rfl⟩, .inr ⟨pre, k, ⟨Tz.sqs (Tz.clr A), by rw [← hs, hsq]; simp⟩, hJx3⟩⟩
/-- How the body of a round over a set's squares is left. -/
def rPost (I Ix : List Nat → World → Prop) (Bn : Nat) (v : Value) (xs : List Nat) (W : World) : Exit → Act → World → Prop
  | .normal, _, W' => KeepsOthers W W' ∧ I xs W' ∧ Boxed W' Bn 23 v
  | .ret, _, W' => KeepsOthers W W' ∧ Ix xs W'
  | _, _, _ => False
set_option maxHeartbeats 8000000 in
set_option maxRecDepth 100000 in
/-- 'for s := range All(b) { .. }', whatever the body. -/
theorem range_bits {g : Operand} {ps : Array Tmp} {assign body : Code} {Q : Exit → Act → World → Prop} {a : Act} {w : World} {n : Nat} (h1 : 1 ≤ n) (h2 : 1 ≤ n - 1) (Bn : Nat) (A0 : BitVec 64)
    (hg : a.eval g = .func (.func 24) #[] #[.pointer (some ⟨Bn, 0, none⟩)]) (hps : ps.size = 1) (hbx : Boxed w Bn 23 (.int .u64 (A0.toNat : Int)))
    (I Ix : List Nat → World → Prop) (hI : OwnFrom w.heap.size I) (hIx : OwnFrom w.heap.size Ix) (hIs : ∀ pre W u v, I pre W → Boxed W Bn 23 u → I pre (W.setCell ⟨Bn, 0, none⟩ v)) (hId : ∀ pre W m, I pre W → I pre (W.drewN m)) (hIl : ∀ pre W, I pre W → LaidS W)
    (h0 : I [] w) (a₁ : Nat → Act)
    (hassign : ∀ (l : Nat) (x : Nat) (W : World) (K : Act → World → Prop), K (a₁ x) W →
      assign.wpIn (Fence.wide.inRound l) (n - 1 - 1) Tryd.prog (Exit.then K (fun _ _ _ => False)) { tmps := (ps.zip #[.int .i64 (x : Int)]).foldl (fun t (p, v) => t.setIfInBounds p v) a.tmps, defers := [] } W)
    (hbody : ∀ (l : Nat) (pre : List Nat) (x : Nat) (W : World) (v : Value), I pre W → Boxed W Bn 23 v → pre ++ [x] <+: Tz.sqs A0 → body.wpIn (Fence.wide.inRound l) (n - 1 - 1) Tryd.prog (rPost I Ix Bn v (pre ++ [x]) W) (a₁ x) W)
    (hdone : ∀ (D : Nat) (W : World), w.heap.size ≤ D → I (Tz.sqs A0) W → W.heap[D]? = some (.deferred (some [])) → Q .normal { a with defers := { target := .collected D, args := #[] } :: a.defers } W)
    (hstop : ∀ (D : Nat) (pre : List Nat) (x : Nat) (W : World), w.heap.size ≤ D → pre ++ [x] <+: Tz.sqs A0 → Ix (pre ++ [x]) W → W.heap[D]? = some (.deferred (some [])) → Code.ret.wpIn Fence.wide n Tryd.prog Q { a with defers := { target := .collected D, args := #[] } :: a.defers } W) :
    (Code.rangeFunc g ps assign body).wpIn Fence.wide n Tryd.prog Q a w := by
  refine wpIn_rangeFunc ?_
  intro fn hfn
  obtain ⟨rec, hrec⟩ : ∃ rec : LoopState → Option Code → Loop, rec = fun st pe => { state := st, pending := pe, fn, tmps := a.tmps, params := ps, assign, body, defers := w.heap.size } := ⟨_, rfl⟩
  obtain ⟨W1, hW1⟩ : ∃ W1, (w.alloc (.deferred (some []))).alloc (.loop (rec .ready none)) = W1 := ⟨_, rfl⟩
  have hL1 : W1.heap[w.heap.size + 1]? = some (.loop (rec .ready none)) := by
    rw [← hW1]; have := World.alloc_heap_new (w.alloc (.deferred (some []))) (.loop (rec .ready none)); rwa [World.size_alloc] at this
  have hK1 : W1.heap[w.heap.size]? = some (.deferred (some [])) := by
    rw [← hW1]; exact (Below.heap_alloc _ _ _ (by simp)).trans (World.alloc_heap_new w _)
  have hI1 : I [] W1 := by rw [← hW1]; exact hI.alloc _ (hI.alloc _ h0)
  have hbl := hbx.lt
  have hB1 : Boxed W1 Bn 23 (.int .u64 (A0.toNat : Int)) := by rw [← hW1]; exact (hbx.alloc _).alloc _
  refine ⟨w.heap.size + 1, [{ target := .collected w.heap.size, args := #[] }], W1, { target := .fn (.func 24) #[.pointer (some ⟨Bn, 0, none⟩)], args := #[.func (.yield (w.heap.size + 1)) #[] #[]] }, W1, 24,
    #[.func (.yield (w.heap.size + 1)) #[] #[], .pointer (some ⟨Bn, 0, none⟩)], W1, ?_, ?_, ?_, ?_, fun _ => h1, ?_⟩
  · rw [← hW1, hrec]; exact run_enterLoop_outer _ _ _ _ _
  · simp only [resolve, hg]
    simp [go_sem]
  · intro f' hf'; trivial
  · have eg := enters_of Tryd.func24 (by kernel_rfl) rfl
    simp [invoke, go_sem, eg]
  · refine (all1_in (n - 1) h2 (w.heap.size + 1) Bn A0
      (fun pre W => I pre W ∧ W.heap[w.heap.size + 1]? = some (.loop (rec .ready none)) ∧ W.heap[w.heap.size]? = some (.deferred (some [])))
      (fun pre W => Ix pre W ∧ W.heap[w.heap.size + 1]? = some (.loop (rec .done (some .ret))) ∧ W.heap[w.heap.size]? = some (.deferred (some [])))
      (fun pre W u v hs hu => ⟨hIs _ _ _ _ hs.1 hu, (Below.heap_setCell W ⟨Bn, 0, none⟩ v _ (show w.heap.size + 1 ≠ Bn by omega)).trans hs.2.1, (Below.heap_setCell W ⟨Bn, 0, none⟩ v _ (show w.heap.size ≠ Bn by omega)).trans hs.2.2⟩)
      (fun pre W W' hs hd => by obtain ⟨nd, rfl⟩ := hd; exact ⟨hId _ _ _ hs.1, hs.2.1, hs.2.2⟩)
      (fun pre W hs => hIl _ _ hs.1)
      ?_ W1 hB1 ⟨hI1, hL1, hK1⟩).mono ?_
    · rintro pre x v W hpre ⟨hi, hl, hk⟩ hbv
      have hlt : w.heap.size + 1 < W.heap.size := (Array.getElem?_eq_some_iff.1 hl).1
      have hy := run_yield (P := Tryd.prog) (args := #[.int .i64 (x : Int)]) hl (by rw [hrec]; exact hps.symm)
      rw [hrec] at hy
      refine ⟨fn, _, assign, body, hy, roundIn_of_wpIn hfn (hassign _ x W _ ⟨_, run_beginRound hl (by rw [hrec]), ?_⟩)⟩
      have hl2 : (W.putObj (w.heap.size + 1) (.loop { rec .ready none with state := .busy })).heap[w.heap.size + 1]? = some (.loop { rec .ready none with state := .busy }) := World.putObj_heap_same hlt
      have hk2 : (W.putObj (w.heap.size + 1) (.loop { rec .ready none with state := .busy })).heap[w.heap.size]? = some (.deferred (some [])) := (World.putObj_heap_other (by omega)).trans hk
      have hb2 : Boxed (W.putObj (w.heap.size + 1) (.loop { rec .ready none with state := .busy })) Bn 23 v := hbv.kept (grownBy_putObj' _ _ _) (by simp; omega)
      refine wpIn_mono (hbody _ pre x _ v (hI.putObj _ hi (by omega) hl rfl) hb2 hpre) ?_
      have fin : ∀ (jump : Option Code) (W3 : World), KeepsOthers (W.putObj (w.heap.size + 1) (.loop { rec .ready none with state := .busy })) W3 →
          (Instr.endRound (w.heap.size + 1) jump).run Tryd.prog W3 = .ok (.bool jump.isNone) (W3.putObj (w.heap.size + 1) (.loop (rec (if jump.isNone then .ready else .done) jump))) ∧
          W3.heap[w.heap.size + 1]? = some (.loop { rec .ready none with state := .busy }) ∧
          (W3.putObj (w.heap.size + 1) (.loop (rec (if jump.isNone then .ready else .done) jump))).heap[w.heap.size + 1]? = some (.loop (rec (if jump.isNone then .ready else .done) jump)) ∧
          (W3.putObj (w.heap.size + 1) (.loop (rec (if jump.isNone then .ready else .done) jump))).heap[w.heap.size]? = some (.deferred (some [])) := fun jump W3 hk3 => by
        have hl3 := hk3.same _ _ hl2 rfl
        have := run_endRound (P := Tryd.prog) jump hl3
        rw [hrec] at this ⊢
        exact ⟨this, by rw [hrec] at hl3; exact hl3, World.putObj_heap_same (Array.getElem?_eq_some_iff.1 hl3).1, (World.putObj_heap_other (by omega)).trans (hk3.same _ _ hk2 rfl)⟩
      rintro e a3 W3 hp
      cases e with
      | normal =>
        obtain ⟨hk3, hi3, hb3⟩ := hp
        obtain ⟨hr, hl3, hl4, hk4⟩ := fin none W3 hk3
        exact ⟨_, _, hr, .inl ⟨rfl, ⟨hI.putObj _ hi3 (by omega) hl3 rfl, hl4, hk4⟩, hb3.kept (grownBy_putObj' _ _ _) (by simp; omega)⟩⟩
      | ret =>
        obtain ⟨hk3, hi3⟩ := hp
        obtain ⟨hr, hl3, hl4, hk4⟩ := fin (some .ret) W3 hk3
        exact ⟨_, _, hr, .inr ⟨rfl, hIx.putObj _ hi3 (by omega) hl3 rfl, hl4, hk4⟩⟩
      | exit id => exact hp.elim
      | goto t => exact hp.elim
      | panic ch => exact hp.elim
      | outgrown => exact hp.elim
    · rintro e W2 ⟨⟨v, rfl⟩, (⟨hi, hl, hk⟩ | ⟨pre, x, hpre, hi, hl, hk⟩)⟩
      · exact ⟨none, _, by have := run_endLoop (P := Tryd.prog) hl (by rw [hrec]; simp); rw [hrec] at this; exact this, hdone _ _ (Nat.le_refl _) (hI.putObj _ hi (by omega) hl rfl) ((World.putObj_heap_other (by omega)).trans hk)⟩
      · exact ⟨some .ret, _, by have := run_endLoop (P := Tryd.prog) hl (by rw [hrec]; simp); rw [hrec] at this; exact this, hstop _ pre x _ (Nat.le_refl _) hpre (hIx.putObj _ hi (by omega) hl rfl) ((World.putObj_heap_other (by omega)).trans hk)⟩
set_option maxHeartbeats 8000000 in
theorem all_in (n : Nat) (x : Int) (w : World) :
    CallsIn Fence.wide n Tryd.prog 23 #[.int .u64 x] w fun e w' => e = .returned (.func (.func 24) #[] #[.pointer (some ⟨w.heap.size, 0, none⟩)]) ∧ w' = w.alloc (.cells #[.int .u64 x] 23) := by
  refine callsIn_of_wp Tryd.func23 rfl trivial ?_ rfl
  simp only [Tryd.ntmps23, List.size_toArray, List.length_cons, List.length_nil, Nat.reduceAdd, Nat.reduceSub, Array.replicate_succ, Array.replicate_zero, List.push_toArray, List.append_toArray, List.nil_append, List.cons_append]
  gi_wp2
  go_ret
  exact ⟨rfl, rfl⟩
set_option maxHeartbeats 8000000 in
set_option maxRecDepth 100000 in
theorem count_in (n : Nat) (hn : 6 ≤ n) (A : BitVec 64) (w : World) (hl : LaidS w) :
    CallsIn Fence.wide n Tryd.prog 7 #[.int .u64 (A.toNat : Int)] w fun e W' => e = .returned (.int .i64 ((Tz.sqs A).length : Int)) ∧ Below w.heap.size w W' := by
  have h1 : 1 ≤ n := by omega
  refine callsIn_of_wp_marks Tryd.func7 rfl trivial ?_ rfl
  simp only [Tryd.ntmps7, List.size_toArray, List.length_cons, List.length_nil, Nat.reduceAdd, Nat.reduceSub, Array.replicate_succ, Array.replicate_zero, List.push_toArray, List.append_toArray, List.nil_append, List.cons_append]
  have h23 : Fence.wide.fn 23 := trivial
  gi_wp2_with (gi_at_call 23; refine (all_in (n - 1) _ _).mono ?_; rintro e w' ⟨rfl, rfl⟩)
  have bN := (Boxed.new w 3 (.int .i64 0)).alloc (.cells #[.int .u64 (A.toNat : Int)] 23)
  have bB := Boxed.new (w.alloc (.cells #[.int .i64 0] 3)) 23 (.int .u64 (A.toNat : Int))
  simp only [World.size_alloc] at bB
  have hB0 : Below w.heap.size w ((w.alloc (.cells #[.int .i64 0] 3)).alloc (.cells #[.int .u64 (A.toNat : Int)] 23)) := ((Below.refl _ w).alloc (Nat.le_refl _) _).alloc (by simp) _
  have hsz : ((w.alloc (.cells #[.int .i64 0] 3)).alloc (.cells #[.int .u64 (A.toNat : Int)] 23)).heap.size = w.heap.size + 2 := by simp
  obtain ⟨W0, hW0⟩ : ∃ W0, (w.alloc (.cells #[.int .i64 0] 3)).alloc (.cells #[.int .u64 (A.toNat : Int)] 23) = W0 := ⟨_, rfl⟩
  rw [hW0] at bB bN hB0 hsz
  have hle := Tz.le A
  try simp only [hW0]
  refine range_bits h1 (by omega) (w.heap.size + 1) A rfl rfl bB
    (fun pre W => Boxed W w.heap.size 3 (.int .i64 (pre.length : Int)) ∧ Below w.heap.size w W) (fun _ _ => False)
    (OwnFrom.and (Own.from (boxed_own _ _ _) _) (ownFrom_below (Nat.le_refl _) (by omega))) (fun _ _ _ _ h => h.elim)
    (fun pre W u v h _ => ⟨h.1.other (by omega) _, h.2.setCell (p := ⟨w.heap.size + 1, 0, none⟩) (by simp) _⟩)
    (fun pre W m h => ⟨h.1, pw_below_drewN h.2 m⟩) (fun pre W h => hl.below h.2) ⟨bN, hB0⟩
    (fun x => { tmps := #[.int .u64 (A.toNat : Int), undef, .int .i64 0, .pointer (some ⟨w.heap.size, 0, none⟩), .int .u64 (A.toNat : Int), .func (.func 24) #[] #[.pointer (some ⟨w.heap.size + 1, 0, none⟩)], .int .i64 (x : Int), undef, undef, undef], defers := [] })
    ?assign ?body ?done ?stop
  case assign =>
    rintro l x W K hK
    gi_wp2
    first | exact hK | (simp; exact hK) | (simpa using hK)
  case body =>
    rintro l pre x W v ⟨hn1, hb1⟩ hv hpre
    have cN := hn1.cell
    have fN := hn1.frozen
    have e1 : wrap64 ((pre.length : Int) + 1) = ((pre ++ [x]).length : Int) := by
      have := hpre.length_le
      rw [Go.Proofs.YtcncilipmekfhaaDoor.Aid.w64 (by omega) (by simp at this; omega)]; simp
    gi_wp2
    exact ⟨KeepsOthers.setCell _ _ _, ⟨by have := hn1.set (.int .i64 ((pre.length : Int) + 1)); simpa using this, hb1.setCell (p := ⟨w.heap.size, 0, none⟩) (by simp) _⟩, hv.other (by omega) _⟩
  case done =>
    rintro D W hD ⟨hn1, hb1⟩ hK
    have cN := hn1.cell
    have fN := hn1.frozen
    gi_wp2
    refine ⟨by simp, .inl ⟨_, _, rfl, run_takeDeferred hK, ?_⟩⟩
    refine ⟨.int .i64 ((Tz.sqs A).length : Int), ?_, rfl, hb1.trans (belowK_b (w := w) (Nat.le_refl _) W D _ _ (by omega) hK rfl rfl)⟩
    simp [results, Tryd.f7, go_sem]
  case stop =>
    rintro D pre x W hD hpre h hK
    exact h.elim
def sqI (l : List Nat) : List Int := l.map fun i : Nat => (i : Int)
theorem sqI_snoc (l : List Nat) (x : Nat) : encs (Value.int .i64) (sqI (l ++ [x])) = encs (Value.int .i64) (sqI l) ++ [.int .i64 (x : Int)] := by simp [sqI, encs]
theorem info3 : (Tryd.prog.info? 3).map (fun i => (i.zero, i.size, i.bytes)) = some (some (.int .i64 0), 1, 8) := by kernel_rfl
set_option maxHeartbeats 8000000 in
set_option maxRecDepth 100000 in
theorem list_in (n : Nat) (hn : 6 ≤ n) (A : BitVec 64) (w : World) (hl : LaidS w) :
    CallsIn Fence.wide n Tryd.prog 9 #[.int .u64 (A.toNat : Int)] w fun e W' => ∃ v : Value, e = .returned v ∧ W'.ownsRow w.heap.size 3 1 v (Tz.sqs A).length (encs (Value.int .i64) (sqI (Tz.sqs A))) ∧ Below w.heap.size w W' := by
  have h1 : 1 ≤ n := by omega
  obtain ⟨i0, hi, hz0, hz1, hz2⟩ := info_parts info3
  refine callsIn_of_wp_marks Tryd.func9 rfl trivial ?_ rfl
  simp only [Tryd.ntmps9, List.size_toArray, List.length_cons, List.length_nil, Nat.reduceAdd, Nat.reduceSub, Array.replicate_succ, Array.replicate_zero, List.push_toArray, List.append_toArray, List.nil_append, List.cons_append]
  have h23 : Fence.wide.fn 23 := trivial
  gi_wp2_with (gi_at_call 23; refine (all_in (n - 1) _ _).mono ?_; rintro e w' ⟨rfl, rfl⟩)
  have bN := (Boxed.new w 22 (.slice none 0 0)).alloc (.cells #[.int .u64 (A.toNat : Int)] 23)
  have bB := Boxed.new (w.alloc (.cells #[.slice none 0 0] 22)) 23 (.int .u64 (A.toNat : Int))
  simp only [World.size_alloc] at bB
  have hB0 : Below w.heap.size w ((w.alloc (.cells #[.slice none 0 0] 22)).alloc (.cells #[.int .u64 (A.toNat : Int)] 23)) := ((Below.refl _ w).alloc (Nat.le_refl _) _).alloc (by simp) _
  have hsz : ((w.alloc (.cells #[.slice none 0 0] 22)).alloc (.cells #[.int .u64 (A.toNat : Int)] 23)).heap.size = w.heap.size + 2 := by simp
  obtain ⟨W0, hW0⟩ : ∃ W0, (w.alloc (.cells #[.slice none 0 0] 22)).alloc (.cells #[.int .u64 (A.toNat : Int)] 23) = W0 := ⟨_, rfl⟩
  rw [hW0] at bB bN hB0 hsz
  have hle := Tz.le A
  try simp only [hW0]
  refine range_bits h1 (by omega) (w.heap.size + 1) A rfl rfl bB
    (fun pre W => (∃ v, Boxed W w.heap.size 22 v ∧ W.ownsRow w.heap.size 3 1 v pre.length (encs (Value.int .i64) (sqI pre)) ∧ True) ∧ Below w.heap.size w W) (fun _ _ => False)
    (OwnFrom.and (Own.from (holdsRow_own w.heap.size w.heap.size 22 3 1 (fun pre : List Nat => pre.length) (fun pre => encs (Value.int .i64) (sqI pre)) (fun _ _ => True)) _) (ownFrom_below (Nat.le_refl _) (by omega))) (fun _ _ _ _ h => h.elim)
    (fun pre W u v h hu => by
      obtain ⟨⟨x, hx, hr, _⟩, hb⟩ := h
      exact ⟨⟨x, hx.other (by omega) _, hr.kept (grownBy_setCell' W _ v) (.inr (hu.not_row (by decide) hr).symm), trivial⟩, hb.setCell (p := ⟨w.heap.size + 1, 0, none⟩) (by simp) _⟩)
    (fun pre W m h => ⟨h.1, pw_below_drewN h.2 m⟩) (fun pre W h => hl.below h.2) ⟨⟨_, bN, World.ownsRow_nil _ _ _ _, trivial⟩, hB0⟩
    (fun x => { tmps := #[.int .u64 (A.toNat : Int), undef, .slice none 0 0, .pointer (some ⟨w.heap.size, 0, none⟩), .int .i64 (x : Int), .int .u64 (A.toNat : Int), .func (.func 24) #[] #[.pointer (some ⟨w.heap.size + 1, 0, none⟩)], .int .i64 (x : Int), undef, undef, undef, undef, undef], defers := [] })
    ?assign ?body ?done ?stop
  case assign =>
    rintro l x W K hK
    gi_wp2
    first | exact hK | (simp; exact hK) | (simpa using hK)
  case body =>
    rintro l pre x W u ⟨⟨v, hv, hrow, _⟩, hb1⟩ hu hpre
    have hc := hv.cell
    have hp := hpre.length_le
    have hp1 : (pre ++ [x]).length = pre.length + 1 := by simp
    have hmax : (64 : Nat) ≤ maxLen := by decide
    gi_wp2_with (gi_at_builtin; refine wpListIn_append_own _ rfl _ _ 22 rfl w.heap.size 3 i0 (.int .i64 0) 1 8 Tryd.underlying22 hi hz0 hz1 hz2 rfl (by decide) _ _ _ rfl (hrow.alloc _) ⟨W.heap.size, 0, none⟩ 1 1 [.int .i64 (x : Int)] rfl rfl (cell_one_new _ _ _) (by simp [Value.oneCell']) (by omega) (by omega) (by have := hb1.size; simp; omega) ?_; intro v' w1 hown' hgrow _; obtain ⟨g', cap', rfl⟩ := ownsRow_succ hown'; have hu1 := (hu.alloc (.cells #[.int .i64 (x : Int)] 3)).kept hgrow (hu.not_row (by decide) hrow); obtain ⟨hv1, hv2, hr2, hk2, hb2⟩ := hv.appended (by decide) hrow hb1.size (Nat.le_refl _) hown' hgrow; have hc1 := hv1.cell; have hf1 := hv1.frozen)
    exact ⟨hk2, ⟨⟨_, hv2, by rw [hp1, sqI_snoc]; exact hr2, trivial⟩, hb1.trans hb2⟩, hu1.other (by omega) _⟩
  case done =>
    rintro D W hD ⟨⟨v, hv, hrow, _⟩, hb1⟩ hK
    have hc := hv.cell
    gi_wp2
    refine ⟨by simp, .inl ⟨_, _, rfl, run_takeDeferred hK, ?_⟩⟩
    exact ⟨_, results_tmp rfl _ _ _, v, rfl, ownsRow_putObj hrow _ hK rfl, hb1.trans (belowK_b (w := w) (Nat.le_refl _) W D _ _ (by omega) hK rfl rfl)⟩
  case stop =>
    rintro D pre x W hD hpre h hK
    exact h.elim
def firstV : List Nat → Int
  | [] => 0
  | x :: _ => x
def firstE : List Nat → Int
  | [] => 8
  | _ :: _ => 0
set_option maxHeartbeats 8000000 in
set_option maxRecDepth 100000 in
theorem first_in (n : Nat) (hn : 6 ≤ n) (A : BitVec 64) (w : World) (hl : LaidS w) :
    CallsIn Fence.wide n Tryd.prog 10 #[.int .u64 (A.toNat : Int)] w fun e W' => e = .returned (.tuple #[.int .i64 (firstV (Tz.sqs A)), .int .i64 (firstE (Tz.sqs A))]) ∧ Below w.heap.size w W' := by
  have h1 : 1 ≤ n := by omega
  refine callsIn_of_wp_marks Tryd.func10 rfl trivial ?_ rfl
  simp only [Tryd.ntmps10, List.size_toArray, List.length_cons, List.length_nil, Nat.reduceAdd, Nat.reduceSub, Array.replicate_succ, Array.replicate_zero, List.push_toArray, List.append_toArray, List.nil_append, List.cons_append]
  have h23 : Fence.wide.fn 23 := trivial
  gi_wp2_with (gi_at_call 23; refine (all_in (n - 1) _ _).mono ?_; rintro e w' ⟨rfl, rfl⟩)
  have bN := ((Boxed.new w 3 (.int .i64 0)).alloc (.cells #[.int .i64 0] 24)).alloc (.cells #[.int .u64 (A.toNat : Int)] 23)
  have bE := (Boxed.new (w.alloc (.cells #[.int .i64 0] 3)) 24 (.int .i64 0)).alloc (.cells #[.int .u64 (A.toNat : Int)] 23)
  have bB := Boxed.new ((w.alloc (.cells #[.int .i64 0] 3)).alloc (.cells #[.int .i64 0] 24)) 23 (.int .u64 (A.toNat : Int))
  simp only [World.size_alloc] at bB bE
  have hB0 : Below w.heap.size w (((w.alloc (.cells #[.int .i64 0] 3)).alloc (.cells #[.int .i64 0] 24)).alloc (.cells #[.int .u64 (A.toNat : Int)] 23)) := (((Below.refl _ w).alloc (Nat.le_refl _) _).alloc (by simp) _).alloc (by simp; omega) _
  have hsz : (((w.alloc (.cells #[.int .i64 0] 3)).alloc (.cells #[.int .i64 0] 24)).alloc (.cells #[.int .u64 (A.toNat : Int)] 23)).heap.size = w.heap.size + 3 := by simp
  obtain ⟨W0, hW0⟩ : ∃ W0, ((w.alloc (.cells #[.int .i64 0] 3)).alloc (.cells #[.int .i64 0] 24)).alloc (.cells #[.int .u64 (A.toNat : Int)] 23) = W0 := ⟨_, rfl⟩
  rw [hW0] at bB bN bE hB0 hsz
  have hle := Tz.le A
  try simp only [hW0]
  refine range_bits h1 (by omega) (w.heap.size + 1 + 1) A rfl rfl bB
    (fun pre W => ((pre = [] ∧ Boxed W w.heap.size 3 (.int .i64 0)) ∧ Boxed W (w.heap.size + 1) 24 (.int .i64 0)) ∧ Below w.heap.size w W)
    (fun pre W => (Boxed W w.heap.size 3 (.int .i64 (firstV pre)) ∧ Boxed W (w.heap.size + 1) 24 (.int .i64 0)) ∧ Below w.heap.size w W)
    (OwnFrom.and (OwnFrom.and (OwnFrom.and (ownFrom_pure _ _) (Own.from (boxed_own _ _ _) _)) (Own.from (boxed_own _ _ _) _)) (ownFrom_below (Nat.le_refl _) (by omega)))
    (OwnFrom.and (OwnFrom.and (Own.from (boxed_own _ _ _) _) (Own.from (boxed_own _ _ _) _)) (ownFrom_below (Nat.le_refl _) (by omega)))
    (fun pre W u v h _ => ⟨⟨⟨h.1.1.1, h.1.1.2.other (by omega) _⟩, h.1.2.other (by omega) _⟩, h.2.setCell (p := ⟨w.heap.size + 1 + 1, 0, none⟩) (by simp; omega) _⟩)
    (fun pre W m h => ⟨h.1, pw_below_drewN h.2 m⟩) (fun pre W h => hl.below h.2) ⟨⟨⟨rfl, bN⟩, bE⟩, hB0⟩
    (fun x => { tmps := #[.int .u64 (A.toNat : Int), undef, .pointer (some ⟨w.heap.size, 0, none⟩), .pointer (some ⟨w.heap.size + 1, 0, none⟩), .int .i64 (x : Int), .int .u64 (A.toNat : Int), .func (.func 24) #[] #[.pointer (some ⟨w.heap.size + 1 + 1, 0, none⟩)], .int .i64 (x : Int), undef], defers := [] })
    ?assign ?body ?done ?stop
  case assign =>
    rintro l x W K hK
    gi_wp2
    first | exact hK | (simp; exact hK) | (simpa using hK)
  case body =>
    rintro l pre x W u ⟨⟨⟨rfl, hn1⟩, he1⟩, hb1⟩ hu hpre
    have cN := hn1.cell
    have fN := hn1.frozen
    have hn2 := hn1.set (.int .i64 (x : Int))
    have he2 := he1.other (show w.heap.size + 1 ≠ w.heap.size by omega) (.int .i64 (x : Int))
    have cE := he2.cell
    have fE := he2.frozen
    gi_wp2
    exact ⟨(KeepsOthers.setCell _ _ _).trans (KeepsOthers.setCell _ _ _), ⟨hn2.other (by omega) _, he2.set _⟩, (hb1.setCell (p := ⟨w.heap.size, 0, none⟩) (by simp) _).setCell (p := ⟨w.heap.size + 1, 0, none⟩) (by simp) _⟩
  case done =>
    rintro D W hD ⟨⟨⟨hp, hn1⟩, he1⟩, hb1⟩ hK
    have cN := hn1.cell
    have fN := hn1.frozen
    have hn2 := hn1.set (.int .i64 0)
    have he2 := he1.other (show w.heap.size + 1 ≠ w.heap.size by omega) (.int .i64 0)
    have cE := he2.cell
    have fE := he2.frozen
    gi_wp2
    have hK' := ((KeepsOthers.setCell W ⟨w.heap.size, 0, none⟩ (.int .i64 0)).trans (KeepsOthers.setCell _ ⟨w.heap.size + 1, 0, none⟩ (.int .i64 8))).same D _ hK rfl
    refine ⟨by simp, .inl ⟨_, _, rfl, run_takeDeferred hK', ?_⟩⟩
    have hc5 := ((hn2.other (show w.heap.size ≠ w.heap.size + 1 by omega) (.int .i64 8)).kept (grownBy_putObj' _ D (.deferred none)) (by simp; omega)).cell
    have hc6 := ((he2.set (.int .i64 8)).kept (grownBy_putObj' _ D (.deferred none)) (by simp; omega)).cell
    refine ⟨.tuple #[.int .i64 0, .int .i64 8], ?_, by rw [hp]; rfl, ((hb1.setCell (p := ⟨w.heap.size, 0, none⟩) (by simp) _).setCell (p := ⟨w.heap.size + 1, 0, none⟩) (by simp) _).trans (belowK_b (w := w) (Nat.le_refl _) _ D _ _ (by omega) hK' rfl rfl)⟩
    simp [results, Tryd.f10, go_sem, hc5, hc6]
  case stop =>
    rintro D pre x W hD hpre ⟨⟨hn1, he1⟩, hb1⟩ hK
    have hpre' : ∃ t, Tz.sqs A = pre ++ [x] ++ t := by obtain ⟨t, ht⟩ := hpre; exact ⟨t, ht.symm⟩
    obtain ⟨t, ht⟩ := hpre'
    have e1 : firstV (Tz.sqs A) = firstV (pre ++ [x]) := by rw [ht]; cases pre <;> rfl
    have e2 : firstE (Tz.sqs A) = 0 := by rw [ht]; cases pre <;> rfl
    gi_wp2
    refine ⟨by simp, .inl ⟨_, _, rfl, run_takeDeferred hK, ?_⟩⟩
    have hc5 := (hn1.kept (grownBy_putObj' _ D (.deferred none)) (by simp; omega)).cell
    have hc6 := (he1.kept (grownBy_putObj' _ D (.deferred none)) (by simp; omega)).cell
    refine ⟨.tuple #[.int .i64 (firstV (pre ++ [x])), .int .i64 0], ?_, by rw [e1, e2], hb1.trans (belowK_b (w := w) (Nat.le_refl _) W D _ _ (by omega) hK rfl rfl)⟩
    simp [results, Tryd.f10, go_sem, hc5, hc6]
theorem u64_nat {a : Int} (h : 0 ≤ a ∧ a < 18446744073709551616) : a = ((BitVec.ofInt 64 a).toNat : Int) := by
  rw [BitVec.toNat_ofInt]
  omega
def bits_Count.f (_ : Nat) (a : Int) : Option Int := if 0 ≤ a ∧ a < 18446744073709551616 then some ((Tz.sqs (BitVec.ofInt 64 a)).length : Int) else none
def bits_List.f (_ : Nat) (a : Int) : Option (List Int) := if 0 ≤ a ∧ a < 18446744073709551616 then some (sqI (Tz.sqs (BitVec.ofInt 64 a))) else none
def bits_First.f (_ : Nat) (a : Int) : Option (Int × Int) := if 0 ≤ a ∧ a < 18446744073709551616 then some (firstV (Tz.sqs (BitVec.ofInt 64 a)), firstE (Tz.sqs (BitVec.ofInt 64 a))) else none
theorem bits_Count.mono : ∀ a0 k, LeO (bits_Count.f k a0) (bits_Count.f (k + 1) a0) := fun _ _ => LeO.refl _
theorem bits_List.mono : ∀ a0 k, LeO (bits_List.f k a0) (bits_List.f (k + 1) a0) := fun _ _ => LeO.refl _
theorem bits_First.mono : ∀ a0 k, LeO (bits_First.f k a0) (bits_First.f (k + 1) a0) := fun _ _ => LeO.refl _
theorem bits_Count.calls (k : Nat) (a0 : Int) (r : Int) (w : World) (h : bits_Count.f k a0 = some r) (hlaid : LaidS w) :
    Calls Tryd.prog 7 #[.int .u64 a0] w fun e w' => e = .returned (.int .i64 r) ∧ Below w.heap.size w w' := by
  unfold bits_Count.f at h
  by_cases hb : 0 ≤ a0 ∧ a0 < 18446744073709551616
  · rw [if_pos hb] at h
    obtain rfl := Option.some.inj h
    have e := u64_nat hb
    generalize BitVec.ofInt 64 a0 = A at e
    subst e
    try simp only [Go.Proofs.YtcncilipmekfhaaDoor.Bits.ofInt_u]
    exact callsIn_wide.1 (count_in 6 (Nat.le_refl _) A w hlaid)
  · rw [if_neg hb] at h; cases h
theorem bits_List.calls (k : Nat) (a0 : Int) (r : List Int) (w : World) (h : bits_List.f k a0 = some r) (hlaid : LaidS w) :
    Calls Tryd.prog 9 #[.int .u64 a0] w fun e w' => ∃ v0_ : Value, e = .returned v0_ ∧ Kd.R (Kd.int .i64) 3 w' w.heap.size (fun _ => True) v0_ r ∧ Below w.heap.size w w' := by
  unfold bits_List.f at h
  by_cases hb : 0 ≤ a0 ∧ a0 < 18446744073709551616
  · rw [if_pos hb] at h
    obtain rfl := Option.some.inj h
    have e := u64_nat hb
    generalize BitVec.ofInt 64 a0 = A at e
    subst e
    try simp only [Go.Proofs.YtcncilipmekfhaaDoor.Bits.ofInt_u]
    refine (callsIn_wide.1 (list_in 6 (Nat.le_refl _) A w hlaid)).mono ?_
    rintro e w' ⟨v, rfl, ho, hbl⟩
    exact ⟨v, rfl, Kd.R_of_own (by rw [show (sqI (Tz.sqs A)).length = (Tz.sqs A).length by simp [sqI]]; exact ho) (fun _ _ => trivial), hbl⟩
  · rw [if_neg hb] at h; cases h
theorem bits_First.calls (k : Nat) (a0 : Int) (r1 r2 : Int) (w : World) (h : bits_First.f k a0 = some (r1, r2)) (hlaid : LaidS w) :
    Calls Tryd.prog 10 #[.int .u64 a0] w fun e w' => e = .returned (.tuple #[.int .i64 r1, .int .i64 r2]) ∧ Below w.heap.size w w' := by
  unfold bits_First.f at h
  by_cases hb : 0 ≤ a0 ∧ a0 < 18446744073709551616
  · rw [if_pos hb] at h
    have h' := Option.some.inj h
    obtain ⟨rfl, rfl⟩ := Prod.mk.inj h'
    have e := u64_nat hb
    generalize BitVec.ofInt 64 a0 = A at e
    subst e
    try simp only [Go.Proofs.YtcncilipmekfhaaDoor.Bits.ofInt_u]
    exact callsIn_wide.1 (first_in 6 (Nat.le_refl _) A w hlaid)
  · rw [if_neg hb] at h; cases h
end Go.Proofs.YtcncilipmekfhaaDoorW.PrintWords
