/- Package swiss, by hand: how often two have met, whether a bye is free, and the search. -/
import Derived.Lib.LazyBuf
import Derived.Test.YtemfkhafkhkffaaPSwissPairsx2
import Derived.Test.YtemfkhafkhkffaaPSwissPairsx3
import Derived.Test.YtemfkhafkhkffaaSwiss
namespace Go.Proofs.Ytemfkhafkhkffaa.PSwissPairs
open Go.RowKit Go.Proofs.YtemfkhafkhkffaaW.PrintWords Go.Proofs.YtemfkhafkhkffaaW.PrintLast Go.Proofs.YtemfkhafkhkffaaW.PrintMore
set_option maxHeartbeats 4000000
set_option maxRecDepth 100000
set_option linter.unusedVariables false
set_option linter.unusedSimpArgs false
theorem row_cell {w : World} {g : Nat} {t : TypeId} {hv : List Int} {i : Int} (h : w.heap[g]? = some (.cells ⟨hv.map (Value.int .i64)⟩ t (0, 0))) (h0 : 0 ≤ i) (h1 : i < (hv.length : Int)) : w.cell? ⟨g, i.toNat, none⟩ = some (.int .i64 (rd hv i)) ∧ w.frozen? ⟨g, i.toNat, none⟩ = false := by
  refine ⟨?_, blk_frozen h _⟩
  rw [blk_cell h]
  have hn : i.toNat < hv.length := by omega
  simp [rd, List.getD_eq_getElem?_getD, hn]
theorem row_set {w : World} {g : Nat} {t : TypeId} {hv : List Int} (h : w.heap[g]? = some (.cells ⟨hv.map (Value.int .i64)⟩ t (0, 0))) (i : Nat) (v : Int) : (w.setCell ⟨g, i, none⟩ (.int .i64 v)).heap[g]? = some (.cells ⟨(hv.set i v).map (Value.int .i64)⟩ t (0, 0)) := by
  rw [blk_set h, List.map_set]; simp
theorem drop_int (xs : List Int) (s : Nat) (h : s < xs.length) : xs.drop s = rd xs (s : Int) :: xs.drop (s + 1) := by
  rw [List.drop_eq_getElem_cons h, show rd xs (s : Int) = xs[s] by simp [rd, List.getD_eq_getElem?_getD, h]]
/-- what cells hold -/
def Cells : List (Addr × Value) → World → Prop
  | [], _ => True
  | (a, v) :: cs, w => w.cell? a = some v ∧ Cells cs w
theorem Cells.below {w w1 : World} (hb : Below w.heap.size w w1) : ∀ {L : List (Addr × Value)}, Cells L w → Cells L w1
  | [], _ => trivial
  | (a, v) :: cs, h => ⟨(hb.cell (World.block_lt_of_cell? w _ h.1)).trans h.1, Cells.below hb h.2⟩
/-- a load of such cells, ahead of all else in a region that draws -/
theorem tc_ {P : Program} {md : Region.Mode} {ops : Array Oper} {Q : Exit → Act → World → Prop} {L : List (Addr × Value)} {ds : List Nat} {fuel : Nat} {l : Array Bool} {a a' : Act} {w : World} {oi : Oper} {v : Value} {T : Bool × List (List Nat × List Nat)} {B : List Nat} (i N : Nat) (HT : Aside0 (rtab md ops = T)) (HW : Aside0 (waitsOk T.2 B = true)) (hS : Cells L w) (h : wpAnyLast P md ops Q (Cells L) ds fuel ⟨l.toList.set i true⟩ a' w) (hi : ops[i]? = some oi := by rfl) (hN : oi.dst = some N := by rfl) (hc : takeW T B ds l.toList (l.toList.set i true) i = true := by as_aux_lemma => kernel_rfl)
    (hQ : ∀ c a w, Q (.panic c) (a.put oi.dst v) w → Q (.panic c) a w := by exact fun _ _ _ h => h) (hw : Region.wanted oi (yielded ops a.tmps) = true := by rfl) (hy : ∀ w, Cells L w → (execOp a.eval oi).run P w = .ok (.value v) w := by intro w' hS_; simp only [Cells] at hS_; repeat (obtain ⟨h_, hS_⟩ := hS_); go_simp; with_reducible rfl)
    (ha : a.put (some N) v = a' := by simp only [Act.put, List.setIfInBounds_toArray, List.set_cons_zero, List.set_cons_succ, i64_w, i32_w]; rfl) : wpAnyLast P md ops Q (Cells L) ds (fuel + 1) l a w := take_ ⟨l.toList.set i true⟩ hi hN (take_ofW HT.out HW.out hc) hQ (Or.inl ⟨hw, hy⟩) hS ha h
/-! how often two have met -/
def cntO (j : Int) : List Int → Int
  | [] => 0
  | o :: os => (if o = j then 1 else 0) + cntO j os
/-- players in memory that is only read -/
structure LIn (w : World) (A : Option Addr) (c : Nat) (l : List S33) : Prop where
  n : l.length ≤ c
  g : Kd.C k33 w A l.length l
theorem LIn.below {w w1 : World} {A : Option Addr} {c : Nat} {l : List S33} (h : LIn w A c l) (hb : Below w.heap.size w w1) : LIn w1 A c l := ⟨h.n, Kd.C_below h.g hb⟩
/-- what the walks want of players -/
structure LVal (l : List S33) : Prop where
  n : 2 ≤ l.length ∧ l.length ≤ 8
  s : ∀ j : Int, 0 ≤ j → j < (l.length : Int) → (0 ≤ (rd_T33 l j).f0 ∧ (rd_T33 l j).f0 ≤ 40) ∧ (-20 ≤ (rd_T33 l j).f2 ∧ (rd_T33 l j).f2 ≤ 20) ∧ (rd_T33 l j).f1.length ≤ 20
theorem sp_at {w : World} {L : List S33} {A : Option Addr} {i : Int} (hc : Kd.C k33 w A L.length L) (h0 : 0 ≤ i) (h1 : i < (L.length : Int)) : ∃ ad, A = some ad := by
  obtain ⟨ad', A3, c3, e, x⟩ := at_T33 hc i h0 h1
  exact ⟨ad', e⟩
theorem times_any (l : List S33) {A : Option Addr} {c : Nat} (w : World) (hl : LIn w A c l) (hv : LVal l) (i j : Int) (h0 : 0 ≤ i) (h1 : i < (l.length : Int)) : Calls Try.prog 30 #[.slice A l.length c, .int .i64 i, .int .i64 j] w fun e w' => e = .returned (.int .i64 (cntO j (rd_T33 l i).f1)) ∧ Below w.heap.size w w' := by
  have hu33 := Try.underlying33
  have HB := xm (Below.refl w.heap.size w)
  obtain ⟨ad, A1, c1, e, z0, z1, z2, z3, zl, zc⟩ := at_T33 hl.g i h0 h1
  cases e
  obtain ⟨os, hos⟩ : ∃ os, (rd_T33 l i).f1 = os := ⟨_, rfl⟩
  have HOL : Aside0 (os.length ≤ 20) := ⟨by rw [← hos]; exact (hv.s i h0 h1).2.2⟩
  rw [hos] at z1 zc ⊢
  have ZC := xm zc
  have p0 : (0 ≤ i) = True := eq_true h0
  have p1 : (i < (l.length : Int)) = True := eq_true h1
  clear hl hv h0 h1 zl zc hos z0 z2 z3
  obtain ⟨tt, htt⟩ : ∃ tt, cntO j os = tt := ⟨_, rfl⟩
  have HT := xm htt
  rw [htt]
  clear htt
  go_enter Try.func30, Try.ntmps30
  go_upto_region 3 with fail
  clear z1 p0 p1
  go_loopg [7, 16] os.length (fun kq v7 v16 w' => ∃ (a : Nat) (b n : Int), v7 = .int .i64 n ∧ v16 = .int .i64 b ∧ Aside0 (b = (a : Int)) ∧ Aside0 (a + kq = os.length) ∧ Aside0 (0 ≤ n ∧ n ≤ (a : Int)) ∧ Aside0 (n + cntO j (os.drop a) = tt) ∧ Aside0 (Below w.heap.size w w'))
  case atStart => exact ⟨0, 0, 0, rfl, rfl, ⟨rfl⟩, ⟨by omega⟩, ⟨by omega⟩, ⟨by have := HT.out; rw [List.drop_zero, this]; omega⟩, ⟨xW HB⟩⟩
  case round =>
    clear HT HB
    obtain ⟨a, b, n, rfl, rfl, HJ, HI, HN, HT, HB⟩ := hrel
    by_cases hi : a = os.length
    · have hlt : decide (b < (os.length : Int)) = false := decide_eq_false (by have := HJ.out; omega)
      have hT := HT.out
      rw [hi, List.drop_length, cntO, Int.add_zero] at hT
      subst hT
      clear HT
      go_wp2
      go_ret
      exact ⟨rfl, HB.out⟩
    obtain ⟨k1, rfl⟩ : ∃ k1, gk = k1 + 1 := ⟨gk - 1, by have := HI.out; omega⟩
    have q1 : decide (b < (os.length : Int)) = true := decide_eq_true (by have := HJ.out; have := HI.out; omega)
    have hj0 : 0 ≤ b := by have := HJ.out; omega
    have hj1 : b < (os.length : Int) := by have := HJ.out; have := HI.out; omega
    obtain ⟨bn, hbn⟩ : ∃ bn : Int, IntKind.i64.wrap (b + 1) = bn := ⟨_, rfl⟩
    have HBN : Aside0 (bn = ((a + 1 : Nat) : Int)) := ⟨by rw [← hbn, HJ.out, i64_w]; have := HI.out; have := HOL.out; unfold wrap64; omega⟩
    obtain ⟨ao, e, y0⟩ := Kd.at_int ZC.out b hj0 hj1
    cases e
    replace y0 := xR HB y0
    have hT := HT.out
    rw [drop_int os a (by have := HI.out; omega), cntO, ← HJ.out] at hT
    obtain ⟨o, ho⟩ : ∃ o, rd os b = o := ⟨_, rfl⟩
    rw [ho] at hT y0
    clear HT ho
    replace hj0 := eq_true hj0
    replace hj1 := eq_true hj1
    by_cases hoj : o = j
    · rw [if_pos hoj] at hT
      have hob := beq_iff_eq.mpr hoj
      have HT2 := xm hT
      obtain ⟨nn, hnn⟩ : ∃ nn : Int, IntKind.i64.wrap (n + 1) = nn := ⟨_, rfl⟩
      have HNN : Aside0 (nn = n + 1) := ⟨by rw [← hnn, i64_w]; have := HN.out; have := HI.out; have := HOL.out; unfold wrap64; omega⟩
      clear hT
      go_wp2
      go_roundg k1
      case measure => omega
      case rel => exact ⟨a + 1, bn, nn, (xrf), (xrf), HBN, ⟨by have := HI.out; omega⟩, ⟨by have := HN.out; have := HNN.out; omega⟩, ⟨by have := HT2.out; have := HNN.out; omega⟩, HB⟩
    · rw [if_neg hoj] at hT
      have hob := beq_eq_false_iff_ne.mpr hoj
      have HT2 := xm hT
      clear hT
      go_wp2
      go_roundg k1
      case measure => omega
      case rel => exact ⟨a + 1, bn, n, (xrf), (xrf), HBN, ⟨by have := HI.out; omega⟩, ⟨by have := HN.out; omega⟩, ⟨by have := HT2.out; omega⟩, HB⟩
/-- whether a bye is free -/
def frB (l : List S33) (wl : List Int) : Bool := decide (l.length % 2 = 1 ∧ (-1 : Int) ∉ wl)
theorem free_any (l : List S33) {A : Option Addr} {cl : Nat} (w : World) (g gp : Nat) (bv : Value) (x : Int) (wl : List Int) (hs : w.heap[g]? = some (.cells #[.slice A l.length cl, .slice (some ⟨gp, 0, none⟩) l.length l.length, bv, .int .i64 x] 78 (0, 0))) (hp : w.heap[gp]? = some (.cells ⟨(wl : List Int).map (Value.int .i64)⟩ 3 (0, 0))) (hwl : wl.length = l.length) (hv : LVal l) : Calls Try.prog 43 #[.pointer (some ⟨g, 0, none⟩)] w fun e w' => e = .returned (.bool (frB l wl)) ∧ Below w.heap.size w w' := by
  have hu78 := Try.underlying78
  have HB := xm (Below.refl w.heap.size w)
  have HSx := xm hs
  have HPx := xm hp
  have HWL := xm hwl
  have HN := xm hv.n
  clear hp hs hwl hv
  have hz := blkc4 HSx.out
  obtain ⟨m, hm⟩ : ∃ m : Int, Int.tmod (l.length : Int) 2 = m := ⟨_, rfl⟩
  have HM : Aside0 (m = ((l.length % 2 : Nat) : Int)) := ⟨by rw [← hm, Int.tmod_eq_emod_of_nonneg (by omega)]; omega⟩
  obtain ⟨fr, hfr⟩ : ∃ fr, frB l wl = fr := ⟨_, rfl⟩
  have HFR := xm hfr
  rw [hfr]
  clear hfr
  go_enter Try.func43, Try.ntmps43
  by_cases h2 : m = 0
  · have h2b := beq_iff_eq.mpr h2
    have hF : fr = false := by rw [← HFR.out]; unfold frB; exact decide_eq_false (fun h => by have := HM.out; omega)
    subst hF
    go_wp2
    go_ret
    exact ⟨rfl, xW HB⟩
  have h2b := beq_eq_false_iff_ne.mpr h2
  have HM1 : Aside0 (l.length % 2 = 1) := ⟨by have := HM.out; omega⟩
  go_upto_region 4 with fail
  clear hz h2b h2 hm
  go_loopg [17] l.length (fun kq v17 w' => ∃ (a : Nat) (b : Int), v17 = .int .i64 b ∧ Aside0 (b = (a : Int)) ∧ Aside0 (a + kq = l.length) ∧ Aside0 ((-1 : Int) ∈ wl ↔ (-1 : Int) ∈ wl.drop a) ∧ Aside0 (w'.heap[gp]? = some (.cells ⟨(wl : List Int).map (Value.int .i64)⟩ 3 (0, 0))) ∧ Aside0 (Below w.heap.size w w'))
  case atStart => exact ⟨0, 0, rfl, ⟨rfl⟩, ⟨by omega⟩, ⟨by rw [List.drop_zero]⟩, HPx, ⟨xW HB⟩⟩
  case round =>
    clear HB HPx
    obtain ⟨a, b, rfl, HJ, HI, HT, HPx, HB⟩ := hrel
    by_cases hi : a = l.length
    · have hlt : decide (b < (l.length : Int)) = false := decide_eq_false (by have := HJ.out; omega)
      have hT := HT.out
      rw [hi, List.drop_of_length_le (by have := HWL.out; omega)] at hT
      have hF : fr = true := by rw [← HFR.out]; unfold frB; exact decide_eq_true ⟨HM1.out, fun h => by have := hT.1 h; cases this⟩
      subst hF
      clear hT HT
      go_wp2
      go_ret
      exact ⟨rfl, HB.out⟩
    obtain ⟨k1, rfl⟩ : ∃ k1, gk = k1 + 1 := ⟨gk - 1, by have := HI.out; omega⟩
    have q1 : decide (b < (l.length : Int)) = true := decide_eq_true (by have := HJ.out; have := HI.out; omega)
    have hj0 : 0 ≤ b := by have := HJ.out; omega
    have hj1 : b < (l.length : Int) := by have := HJ.out; have := HI.out; omega
    obtain ⟨bn, hbn⟩ : ∃ bn : Int, IntKind.i64.wrap (b + 1) = bn := ⟨_, rfl⟩
    have HBN : Aside0 (bn = ((a + 1 : Nat) : Int)) := ⟨by rw [← hbn, HJ.out, i64_w]; have := HI.out; have := HN.out; unfold wrap64; omega⟩
    have hy := row_cell HPx.out hj0 (by have := HWL.out; omega)
    have hT := HT.out
    rw [drop_int wl a (by have := HI.out; have := HWL.out; omega), ← HJ.out, List.mem_cons] at hT
    obtain ⟨o, ho⟩ : ∃ o, rd wl b = o := ⟨_, rfl⟩
    rw [ho] at hT hy
    clear HT ho
    replace hj0 := eq_true hj0
    replace hj1 := eq_true hj1
    by_cases ho : o = -1
    · have hob := beq_iff_eq.mpr ho
      have hF : fr = false := by rw [← HFR.out]; unfold frB; exact decide_eq_false (fun h => h.2 (hT.2 (.inl ho.symm)))
      subst hF
      clear hT
      go_wp2
      go_ret
      exact ⟨rfl, HB.out⟩
    · have hob := beq_eq_false_iff_ne.mpr ho
      have HT2 : Aside0 ((-1 : Int) ∈ wl ↔ (-1 : Int) ∈ wl.drop (a + 1)) := ⟨⟨fun h => (hT.1 h).resolve_left (fun e => ho e.symm), fun h => hT.2 (.inr h)⟩⟩
      clear hT
      go_wp2
      go_roundg k1
      case measure => omega
      case rel => exact ⟨a + 1, bn, (xrf), HBN, ⟨by have := HI.out; omega⟩, HT2, HPx, HB⟩
/-! the search -/
def cstL (l : List S33) (i j : Nat) : Int := 100 * ((rd_T33 l (i : Int)).f0 - (rd_T33 l (j : Int)).f0) * ((rd_T33 l (i : Int)).f0 - (rd_T33 l (j : Int)).f0) + ((rd_T33 l (i : Int)).f2 + (rd_T33 l (j : Int)).f2) * ((rd_T33 l (i : Int)).f2 + (rd_T33 l (j : Int)).f2)
def byeL (l : List S33) (i : Nat) : Int := 100 * (rd_T33 l (i : Int)).f0 * (rd_T33 l (i : Int)).f0
def sysL (l : List S33) : Swiss.Sys := ⟨l.length, fun i j => !(cntO (j : Int) (rd_T33 l (i : Int)).f1 == 0), cstL l, byeL l, fun i => (rd_T33 l (i : Int)).f3⟩
theorem sq_in {a m : Int} (h0 : -m ≤ a) (h1 : a ≤ m) (hm : 0 ≤ m) : 0 ≤ a * a ∧ a * a ≤ m * m := by
  constructor
  · rcases Int.le_total 0 a with h | h
    · exact Int.mul_nonneg h h
    · exact Int.mul_nonneg_of_nonpos_of_nonpos h h
  · rcases Int.le_total 0 a with h | h
    · exact Int.mul_le_mul h1 h1 h hm
    · have := Int.mul_le_mul (show -a ≤ m by omega) (show -a ≤ m by omega) (show 0 ≤ -a by omega) hm
      rw [Int.neg_mul_neg] at this; exact this
theorem cst_in {l : List S33} (hv : LVal l) (i j : Nat) (hi : i < l.length) (hj : j < l.length) : 0 ≤ cstL l i j ∧ cstL l i j ≤ 161600 := by
  obtain ⟨⟨a0, a1⟩, ⟨b0, b1⟩, _⟩ := hv.s (i : Int) (by omega) (by omega)
  obtain ⟨⟨c0, c1⟩, ⟨d0, d1⟩, _⟩ := hv.s (j : Int) (by omega) (by omega)
  have h1 := sq_in (a := (rd_T33 l (i : Int)).f0 - (rd_T33 l (j : Int)).f0) (m := 40) (by omega) (by omega) (by omega)
  have h2 := sq_in (a := (rd_T33 l (i : Int)).f2 + (rd_T33 l (j : Int)).f2) (m := 40) (by omega) (by omega) (by omega)
  unfold cstL
  rw [Int.mul_assoc]
  omega
theorem bye_in {l : List S33} (hv : LVal l) (i : Nat) (hi : i < l.length) : 0 ≤ byeL l i ∧ byeL l i ≤ 160000 := by
  obtain ⟨⟨a0, a1⟩, _, _⟩ := hv.s (i : Int) (by omega) (by omega)
  have h1 := sq_in (a := (rd_T33 l (i : Int)).f0) (m := 40) (by omega) (by omega) (by omega)
  unfold byeL
  rw [Int.mul_assoc]
  omega
theorem w64i {n : Int} (h0 : -9223372036854775808 ≤ n) (h1 : n ≤ 9223372036854775807) : wrap64 n = n := by unfold wrap64; omega
theorem cost_f {l : List S33} (hv : LVal l) (i j : Nat) (hi : i < l.length) (hj : j < l.length) : swiss_cost.f l (i : Int) (j : Int) = some (cstL l i j) := by
  obtain ⟨⟨a0, a1⟩, ⟨b0, b1⟩, _⟩ := hv.s (i : Int) (by omega) (by omega)
  obtain ⟨⟨c0, c1⟩, ⟨d0, d1⟩, _⟩ := hv.s (j : Int) (by omega) (by omega)
  have h1 := sq_in (a := (rd_T33 l (i : Int)).f0 - (rd_T33 l (j : Int)).f0) (m := 40) (by omega) (by omega) (by omega)
  have h2 := sq_in (a := (rd_T33 l (i : Int)).f2 + (rd_T33 l (j : Int)).f2) (m := 40) (by omega) (by omega) (by omega)
  unfold swiss_cost.f
  rw [if_pos (by omega), if_pos (by omega), if_pos (by omega), if_pos (by omega)]
  unfold cstL
  rw [w64i (n := (rd_T33 l (i : Int)).f0 - (rd_T33 l (j : Int)).f0) (by omega) (by omega), w64i (n := (rd_T33 l (i : Int)).f2 + (rd_T33 l (j : Int)).f2) (by omega) (by omega)]
  generalize (rd_T33 l (i : Int)).f0 - (rd_T33 l (j : Int)).f0 = d at h1 ⊢
  generalize (rd_T33 l (i : Int)).f2 + (rd_T33 l (j : Int)).f2 = s at h2 ⊢
  have hd : -40 ≤ d ∧ d ≤ 40 := by
    constructor
    · rcases Int.le_total 0 d with h | h
      · omega
      · by_cases hh : d ≤ -41
        · have := Int.mul_le_mul (show (41 : Int) ≤ -d by omega) (show (41 : Int) ≤ -d by omega) (by omega) (by omega)
          rw [Int.neg_mul_neg] at this; omega
        · omega
    · by_cases hh : 41 ≤ d
      · have := Int.mul_le_mul hh hh (by omega) (by omega)
        omega
      · omega
  rw [w64i (n := 100 * d) (by omega) (by omega), Int.mul_assoc, w64i (n := 100 * (d * d)) (by omega) (by omega), w64i (n := s * s) (by omega) (by omega), w64i (by omega) (by omega)]
theorem bye_f {l : List S33} (hv : LVal l) (i : Nat) (hi : i < l.length) : swiss_bye.f l (i : Int) = some (byeL l i) := by
  obtain ⟨⟨a0, a1⟩, _, _⟩ := hv.s (i : Int) (by omega) (by omega)
  have h1 := sq_in (a := (rd_T33 l (i : Int)).f0) (m := 40) (by omega) (by omega) (by omega)
  unfold swiss_bye.f byeL
  rw [if_pos (by omega), if_pos (by omega), w64i (n := 100 * (rd_T33 l (i : Int)).f0) (by omega) (by omega), w64i (by rw [Int.mul_assoc]; omega) (by rw [Int.mul_assoc]; omega)]
def sw_try.T10 : Bool × List (List Nat × List Nat) := (true, [([], []), ([0], [0]), ([1], [1]), ([2], [2]), ([], []), ([], []), ([5], [5]), ([6], [6]), ([7], [7]), ([], []), ([], []), ([], []), ([3, 4, 0, 1, 2, 3, 4, 8, 10], [3, 4]), ([12, 10, 0, 1, 2, 3, 4, 8, 10], [10, 12]), ([8, 9, 0, 1, 2, 3, 4, 5, 6, 7, 8, 9, 10, 11, 12, 13], [8, 9]), ([14, 11, 13, 0, 1, 2, 3, 4, 5, 6, 7, 8, 9, 10, 11, 12, 13], [11, 14])])
def sw_try.B10 : List Nat := [0, 1, 3, 7, 0, 0, 32, 96, 224, 0, 0, 0, 1535, 5631, 16383, 32767]
theorem sw_try.tab10 : rtab .any (opsOf Try.f27 10) = sw_try.T10 := by kernel_rfl
theorem sw_try.bits10 : waitsOk sw_try.T10.2 sw_try.B10 = true := by kernel_rfl
def sw_try.T12 : Bool × List (List Nat × List Nat) := (true, [([], []), ([0], [0]), ([1], [1]), ([2], [2]), ([], []), ([], []), ([5], [5]), ([6], [6]), ([7], [7]), ([], []), ([3, 4, 0, 1, 2, 3, 4, 8], [3, 4]), ([10, 0, 1, 2, 3, 4, 8], [10]), ([8, 9, 0, 1, 2, 3, 4, 5, 6, 7, 8, 9, 10, 11], [8, 9]), ([12, 11, 0, 1, 2, 3, 4, 5, 6, 7, 8, 9, 10, 11], [12])])
def sw_try.B12 : List Nat := [0, 1, 3, 7, 0, 0, 32, 96, 224, 0, 511, 1535, 4095, 8191]
theorem sw_try.tab12 : rtab .any (opsOf Try.f27 12) = sw_try.T12 := by kernel_rfl
theorem sw_try.bits12 : waitsOk sw_try.T12.2 sw_try.B12 = true := by kernel_rfl
/-- the best so far -/
def BestV (g gp n : Nat) (w : World) : Option (List Int) → Value → Prop
  | none, v => v = .slice none 0 0
  | some b, v => Kd.R (Kd.int .i64) 3 w 0 (fun k => k ≠ g ∧ k ≠ gp) v b ∧ b.length = n
theorem BestV.below {g gp n : Nat} {w w1 : World} (hb : Below w.heap.size w w1) : ∀ {o : Option (List Int)} {v : Value}, BestV g gp n w o v → BestV g gp n w1 o v
  | none, _, h => h
  | some b, _, h => ⟨Kd.R_below h.1 hb, h.2⟩
theorem BestV.set {g gp n : Nat} {w : World} {p : Addr} {u : Value} (hp : p.block = g ∨ p.block = gp) : ∀ {o : Option (List Int)} {v : Value}, BestV g gp n w o v → BestV g gp n (w.setCell p u) o v
  | none, _, h => h
  | some b, _, h => ⟨Kd.R_far h.1 (fun k hk => by rcases hp with e | e <;> rw [e] <;> first | exact hk.1 | exact hk.2) u, h.2⟩
/-- what the search has in memory -/
structure TB (w0 : World) (g gp : Nat) (A : Option Addr) (cl : Nat) (l : List S33) (wl : List Int) (bo : Option (List Int)) (x : Int) (bv : Value) (w : World) : Prop where
  s : w.heap[g]? = some (.cells #[.slice A l.length cl, .slice (some ⟨gp, 0, none⟩) l.length l.length, bv, .int .i64 x] 78 (0, 0))
  q : BestV g gp l.length w bo bv
  p : w.heap[gp]? = some (.cells ⟨(wl : List Int).map (Value.int .i64)⟩ 3 (0, 0))
  b : Below w0.heap.size w0 w
/-- what stays of it -/
structure TN (w0 : World) (g gp : Nat) (A : Option Addr) (cl : Nat) (l : List S33) : Prop where
  li : LIn w0 A cl l
  lv : LVal l
  ne : g ≠ gp
  g : w0.heap.size ≤ g
  p : w0.heap.size ≤ gp
section
variable {w0 : World} {g gp : Nat} {A : Option Addr} {cl : Nat} {l : List S33} {wl : List Int} {bo : Option (List Int)} {x : Int} {bv : Value} {w w1 : World}
theorem TB.below (h : TB w0 g gp A cl l wl bo x bv w) (hb : Below w.heap.size w w1) : TB w0 g gp A cl l wl bo x bv w1 := ⟨blk_below h.s hb, h.q.below hb, blk_below h.p hb, below_step h.b hb⟩
theorem TB.put (h : TB w0 g gp A cl l wl bo x bv w) (N : TN w0 g gp A cl l) (i : Nat) (v : Int) : TB w0 g gp A cl l (wl.set i v) bo x bv (w.setCell ⟨gp, i, none⟩ (.int .i64 v)) :=
  ⟨blk_far h.s N.ne _, h.q.set (p := ⟨gp, i, none⟩) (.inr rfl), row_set h.p i v, below_set h.b N.p⟩
theorem TB.got (h : TB w0 g gp A cl l wl bo x bv w) (N : TN w0 g gp A cl l) {bo' : Option (List Int)} {bv' : Value} (c : Int) (hq : BestV g gp l.length w bo' bv') : TB w0 g gp A cl l wl bo' c bv' ((w.setCell ⟨g, 2, none⟩ bv').setCell ⟨g, 3, none⟩ (.int .i64 c)) := by
  refine ⟨?_, (hq.set (p := ⟨g, 2, none⟩) (.inl rfl)).set (p := ⟨g, 3, none⟩) (.inl rfl), blk_far (blk_far h.p (Ne.symm N.ne) _) (Ne.symm N.ne) _, below_set (below_set h.b N.g) N.g⟩
  have h1 := blk_set (blk_set h.s 2 bv') 3 (.int .i64 c)
  simpa using h1
end
theorem row_C {w : World} {g : Nat} {hv : List Int} {n : Nat} (h : w.heap[g]? = some (.cells ⟨hv.map (Value.int .i64)⟩ 3 (0, 0))) (hn : hv.length = n) (hl : n ≤ 8) : Kd.C (Kd.int .i64) w (some ⟨g, 0, none⟩) n hv := by
  refine ⟨hn, by omega, fun _ => ⟨_, rfl, fun j p hj => ⟨[.int .i64 p], rfl, rfl, fun i u hu => ?_⟩⟩⟩
  cases i with
  | zero =>
    obtain rfl : Value.int .i64 p = u := Option.some.inj hu
    have e1 : (Kd.int .i64).sz = 1 := rfl
    have e : (⟨g, 0, none⟩ : Addr).add (j * (Kd.int .i64).sz + 0) = ⟨g, j, none⟩ := by rw [e1]; simp [Addr.add]; omega
    rw [e, blk_cell h]
    simp [hj]
  | succ i => cases hu
theorem first_drop (wl : List Int) (a : Nat) (ha : a < wl.length) : Swiss.first (wl.drop a) = if rd wl (a : Int) = -2 then 0 else Swiss.first (wl.drop (a + 1)) + 1 := by
  rw [drop_int wl a ha, Swiss.first]
theorem getD_rd (wl : List Int) (a : Nat) : rd wl (a : Int) = wl.getD a 0 := by unfold rd; rw [Int.toNat_natCast]
set_option maxHeartbeats 8000000 in
theorem try_any {w0 : World} {g gp : Nat} {A : Option Addr} {cl : Nat} {l : List S33} (N : TN w0 g gp A cl l) : ∀ (f : Nat) (w : World) (wl : List Int) (c : Int) (bo : Option (List Int)) (x : Int) (bv : Value), Swiss.un wl < f → wl.length = l.length → 0 ≤ c → c + 200000 * (Swiss.un wl : Int) ≤ 10000000 → TB w0 g gp A cl l wl bo x bv w →
    Calls Try.prog 27 #[.pointer (some ⟨g, 0, none⟩), .int .i64 c] w fun e w' => (∃ v, e = .returned v) ∧ ∃ bv', TB w0 g gp A cl l wl (Swiss.tryF (sysL l) f wl c (bo, x)).1 (Swiss.tryF (sysL l) f wl c (bo, x)).2 bv' w' := by
  intro f
  induction f with
  | zero => intro w wl c bo x bv h; exact absurd h (Nat.not_lt_zero _)
  | succ f ih =>
    intro w wl c bo x bv hf hwl hc0 hc1 hT
    have hu78 := Try.underlying78
    have hu33 := Try.underlying33
    have hu31 := Try.underlying31
    have hss_ := @isSome_setCell
    have hnil_ : ∀ (w_ : World) (a_ : Option Addr) (n_ c_ : Nat), (binOp .neq 31 (.slice a_ n_ c_) (.slice none 0 0)).run Try.prog w_ = .ok (.bool (!a_.isNone)) w_ := fun w_ a_ n_ c_ => run_neq_slice_nil w_ 31 3 a_ n_ c_ Try.underlying31
    have HN := xm N
    have HF := xm hf
    have HWL := xm hwl
    have HC := xm (And.intro hc0 hc1)
    have HTB := xm hT
    have IH := xm ih
    clear hf hwl hc0 hc1 hT ih N
    obtain ⟨fn1, fn2⟩ := Swiss.first_is wl
    have HFI := xm (And.intro fn1 fn2)
    clear fn1 fn2
    obtain ⟨st', hst⟩ : ∃ st', Swiss.tryF (sysL l) (f + 1) wl c (bo, x) = st' := ⟨_, rfl⟩
    have HST := xm hst
    rw [hst]
    clear hst
    obtain ⟨pr, hpr⟩ : ∃ pr, decide (bo.isSome = true ∧ c ≥ x) = pr := ⟨_, rfl⟩
    have HPR := xm hpr
    clear hpr
    go_enter Try.func27, Try.ntmps27
    go_upto_region 0 with fail
    go_cut [18] (fun v18 wc => v18 = .bool pr ∧ Aside0 (TB w0 g gp A cl l wl bo x bv wc))
    case first =>
      have hpr := HPR.out
      have hz := blkc4 HTB.out.s
      cases bo with
      | none =>
        have hbv : bv = .slice none 0 0 := HTB.out.q
        have hP : pr = false := by rw [← hpr]; exact decide_eq_false (fun h => by cases h.1)
        subst hP
        rw [hbv] at hz
        clear hpr HPR
        go_wp2
        go_meet
        case rel => exact ⟨xrf, HTB⟩
      | some b =>
        have hq := HTB.out.q
        obtain ⟨B, cb, hbv⟩ := Kd.R_slice hq.1
        have hlen : 0 < b.length := by have := hq.2; have := HN.out.lv.n; omega
        obtain ⟨gb, cb2, hbv2, _⟩ := Kd.R_form hq.1 hlen
        rw [hbv2] at hz
        clear hq hbv hlen
        by_cases hcx : c ≥ x
        · have hcb := decide_eq_true hcx
          have hP : pr = true := by rw [← hpr]; exact decide_eq_true ⟨rfl, hcx⟩
          subst hP
          clear hpr HPR
          go_wp2
          go_meet
          case rel => exact ⟨xrf, HTB⟩
        · have hcb := decide_eq_false hcx
          have hP : pr = false := by rw [← hpr]; exact decide_eq_false (fun h => hcx h.2)
          subst hP
          clear hpr HPR
          go_wp2
          go_meet
          case rel => exact ⟨xrf, HTB⟩
    case rest =>
      clear HTB
      obtain ⟨rfl, HTB⟩ := hcut
      cases pr with
      | true =>
        have hst := HST.out
        have hp := of_decide_eq_true HPR.out
        rw [Swiss.tryF, if_pos hp] at hst
        subst hst
        clear HST
        go_wp2
        (try simp only [Exit.inBlock, Exit.then]); refine bodyPost_ret (results_none rfl _ _ _) rfl ?_
        exact ⟨⟨_, rfl⟩, _, HTB.out⟩
      | false =>
        have HST2 : Aside0 ((if Swiss.first wl = l.length then (some wl, c) else (if (sysL l).byeB (Swiss.first wl) = false ∧ (l.length % 2 = 1 ∧ (-1 : Int) ∉ wl) then Swiss.tryF (sysL l) f (wl.set (Swiss.first wl) (-1)) (c + (sysL l).byeC (Swiss.first wl)) (Swiss.tryJ (sysL l) f wl c (Swiss.first wl) (Swiss.first wl + 1) (l.length - (Swiss.first wl + 1)) (bo, x)) else Swiss.tryJ (sysL l) f wl c (Swiss.first wl) (Swiss.first wl + 1) (l.length - (Swiss.first wl + 1)) (bo, x))) = st') := ⟨by have h := HST.out; rw [Swiss.tryF, if_neg (of_decide_eq_false HPR.out)] at h; exact h⟩
        clear HST HPR
        go_upto_region 2 with fail
        go_loopg [4] (Swiss.first wl) (fun kq v4 w' => ∃ (a : Nat) (b : Int), v4 = .int .i64 b ∧ Aside0 (b = (a : Int)) ∧ Aside0 (a + kq = Swiss.first wl) ∧ Aside0 (a + Swiss.first (wl.drop a) = Swiss.first wl) ∧ Aside0 (TB w0 g gp A cl l wl bo x bv w'))
        case atStart => exact ⟨0, 0, rfl, ⟨rfl⟩, ⟨by omega⟩, ⟨by rw [List.drop_zero]; omega⟩, HTB⟩
        case round =>
          clear HTB
          obtain ⟨a, b, rfl, HJ, HI, HD, HTB⟩ := hrel
          have hz := blkc4 HTB.out.s
          by_cases hi : a = Swiss.first wl
          rotate_left
          · obtain ⟨k1, rfl⟩ : ∃ k1, gk = k1 + 1 := ⟨gk - 1, by have := HI.out; omega⟩
            have hal : a < wl.length := by have := HI.out; have := HFI.out.1; omega
            have hd := HD.out
            rw [first_drop wl a hal] at hd
            have hne : ¬ rd wl (a : Int) = -2 := fun e => by rw [if_pos e] at hd; omega
            rw [if_neg hne] at hd
            have HD2 : Aside0 ((a + 1) + Swiss.first (wl.drop (a + 1)) = Swiss.first wl) := ⟨by omega⟩
            rw [← HJ.out] at hne
            have hneb := bne_iff_ne.mpr hne
            have q1 : decide (b < (l.length : Int)) = true := decide_eq_true (by have := HJ.out; have := HWL.out; omega)
            have hj0 : 0 ≤ b := by have := HJ.out; omega
            have hj1 : b < (l.length : Int) := by have := HJ.out; have := HWL.out; omega
            obtain ⟨bn, hbn⟩ : ∃ bn : Int, IntKind.i64.wrap (b + 1) = bn := ⟨_, rfl⟩
            have HBN : Aside0 (bn = ((a + 1 : Nat) : Int)) := ⟨by rw [← hbn, HJ.out, i64_w]; have := HWL.out; have := HN.out.lv.n; unfold wrap64; omega⟩
            have hy := row_cell HTB.out.p hj0 (by have := HWL.out; omega)
            replace hj0 := eq_true hj0
            replace hj1 := eq_true hj1
            clear hd HD hne
            go_wp2
            go_roundg k1
            case measure => omega
            case rel => exact ⟨a + 1, bn, (xrf), HBN, ⟨by have := HI.out; omega⟩, HD2, HTB⟩
          by_cases hfn : Swiss.first wl = l.length
          · have hlt : decide (b < (l.length : Int)) = false := decide_eq_false (by have := HJ.out; omega)
            have heq : (b == (l.length : Int)) = true := beq_iff_eq.mpr (by have := HJ.out; omega)
            have hst := HST2.out
            rw [if_pos hfn] at hst
            subst hst
            have HB := xm (Below.refl wr.heap.size wr)
            have hgs := blk_lt HTB.out.s
            have hps := blk_lt HTB.out.p
            have HGS := xm (And.intro hgs hps)
            clear HST2 hgs hps
            go_wp2_with (first
              | ((with_reducible refine gate_dst (N := 47) rfl ?_); refine Kd.R_lit (Kd.int .i64) _ 3 ?hg (N := 47) ?hd (xs := ([] : List Int)) (inner := []) (ok := fun _ => True) (okp := fun _ => True) ?hr ?hp (fun _ hk => hk) trivial (Below.refl _ _) (Nat.le_refl _) (by simp) ?_; (case hd => rfl); (case hg => rfl); (case hr => first | (go_simp; done) | (go_simp; rfl)); (case hp => exact (Reps.none _ _)); intro v47 w4 ho4 hb hg_ hnew_; clear hg_ hnew_; have HO4 := xm (Kd.R_lower ho4 (below_size (xW HB))); replace HB := xS HB hb; clear hb ho4; replace hz := blkc4 (blk_below HTB.out.s HB.out))
              | ((with_reducible refine gate_builtin (b := .append) (xs := #[.tmp 47, .tmp 51]) rfl ?_); at_builtin; refine Kd.R_append_rows (Kd.int .i64) (w0 := wr) wr.heap.size rfl (.tmp 47) (.tmp 51) 31 3 (.int .i64 0) 8 rfl Try.underlying31 info3 rfl (by decide) (by omega) v47 [] wl _ _ _ (fun _ => True) (fun _ => False) rfl rfl ?aO ?aR (fun _ _ h => h) (fun _ h => h.elim) ?aF ?aB ?aS ?aL ?_; (case aR => exact (row_C (blk_below HTB.out.p HB.out) HWL.out (by have := HN.out.lv.n; omega))); (case aB => exact (xW HB)); (case aF => exact (fun _ _ => trivial)); (case aO => exact HO4.out); (case aS => exact (below_size (xW HB))); (case aL => have := HWL.out; have := HN.out.lv.n; simp; omega); intro v52 w5 ho hb hg hat; rw [List.nil_append] at ho; obtain ⟨B5, c5, rfl⟩ := Kd.R_slice ho; have HO := xm ho; replace HB := xm hb; clear HO4; clear ho hb hg hat; replace hz := blkc4 (blk_below HTB.out.s HB.out)))
            (try simp only [Exit.inBlock, Exit.then]); refine bodyPost_ret (results_none rfl _ _ _) rfl ?_
            have HQ : BestV g gp l.length w5 (some wl) (.slice B5 wl.length c5) := ⟨Kd.R_lower (Kd.R_mono (Kd.R_bound HO.out) (fun k hk => ⟨by have := hk.2.1; have := HGS.out.1; omega, by have := hk.2.1; have := HGS.out.2; omega⟩)) (Nat.zero_le _), HWL.out⟩
            exact ⟨⟨_, rfl⟩, _, (HTB.out.below HB.out).got HN.out c HQ⟩
          have hfl : Swiss.first wl < wl.length := by have := HFI.out.1; have := HWL.out; omega
          have hfi := HFI.out.2 hfl
          subst hi
          have hst := HST2.out
          rw [if_neg hfn] at hst
          have HST3 := xm hst
          clear hst HST2 HFI HI HD
          generalize Swiss.first wl = i at HST3 HJ hfn hfi hfl
          have hrd : rd wl b = -2 := by rw [HJ.out, getD_rd]; exact hfi
          have HI := xm (And.intro hfl hfi)
          have hj0 : 0 ≤ b := by have := HJ.out; omega
          have hj1 : b < (l.length : Int) := by have := HJ.out; have := HWL.out; omega
          have H0B := xm (And.intro hj0 hj1)
          have q1 : decide (b < (l.length : Int)) = true := decide_eq_true hj1
          have hneq : (b == (l.length : Int)) = false := beq_eq_false_iff_ne.mpr (by omega)
          have hy := (row_cell HTB.out.p hj0 (by have := HWL.out; omega)).1
          rw [hrd] at hy
          obtain ⟨bn, hbn⟩ : ∃ bn : Int, IntKind.i64.wrap (b + 1) = bn := ⟨_, rfl⟩
          have HBN : Aside0 (bn = ((i + 1 : Nat) : Int)) := ⟨by rw [← hbn, HJ.out, i64_w]; have := HWL.out; have := HN.out.lv.n; unfold wrap64; omega⟩
          clear hfl hfi hfn hrd
          replace hj0 := eq_true hj0
          replace hj1 := eq_true hj1
          go_upto_region 7 with fail
          clear hz hy hneq q1 hbn
          obtain ⟨st2, hst2⟩ : ∃ st2, Swiss.tryJ (sysL l) f wl c i (i + 1) (l.length - (i + 1)) (bo, x) = st2 := ⟨_, rfl⟩
          have HT2 := xm hst2
          have HST4 := HST3.out
          rw [hst2] at HST4
          replace HST4 := xm HST4
          clear hst2 HST3
          go_loopg [5] (l.length - (i + 1)) (fun kq v5 w' => ∃ (a : Nat) (b' x' : Int) (bo' : Option (List Int)) (bv' : Value), v5 = .int .i64 b' ∧ Aside0 (b' = (a : Int)) ∧ Aside0 (a + kq = l.length ∧ i + 1 ≤ a) ∧ Aside0 (Swiss.tryJ (sysL l) f wl c i a kq (bo', x') = st2) ∧ Aside0 (TB w0 g gp A cl l wl bo' x' bv' w'))
          case atStart => exact ⟨i + 1, bn, x, bo, bv, rfl, HBN, ⟨by have := HI.out.1; have := HWL.out; omega⟩, HT2, HTB⟩
          case round =>
            clear HTB HT2 HBN
            obtain ⟨a, b', x', bo', bv', rfl, HJ2, HI2, HT2, HTB⟩ := hrel
            have hz := blkc4 HTB.out.s
            by_cases hi2 : a = l.length
            rotate_left
            · obtain ⟨k1, rfl⟩ : ∃ k1, gk = k1 + 1 := ⟨gk - 1, by have := HI2.out; omega⟩
              have q2 : decide (b' < (l.length : Int)) = true := decide_eq_true (by have := HJ2.out; have := HI2.out; omega)
              have hk0 : 0 ≤ b' := by have := HJ2.out; omega
              have hk1 : b' < (l.length : Int) := by have := HJ2.out; have := HI2.out; omega
              have H1B := xm (And.intro hk0 hk1)
              obtain ⟨bm, hbm⟩ : ∃ bm : Int, IntKind.i64.wrap (b' + 1) = bm := ⟨_, rfl⟩
              have HBM : Aside0 (bm = ((a + 1 : Nat) : Int)) := ⟨by rw [← hbm, HJ2.out, i64_w]; have := HI2.out; have := HN.out.lv.n; unfold wrap64; omega⟩
              have hT := HT2.out
              rw [Swiss.tryJ] at hT
              have HT3 := xm hT
              clear hT HT2
              obtain ⟨tk, htk⟩ : ∃ tk, decide (wl.getD a 0 = -2 ∧ (sysL l).met i a = false) = tk := ⟨_, rfl⟩
              have HTK := xm htk
              clear htk
              replace hk0 := eq_true hk0
              replace hk1 := eq_true hk1
              go_upto_region 9 with fail
              go_cut [86] (fun v86 wc => v86 = .bool tk ∧ Aside0 (TB w0 g gp A cl l wl bo' x' bv' wc))
              case first =>
                have hy := (row_cell HTB.out.p H1B.out.1 (by have := HWL.out; have := H1B.out.2; omega)).1
                obtain ⟨o, ho⟩ : ∃ o, rd wl b' = o := ⟨_, rfl⟩
                have HO : Aside0 (wl.getD a 0 = o) := ⟨by rw [← getD_rd, ← HJ2.out]; exact ho⟩
                rw [ho] at hy
                clear ho
                by_cases hoe : o = -2
                · have hob := beq_iff_eq.mpr hoe
                  obtain ⟨ct, hct⟩ : ∃ ct, cntO b' (rd_T33 l b).f1 = ct := ⟨_, rfl⟩
                  have HCT := xm hct
                  have hmet : (sysL l).met i a = !(ct == 0) := by rw [← hct, HJ.out, HJ2.out]; rfl
                  clear hct
                  by_cases hcz : ct = 0
                  · have hcb := beq_iff_eq.mpr hcz
                    have hP : tk = true := by rw [← HTK.out]; exact decide_eq_true ⟨HO.out.trans hoe, by rw [hmet, hcb]; rfl⟩
                    subst hP
                    clear hmet HTK
                    go_wp2_with ((with_reducible refine gate_callee (f := 30) rfl ?_); (try (refine gate_guard (by rfl) ?_; dsimp only)); refine xL (some 84) Try.func30 #[.slice A l.length cl, .int .i64 b, .int .i64 b'] rfl ?_; refine (times_any l _ (HN.out.li.below HTB.out.b) HN.out.lv b b' H0B.out.1 H0B.out.2).mono ?_; rintro e w2 ⟨rfl, hb⟩; rw [HCT.out]; refine ⟨_, rfl, ?_⟩; replace HTB := xm (HTB.out.below hb); clear hb)
                    go_meet
                    case rel => exact ⟨xrf, HTB⟩
                  · have hcb := beq_eq_false_iff_ne.mpr hcz
                    have hP : tk = false := by rw [← HTK.out]; exact decide_eq_false (fun h => by have := h.2; rw [hmet, hcb] at this; cases this)
                    subst hP
                    clear hmet HTK
                    go_wp2_with ((with_reducible refine gate_callee (f := 30) rfl ?_); (try (refine gate_guard (by rfl) ?_; dsimp only)); refine xL (some 84) Try.func30 #[.slice A l.length cl, .int .i64 b, .int .i64 b'] rfl ?_; refine (times_any l _ (HN.out.li.below HTB.out.b) HN.out.lv b b' H0B.out.1 H0B.out.2).mono ?_; rintro e w2 ⟨rfl, hb⟩; rw [HCT.out]; refine ⟨_, rfl, ?_⟩; replace HTB := xm (HTB.out.below hb); clear hb)
                    go_meet
                    case rel => exact ⟨xrf, HTB⟩
                · have hob := beq_eq_false_iff_ne.mpr hoe
                  have hP : tk = false := by rw [← HTK.out]; exact decide_eq_false (fun h => hoe (HO.out.symm.trans h.1))
                  subst hP
                  clear HTK
                  go_wp2
                  go_meet
                  case rel => exact ⟨xrf, HTB⟩
              case rest =>
                clear HTB hz
                obtain ⟨rfl, HTB⟩ := hcut
                cases tk with
                | false =>
                  have HT4 : Aside0 (Swiss.tryJ (sysL l) f wl c i (a + 1) k1 (bo', x') = st2) := ⟨by have h := HT3.out; rw [if_neg (of_decide_eq_false HTK.out)] at h; exact h⟩
                  go_wp2
                  go_roundg k1
                  case measure => omega
                  case rel => exact ⟨a + 1, bm, x', bo', bv', (xrf), HBM, ⟨by have := HI2.out; omega⟩, HT4, HTB⟩
                | true =>
                  have htk := of_decide_eq_true HTK.out
                  have HT4 : Aside0 (Swiss.tryJ (sysL l) f wl c i (a + 1) k1 (Swiss.tryF (sysL l) f (Swiss.put2 wl i a) (c + (sysL l).cst i a) (bo', x')) = st2) := ⟨by have h := HT3.out; rw [if_pos htk] at h; exact h⟩
                  have HGA := xm htk.1
                  clear htk HT3 HTK
                  go_upto_region 10 with fail
                  have HTD := xm (HTB.out.below (below_drew1 (Below.refl _ _)))
                  have zP := yB (xm HTD.out.s) 1
                  refine start_ (n := 16) (S := Cells [(⟨g, 1, none⟩, .slice (some ⟨gp, 0, none⟩) l.length l.length)]) (ds := [13, 15]) (mk 16 0) (by kernel_rfl) rfl rfl ⟨zP, trivial⟩ (fun hHeld => ?_)
                  refine with_tabW sw_try.tab10 sw_try.bits10 (fun HT_ HW_ => ?_)
                  clear zP HTB
                  generalize wc.drew = wd at HTD hHeld ⊢
                  refine pu_ 0 87 HT_ ?_; refine pu_ 1 88 HT_ ?_; refine pu_ 2 89 HT_ ?_; refine tc_ 3 90 HT_ HW_ hHeld ?_
                  refine pu_ 4 91 HT_ ?_; refine pu_ 5 92 HT_ ?_; refine pu_ 6 93 HT_ ?_; refine pu_ 7 94 HT_ ?_; refine tc_ 8 95 HT_ HW_ hHeld ?_
                  refine pu_ 9 96 HT_ ?_; refine pu_ 10 97 HT_ ?_; refine pu_ 11 98 HT_ ?_; refine pu_ 12 99 HT_ ?_
                  have hy1 := row_cell HTD.out.p H0B.out.1 (by have := HWL.out; have := H0B.out.2; omega)
                  have hy2 := row_cell HTD.out.p H1B.out.1 (by have := HWL.out; have := H1B.out.2; omega)
                  refine last_ (i := 13) (N := none) (mk 16 16383) rfl rfl (one_of HT_.out (by kernel_rfl)) (by decide) (fun K hK => ?_)
                  refine skip_ (w1 := wd.setCell ⟨gp, b.toNat, none⟩ (.int .i64 b')) (by rfl) rfl (by first | (go_simp; done) | (go_simp; rfl)) ?_
                  refine hK.out _ _ ?_; clear hK K
                  refine norm_ (a' := ?_) ?_ ?_; rotate_left; (· rfl)
                  have HTE := xm (HTD.out.put HN.out b.toNat b')
                  clear HTD hHeld hy1 hy2
                  generalize (wd.setCell ⟨gp, b.toNat, none⟩ (.int .i64 b')) = we at HTE ⊢
                  have hy2 := row_cell HTE.out.p H1B.out.1 (by rw [List.length_set]; have := HWL.out; have := H1B.out.2; omega)
                  refine pu_ 14 100 HT_ ?_
                  refine last_ (i := 15) (N := none) (mk 16 65535) rfl rfl (one_of HT_.out (by kernel_rfl)) (by decide) (fun K hK => ?_)
                  refine skip_ (w1 := we.setCell ⟨gp, b'.toNat, none⟩ (.int .i64 b)) (by rfl) rfl (by first | (go_simp; done) | (go_simp; rfl)) ?_
                  refine hK.out _ _ ?_; clear hK K
                  refine norm_ (a' := ?_) ?_ ?_; rotate_left; (· rfl)
                  refine done_ (done_of HT_.out (by kernel_rfl)) ?_
                  have hput : (wl.set b.toNat b').set b'.toNat b = Swiss.put2 wl i a := by unfold Swiss.put2; rw [HJ.out, HJ2.out, Int.toNat_natCast, Int.toNat_natCast]
                  have HT10 : Aside0 (TB w0 g gp A cl l (Swiss.put2 wl i a) bo' x' bv' (we.setCell ⟨gp, b'.toNat, none⟩ (.int .i64 b))) := ⟨by rw [← hput]; exact HTE.out.put HN.out _ _⟩
                  clear hput HTE hy2
                  generalize (we.setCell ⟨gp, b'.toNat, none⟩ (.int .i64 b)) = w10 at HT10 ⊢
                  have hia : i < l.length ∧ a < l.length ∧ i ≠ a := ⟨by have := HI.out.1; have := HWL.out; omega, by have := HI2.out; omega, by have := HI2.out; omega⟩
                  have HIA := xm hia
                  have hcin := cst_in HN.out.lv i a hia.1 hia.2.1
                  have hun := Swiss.un_put2 wl i a HI.out.2 HGA.out hia.2.2 HI.out.1 (by have := HWL.out; omega)
                  obtain ⟨c2, hc2⟩ : ∃ c2, c + (sysL l).cst i a = c2 := ⟨_, rfl⟩
                  rw [hc2] at HT4
                  have hc3 : c + cstL l i a = c2 := hc2
                  have HC2 : Aside0 (0 ≤ c2 ∧ c2 + 200000 * (Swiss.un (Swiss.put2 wl i a) : Int) ≤ 10000000) := ⟨by have := HC.out; omega⟩
                  have HUN : Aside0 (Swiss.un (Swiss.put2 wl i a) < f) := ⟨by have := HF.out; omega⟩
                  have hw2 : IntKind.i64.wrap (c + cstL l i a) = c2 := by rw [i64_w, hc3]; have := HC2.out; exact w64i (by omega) (by omega)
                  clear hia hcin hun hc2 hc3
                  have hz := blkc4 HT10.out.s
                  go_upto_region 12 with (first
                    | ((with_reducible refine gate_callee (f := 29) rfl ?_); refine xL (some 109) Try.func29 #[.slice A l.length cl, .int .i64 b, .int .i64 b'] rfl ?_; refine (swiss_cost.calls A cl l b b' (cstL l i a) _ (HN.out.li.below HT10.out.b).g HN.out.li.n (by rw [HJ.out, HJ2.out]; exact cost_f HN.out.lv i a HIA.out.1 HIA.out.2.1)).mono ?_; rintro e w2 ⟨rfl, hd⟩; have hb := hd.below; refine ⟨_, rfl, ?_⟩; replace HT10 := xm (HT10.out.below hb); clear hb hd)
                    | ((with_reducible refine gate_callee (f := 27) rfl ?_); refine xL (some 111) Try.func27 #[.pointer (some ⟨g, 0, none⟩), .int .i64 c2] rfl ?_; refine (IH.out _ (Swiss.put2 wl i a) c2 bo' x' bv' HUN.out (by rw [Swiss.put2_len]; exact HWL.out) HC2.out.1 HC2.out.2 HT10.out).mono ?_; rintro e w11 ⟨⟨v, rfl⟩, bv2, hT10⟩; refine ⟨v, rfl, ?_⟩; replace HT10 := xm hT10; clear hT10))
                  clear hz
                  have HTD := xm (HT10.out.below (below_drew1 (Below.refl _ _)))
                  have zP := yB (xm HTD.out.s) 1
                  refine start_ (n := 14) (S := Cells [(⟨g, 1, none⟩, .slice (some ⟨gp, 0, none⟩) l.length l.length)]) (ds := [11, 13]) (mk 14 0) (by kernel_rfl) rfl rfl ⟨zP, trivial⟩ (fun hHeld => ?_)
                  refine with_tabW sw_try.tab12 sw_try.bits12 (fun HT_ HW_ => ?_)
                  clear zP HT10
                  generalize w11.drew = wd at HTD hHeld ⊢
                  refine pu_ 0 112 HT_ ?_; refine pu_ 1 113 HT_ ?_; refine pu_ 2 114 HT_ ?_; refine tc_ 3 115 HT_ HW_ hHeld ?_
                  refine pu_ 4 116 HT_ ?_; refine pu_ 5 117 HT_ ?_; refine pu_ 6 118 HT_ ?_; refine pu_ 7 119 HT_ ?_; refine tc_ 8 120 HT_ HW_ hHeld ?_
                  refine pu_ 9 121 HT_ ?_; refine pu_ 10 122 HT_ ?_
                  have hlen2 : (Swiss.put2 wl i a).length = l.length := by rw [Swiss.put2_len]; exact HWL.out
                  have hy1 := row_cell HTD.out.p H0B.out.1 (by have := H0B.out.2; omega)
                  have hy2 := row_cell HTD.out.p H1B.out.1 (by have := H1B.out.2; omega)
                  clear hlen2
                  refine last_ (i := 11) (N := none) (mk 14 4095) rfl rfl (one_of HT_.out (by kernel_rfl)) (by decide) (fun K hK => ?_)
                  refine skip_ (w1 := wd.setCell ⟨gp, b.toNat, none⟩ (.int .i64 (-2))) (by rfl) rfl (by first | (go_simp; done) | (go_simp; rfl)) ?_
                  refine hK.out _ _ ?_; clear hK K
                  refine norm_ (a' := ?_) ?_ ?_; rotate_left; (· rfl)
                  have HTE := xm (HTD.out.put HN.out b.toNat (-2))
                  clear HTD hHeld hy1 hy2
                  generalize (wd.setCell ⟨gp, b.toNat, none⟩ (.int .i64 (-2))) = we at HTE ⊢
                  have hy2 := row_cell HTE.out.p H1B.out.1 (by rw [List.length_set, Swiss.put2_len]; have := HWL.out; have := H1B.out.2; omega)
                  refine pu_ 12 123 HT_ ?_
                  refine last_ (i := 13) (N := none) (mk 14 16383) rfl rfl (one_of HT_.out (by kernel_rfl)) (by decide) (fun K hK => ?_)
                  refine skip_ (w1 := we.setCell ⟨gp, b'.toNat, none⟩ (.int .i64 (-2))) (by rfl) rfl (by first | (go_simp; done) | (go_simp; rfl)) ?_
                  refine hK.out _ _ ?_; clear hK K
                  refine norm_ (a' := ?_) ?_ ?_; rotate_left; (· rfl)
                  refine done_ (done_of HT_.out (by kernel_rfl)) ?_
                  have hback : ((Swiss.put2 wl i a).set b.toNat (-2)).set b'.toNat (-2) = wl := by rw [HJ.out, HJ2.out, Int.toNat_natCast, Int.toNat_natCast]; exact Swiss.put2_back wl i a HI.out.2 HGA.out HI.out.1 (by have := HWL.out; have := HIA.out; omega)
                  have HT12 : Aside0 (TB w0 g gp A cl l wl _ _ bv2 (we.setCell ⟨gp, b'.toNat, none⟩ (.int .i64 (-2)))) := ⟨by have h := HTE.out.put HN.out b'.toNat (-2); rw [hback] at h; exact h⟩
                  clear hback HTE hy2
                  generalize (we.setCell ⟨gp, b'.toNat, none⟩ (.int .i64 (-2))) = w13 at HT12 ⊢
                  go_wp2
                  go_roundg k1
                  case measure => omega
                  case rel => exact ⟨a + 1, bm, _, _, bv2, (xrf), HBM, ⟨by have := HI2.out; omega⟩, HT4, HT12⟩
            have hlt : decide (b' < (l.length : Int)) = false := decide_eq_false (by have := HJ2.out; omega)
            have hT := HT2.out
            rw [show gk = 0 by have := HI2.out; omega, Swiss.tryJ] at hT
            subst hT
            clear HT2 HI2 HJ2 hi2
            obtain ⟨ad, A1, c1, e, z0, z1, z2, z3, zl, zc⟩ := at_T33 HN.out.li.g b H0B.out.1 H0B.out.2
            cases e
            replace z3 := xR (xm HTB.out.b) z3
            obtain ⟨yb, hyb⟩ : ∃ yb, (rd_T33 l b).f3 = yb := ⟨_, rfl⟩
            have HYB : Aside0 ((sysL l).byeB i = yb) := ⟨by rw [← hyb, HJ.out]; rfl⟩
            rw [hyb] at z3
            clear z0 z1 z2 zl zc hyb
            cases yb with
            | true =>
              have hst := HST4.out
              rw [if_neg (fun h => by rw [HYB.out] at h; cases h.1)] at hst
              subst hst
              clear HST4
              go_wp2
              go_end0
              exact ⟨⟨_, rfl⟩, _, HTB.out⟩
            | false =>
              obtain ⟨fr, hfr⟩ : ∃ fr, frB l wl = fr := ⟨_, rfl⟩
              have HFR := xm hfr
              clear hfr
              cases fr with
              | false =>
                have hst := HST4.out
                rw [if_neg (fun h => of_decide_eq_false HFR.out h.2)] at hst
                subst hst
                clear HST4
                go_wp2_with ((with_reducible refine gate_callee (f := 43) rfl ?_); (try (refine gate_guard (by rfl) ?_; dsimp only)); refine xL (some 135) Try.func43 #[.pointer (some ⟨g, 0, none⟩)] rfl ?_; refine (free_any l _ g gp bv' x' wl HTB.out.s HTB.out.p HWL.out HN.out.lv).mono ?_; rintro e w2 ⟨rfl, hb⟩; rw [HFR.out]; refine ⟨_, rfl, ?_⟩; replace HTB := xm (HTB.out.below hb); clear hb)
                go_end0
                exact ⟨⟨_, rfl⟩, _, HTB.out⟩
              | true =>
                have hst := HST4.out
                rw [if_pos ⟨HYB.out, of_decide_eq_true HFR.out⟩] at hst
                have HST5 := xm hst
                clear hst HST4
                go_upto_region 14 with ((with_reducible refine gate_callee (f := 43) rfl ?_); (try (refine gate_guard (by rfl) ?_; dsimp only)); refine xL (some 135) Try.func43 #[.pointer (some ⟨g, 0, none⟩)] rfl ?_; refine (free_any l _ g gp bv' x' wl HTB.out.s HTB.out.p HWL.out HN.out.lv).mono ?_; rintro e w2 ⟨rfl, hb⟩; rw [HFR.out]; refine ⟨_, rfl, ?_⟩; replace HTB := xm (HTB.out.below hb); clear hb)
                clear hz z3
                have hz := blkc4 HTB.out.s
                have hy1 := row_cell HTB.out.p H0B.out.1 (by have := HWL.out; have := H0B.out.2; omega)
                go_upto_region 15 with fail
                have hset : wl.set b.toNat (-1) = wl.set i (-1) := by rw [HJ.out, Int.toNat_natCast]
                have HT10 : Aside0 (TB w0 g gp (some ad) cl l (wl.set i (-1)) bo' x' bv' (w2.setCell ⟨gp, b.toNat, none⟩ (.int .i64 (-1)))) := ⟨by rw [← hset]; exact HTB.out.put HN.out _ _⟩
                clear hset HTB hz hy1
                generalize (w2.setCell ⟨gp, b.toNat, none⟩ (.int .i64 (-1))) = w10 at HT10 ⊢
                have hia : i < l.length := by have := HI.out.1; have := HWL.out; omega
                have HIA := xm hia
                have hcin := bye_in HN.out.lv i hia
                have hun := Swiss.un_set wl i (-1) HI.out.1 HI.out.2 (by decide)
                obtain ⟨c2, hc2⟩ : ∃ c2, c + (sysL l).byeC i = c2 := ⟨_, rfl⟩
                rw [hc2] at HST5
                have hc3 : c + byeL l i = c2 := hc2
                have HC2 : Aside0 (0 ≤ c2 ∧ c2 + 200000 * (Swiss.un (wl.set i (-1)) : Int) ≤ 10000000) := ⟨by have := HC.out; omega⟩
                have HUN : Aside0 (Swiss.un (wl.set i (-1)) < f) := ⟨by have := HF.out; omega⟩
                have hw2 : IntKind.i64.wrap (c + byeL l i) = c2 := by rw [i64_w, hc3]; have := HC2.out; exact w64i (by omega) (by omega)
                clear hia hcin hun hc2 hc3
                have hz := blkc4 HT10.out.s
                go_upto_region 16 with (first
                  | ((with_reducible refine gate_callee (f := 44) rfl ?_); refine xL (some 150) Try.func44 #[.slice (some ad) l.length cl, .int .i64 b] rfl ?_; refine (swiss_bye.calls (some ad) cl l b (byeL l i) _ (HN.out.li.below HT10.out.b).g HN.out.li.n (by rw [HJ.out]; exact bye_f HN.out.lv i HIA.out)).mono ?_; rintro e w2 ⟨rfl, hd⟩; have hb := hd.below; refine ⟨_, rfl, ?_⟩; replace HT10 := xm (HT10.out.below hb); clear hb hd)
                  | ((with_reducible refine gate_callee (f := 27) rfl ?_); refine xL (some 152) Try.func27 #[.pointer (some ⟨g, 0, none⟩), .int .i64 c2] rfl ?_; refine (IH.out _ (wl.set i (-1)) c2 bo' x' bv' HUN.out (by rw [List.length_set]; exact HWL.out) HC2.out.1 HC2.out.2 HT10.out).mono ?_; rintro e w11 ⟨⟨v, rfl⟩, bv2, hT10⟩; refine ⟨v, rfl, ?_⟩; replace HT10 := xm hT10; clear hT10))
                clear hz
                have hz := blkc4 HT10.out.s
                have hy1 := row_cell HT10.out.p H0B.out.1 (by rw [List.length_set]; have := HWL.out; have := H0B.out.2; omega)
                go_wp2
                go_end0
                have hback : (wl.set i (-1)).set b.toNat (-2) = wl := by rw [HJ.out, Int.toNat_natCast]; exact Swiss.set_back wl i (-1) HI.out.2 HI.out.1
                have h := HT10.out.put HN.out b.toNat (-2)
                rw [hback, HST5.out] at h
                exact ⟨⟨_, rfl⟩, _, h⟩
end Go.Proofs.Ytemfkhafkhkffaa.PSwissPairs
