/- gamehalllaw3.able, by hand: whether a player might still win. -/
import Derived.Test.YtkpphlimnnifkaaPieces
import Derived.Test.YtkpphlimnnifkaaClo
namespace Go.Proofs.Ytkpphlimnnifkaa.PClaimFalls
open Go.RowKit Go.Proofs.YtkpphlimnnifkaaW.PrintWords Go.Proofs.YtkpphlimnnifkaaW.PrintLast Go.Proofs.YtkpphlimnnifkaaW.PrintMore
set_option maxHeartbeats 4000000
set_option maxRecDepth 100000
set_option linter.unusedVariables false
set_option linter.unusedSimpArgs false
theorem row_cell {w : World} {g : Nat} {t : TypeId} {hv : List Int} {i : Int} (h : w.heap[g]? = some (.cells ⟨hv.map (Value.int .i64)⟩ t (0, 0))) (h0 : 0 ≤ i) (h1 : i < (hv.length : Int)) : w.cell? ⟨g, i.toNat, none⟩ = some (.int .i64 (rd hv i)) ∧ w.frozen? ⟨g, i.toNat, none⟩ = false := by
  refine ⟨?_, blk_frozen h _⟩
  rw [blk_cell h]
  have hn : i.toNat < hv.length := by omega
  simp [rd, List.getD_eq_getElem?_getD, hn]
theorem row_set {w : World} {g : Nat} {t : TypeId} {hv : List Int} (h : w.heap[g]? = some (.cells ⟨hv.map (Value.int .i64)⟩ t (0, 0))) (i : Nat) (v : Int) : (w.setCell ⟨g, i, none⟩ (.int .i64 v)).heap[g]? = some (.cells ⟨(hv.set i v).map (Value.int .i64)⟩ t (0, 0)) := by
  rw [blk_set h, List.map_set]; simp
theorem rob_cell {w : World} {g : Nat} {t : TypeId} {hv : List Bool} {i : Nat} (h : w.heap[g]? = some (.cells ⟨hv.map Value.bool⟩ t (0, 0))) (h1 : i < hv.length) : w.cell? ⟨g, i, none⟩ = some (.bool (hv.getD i false)) ∧ w.frozen? ⟨g, i, none⟩ = false := by
  refine ⟨?_, blk_frozen h _⟩
  rw [blk_cell h]
  simp [List.getD_eq_getElem?_getD, h1]
theorem rob_set {w : World} {g : Nat} {t : TypeId} {hv : List Bool} (h : w.heap[g]? = some (.cells ⟨hv.map Value.bool⟩ t (0, 0))) (i : Nat) (v : Bool) : (w.setCell ⟨g, i, none⟩ (.bool v)).heap[g]? = some (.cells ⟨(hv.set i v).map Value.bool⟩ t (0, 0)) := by
  rw [blk_set h, List.map_set]; simp
def bump (h : List Int) (k n : Int) : List Int := h.set k.toNat (wrap64 (rd h k + n))
theorem bump_len (h : List Int) (k n : Int) : (bump h k n).length = h.length := by simp [bump]
def haveC (pl : Int) : List Int → List Int → List Int
  | [], h => h
  | c :: cs, h => haveC pl cs (if ownC c = pl then bump h (kindC c) 1 else h)
def haveH : Int → List Int → List Int → List Int
  | _, [], h => h
  | k, n :: ns, h => haveH (k + 1) ns (bump h k n)
def tkG (n : Int) : List S106 → Bool → Bool
  | [], b => b
  | x :: xs, b => tkG n xs (b || (decide (n > 0) && decide (x.f3 > 0)))
def allF (hv : List Int) : Int → List S104 → Int → Bool → Int × Bool
  | _, [], a, b => (a, b)
  | k, y :: ys, a, b => allF hv (k + 1) ys (wrap64 (a + rd hv k)) (tkG (rd hv k) y.f3 b)
/-- what a type becomes (a number plus 1), as a natural number -/
def prL (L : List S104) (k : Nat) : Nat := (rd_T104 L (k : Int)).f2.toNat
def updF (L : List S104) : Nat → Nat → List Bool → List Bool
  | 0, _, f => f
  | d + 1, i, f => updF L d (i + 1) (Clo.upd (prL L) f i)
def rndF (L : List S104) (n : Nat) : Nat → List Bool → List Bool
  | 0, f => f
  | d + 1, f => rndF L n d (updF L n 0 f)
def someF (hv : List Int) (f : List Bool) : Nat → Nat → Int → Int
  | 0, _, s => s
  | d + 1, i, s => someF hv f d (i + 1) (if f.getD i false = true then wrap64 (s + rd hv (i : Int)) else s)
def outB (g : Bool) (a s : Int) (q : S98) (o : Bool) : Bool := o || (q.f3 || ((decide (q.f0 = 0) && (decide (a ≥ q.f2) || g)) || ((decide (q.f0 = 1) && (decide (s > 0) || g)) || decide (q.f0 = 2))))
def fromL (L : List S104) (q : S98) : List Bool := rndF L L.length L.length ((List.replicate 6 false).set q.f1.toNat true)
def endsF (L : List S104) (hv : List Int) (g : Bool) (a : Int) : List S98 → Bool → Bool
  | [], o => o
  | q :: qs, o => endsF L hv g a qs (outB g a (someF hv (fromL L q) L.length 0 0) q o)
def haveV (p : S41) (pl : Int) : List Int := haveH 0 (handOf p pl) (haveC pl p.f0 (List.replicate 6 0))
def ableV (r : S26) (p : S41) (pl : Int) : Bool := endsF r.f3 (haveV p pl) (r.f6 && (allF (haveV p pl) 0 r.f3 0 false).2) (allF (haveV p pl) 0 r.f3 0 false).1 r.f7 (r.f8 != 2)
theorem drop_pc (xs : List S104) (s : Nat) (h : s < xs.length) : xs.drop s = rd_T104 xs (s : Int) :: xs.drop (s + 1) := by
  rw [List.drop_eq_getElem_cons h, show rd_T104 xs (s : Int) = xs[s] by simp [rd_T104, List.getD_eq_getElem?_getD, h]]
theorem drop_qe (xs : List S98) (s : Nat) (h : s < xs.length) : xs.drop s = rd_T98 xs (s : Int) :: xs.drop (s + 1) := by
  rw [List.drop_eq_getElem_cons h, show rd_T98 xs (s : Int) = xs[s] by simp [rd_T98, List.getD_eq_getElem?_getD, h]]
structure EVal (l : List S98) : Prop where
  len : l.length ≤ 1000
  pc : ∀ j : Int, 0 ≤ j → j < (l.length : Int) → 0 ≤ (rd_T98 l j).f1 ∧ (rd_T98 l j).f1 < 6
theorem own_pos {c pl : Int} (h0 : 0 ≤ c) (h1 : c ≤ 100) (hp : 0 ≤ pl) (ho : ownC c = pl) : 0 < c ∧ wrap64 (c - 1) = c - 1 ∧ Int.tmod (c - 1) 2 = pl := by
  unfold ownC at ho
  have hc : c ≠ 0 := fun e => by rw [if_pos e] at ho; omega
  have e1 : wrap64 (c - 1) = c - 1 := by unfold wrap64; omega
  rw [if_neg hc, e1] at ho
  exact ⟨by omega, e1, ho⟩
theorem own_neg {c pl : Int} (hc : c ≠ 0) (h0 : 0 ≤ c) (h1 : c ≤ 100) (ho : ¬ ownC c = pl) : wrap64 (c - 1) = c - 1 ∧ ¬ Int.tmod (c - 1) 2 = pl := by
  unfold ownC at ho
  have e1 : wrap64 (c - 1) = c - 1 := by unfold wrap64; omega
  rw [if_neg hc, e1] at ho
  exact ⟨e1, ho⟩
theorem able_any (r : S26) (p : S41) {A3 : Option Addr} {c3 : Nat} {A4 : Option Addr} {c4 : Nat} {A7 : Option Addr} {c7 : Nat} {P0 : Option Addr} {d0 : Nat} {P1 : Option Addr} {d1 : Nat} {P2 : Option Addr} {d2 : Nat} (w : World) (hr : RIn w A3 c3 A4 c4 A7 c7 r) (hp : PIn w P0 d0 P1 d1 P2 d2 p) (hv : PVal r.f3) (pl : Int) (hq : QVal r.f3 p pl) (he : EVal r.f7) (x : Bool) (hx : ableV r p pl = x) :
    Calls Try.prog 26 #[.agg (rulesV A3 c3 A4 c4 A7 c7 r).toArray, .agg #[.slice P0 p.f0.length d0, .slice P1 p.f1.f0.length d1, .slice P2 p.f1.f1.length d2, .int .i64 p.f2, .int .i64 p.f3], .int .i64 pl] w fun e w' => e = .returned (.bool x) ∧ Below w.heap.size w w' := by
  have hu26 := Try.underlying26
  have hu41 := Try.underlying41
  have hu39 := Try.underlying39
  have hu101 := Try.underlying101
  have hu107 := Try.underlying107
  have hu104 := Try.underlying104
  have hu106 := Try.underlying106
  have hu98 := Try.underlying98
  have hu22 := Try.underlying22
  have HR := xm hr
  have HP := xm hp
  have HV := xm hv
  have HQ := xm hq
  have HE := xm he
  have HX := xm hx
  clear hr hp hv hq he hx
  have HB := xm (Below.refl w.heap.size w)
  have hss_ := @isSome_setCell
  unfold rulesV
  go_enter Try.func26, Try.ntmps26
  go_upto_region 1 with (first
      | ((with_reducible refine gate_dst (N := 3) rfl ?_); refine xG (cs := #[.string r.f0, .int .i64 r.f1, .int .i64 r.f2, .slice A3 r.f3.length c3, .slice A4 r.f4.length c4, .bool r.f5, .bool r.f6, .slice A7 r.f7.length c7, .int .i64 r.f8, .int .i64 r.f9, .int .i64 r.f10]) (t := 26) ?_; intro gr hg w1 hbox hb; have BR := xm hbox; replace HB := xS HB hb; clear hb hbox hg)
      | ((with_reducible refine gate_dst (N := 4) rfl ?_); refine xG (cs := #[.slice P0 p.f0.length d0, .slice P1 p.f1.f0.length d1, .slice P2 p.f1.f1.length d2, .int .i64 p.f2, .int .i64 p.f3]) (t := 41) ?_; intro gp hg w2 hbox hb; have BP := xm hbox; replace BR := xB BR hb; replace HB := xS HB hb; clear hb hbox hg))
  have B02 : Aside0 (Below w.heap.size w w2) := HB
  have HR2 := xm (HR.out.below HB.out)
  have HP2 := xm (HP.out.below HB.out)
  have BR2 := xm BR.out
  have BP2 := xm BP.out
  have W2 : Aside0 (Below w2.heap.size w2 w2) := ⟨Below.refl _ _⟩
  clear HR HP HB BR BP
  go_upto_region 2 with ((with_reducible refine gate_dst (N := 7) rfl ?_); refine xG (cs := #[.int .i64 0, .int .i64 0, .int .i64 0, .int .i64 0, .int .i64 0, .int .i64 0]) (t := 101) ?_; intro gh hg w3 hbox hb; have BA := xm hbox; have GH := xZ W2 hg; replace W2 := xS W2 hb; clear hb hbox hg)
  have HH : Aside0 (w3.heap[gh]? = some (.cells ⟨(List.replicate 6 0 : List Int).map (Value.int .i64)⟩ 101 (0, 0))) := ⟨BA.out⟩
  obtain ⟨h1, hh1⟩ : ∃ h1, haveC pl p.f0 (List.replicate 6 0) = h1 := ⟨_, rfl⟩
  have HH1 := xm hh1
  clear hh1 BA
  have hz5 := blkc5 (blk_below BP2.out W2.out)
  go_upto_region 3 with fail
  clear hz5
  go_loopg [30] p.f0.length (fun kq v30 w' => ∃ (i : Nat) (j : Int) (hv : List Int), v30 = .int .i64 j ∧ Aside0 (j = (i : Int)) ∧ Aside0 (i + kq = p.f0.length) ∧ Aside0 (hv.length = 6) ∧ Aside0 (haveC pl (p.f0.drop i) hv = h1) ∧ Aside0 (w'.heap[gh]? = some (.cells ⟨(hv : List Int).map (Value.int .i64)⟩ 101 (0, 0))) ∧ Aside0 (Below w2.heap.size w2 w'))
  case atStart => exact ⟨0, 0, _, rfl, ⟨rfl⟩, ⟨by omega⟩, ⟨rfl⟩, HH1, HH, W2⟩
  case round =>
    clear HH W2
    obtain ⟨i, j, hv, rfl, HJ, HI, HL, HT, HH, W2⟩ := hrel
    by_cases hi : i = p.f0.length
    rotate_left
    · obtain ⟨k1, rfl⟩ : ∃ k1, gk = k1 + 1 := ⟨gk - 1, by have := HI.out; omega⟩
      have q1 : decide (j < (p.f0.length : Int)) = true := decide_eq_true (by have := HJ.out; have := HI.out; omega)
      have hj0 : 0 ≤ j := by have := HJ.out; omega
      have hj1 : j < (p.f0.length : Int) := by have := HJ.out; have := HI.out; omega
      obtain ⟨ac, e, y0⟩ := Kd.at_int HP2.out.g0 j hj0 hj1
      cases e
      replace y0 := xR W2 y0
      have hT := HT.out
      rw [drop_int p.f0 i (by have := HI.out; omega), haveC, ← HJ.out] at hT
      have hm := HQ.out.c _ (mem_int p.f0 i (by have := HI.out; omega))
      rw [← HJ.out] at hm
      obtain ⟨c, hc⟩ : ∃ c, rd p.f0 j = c := ⟨_, rfl⟩
      rw [hc] at hT hm y0
      have HM := xm hm
      clear hm hc
      replace hj0 := eq_true hj0
      replace hj1 := eq_true hj1
      obtain ⟨jn, hjn⟩ : ∃ jn : Int, IntKind.i64.wrap (j + 1) = jn := ⟨_, rfl⟩
      have HJN : Aside0 (jn = ((i + 1 : Nat) : Int)) := ⟨by rw [← hjn, HJ.out, i64_w]; have := HI.out; have := HQ.out.cl; unfold wrap64; omega⟩
      by_cases ho : ownC c = pl
      · rw [if_pos ho] at hT
        have HT2 := xm hT
        have HK := xm (kind_in HM.out.1 HM.out.2 (by have := HV.out.len; omega) HQ.out.w ho)
        obtain ⟨o1, o2, o3⟩ := own_pos HM.out.1 (by have := HM.out.2; have := HV.out.len; omega) (by rcases HQ.out.w with e | e <;> omega) ho
        obtain ⟨c1, hc1⟩ : ∃ c1, c - 1 = c1 := ⟨_, rfl⟩
        obtain ⟨kk, hkk⟩ : ∃ kk, kindC c = kk := ⟨_, rfl⟩
        rw [hc1] at o2 o3
        have hw1 : IntKind.i64.wrap (c - 1) = c1 := by rw [i64_w]; rw [hc1]; exact o2
        have hw2 : IntKind.i64.wrap (Int.tdiv c1 2) = kk := by rw [i64_w, ← hkk]; unfold kindC; rw [hc1, o2]
        have hob := beq_iff_eq.mpr o3
        have hoc := decide_eq_true o1
        rw [hkk] at HK HT2
        have hy := row_cell HH.out HK.out.1 (by have := HL.out; have := HK.out.2; have := HV.out.len; omega)
        have p0 : (0 ≤ kk) = True := eq_true HK.out.1
        have p1 : (kk < 6) = True := eq_true (by have := HK.out.2; have := HV.out.len; omega)
        obtain ⟨v, hvv⟩ : ∃ v, wrap64 (rd hv kk + 1) = v := ⟨_, rfl⟩
        have hw3 : IntKind.i64.wrap (rd hv kk + 1) = v := (i64_w _).trans hvv
        have HVV := xm hvv
        clear hT hc1 o1 o2 o3 hkk hvv
        go_wp2
        go_roundg k1
        case measure => omega
        case rel => exact ⟨i + 1, jn, hv.set kk.toNat v, (xrf), HJN, ⟨by have := HI.out; omega⟩, ⟨by rw [List.length_set]; exact HL.out⟩, ⟨by have := HT2.out; unfold bump at this; rw [HVV.out] at this; exact this⟩, ⟨row_set HH.out _ _⟩, ⟨xW W2⟩⟩
      rw [if_neg ho] at hT
      have HT2 := xm hT
      clear hT
      by_cases hc0 : c = 0
      · have hoc : decide (c > 0) = false := decide_eq_false (by omega)
        go_wp2
        go_roundg k1
        case measure => omega
        case rel => exact ⟨i + 1, jn, hv, (xrf), HJN, ⟨by have := HI.out; omega⟩, HL, HT2, HH, W2⟩
      · have hoc : decide (c > 0) = true := decide_eq_true (by have := HM.out.1; omega)
        obtain ⟨o2, o3⟩ := own_neg hc0 HM.out.1 (by have := HM.out.2; have := HV.out.len; omega) ho
        obtain ⟨c1, hc1⟩ : ∃ c1, c - 1 = c1 := ⟨_, rfl⟩
        rw [hc1] at o2 o3
        have hw1 : IntKind.i64.wrap (c - 1) = c1 := by rw [i64_w]; rw [hc1]; exact o2
        have hob := beq_eq_false_iff_ne.mpr o3
        clear hc1 o2 o3
        go_wp2
        go_roundg k1
        case measure => omega
        case rel => exact ⟨i + 1, jn, hv, (xrf), HJN, ⟨by have := HI.out; omega⟩, HL, HT2, HH, W2⟩
    have hlt : decide (j < (p.f0.length : Int)) = false := decide_eq_false (by have := HJ.out; omega)
    have hT := HT.out
    rw [hi, List.drop_length, haveC] at hT
    have H1E := xm hT
    clear hT HT HI HJ hi
    obtain ⟨PH, dh, gph, yh⟩ : ∃ (PH : Option Addr) (dh : Nat), Kd.C (Kd.int .i64) w2 PH (handOf p pl).length (handOf p pl) ∧ wr.cell? ⟨gp, 1 + pl.toNat, none⟩ = some (.slice PH (handOf p pl).length dh) := by
      rcases HQ.out.w with e | e
      · subst e; exact ⟨P1, d1, HP2.out.g1, yB (xm (blk_below BP2.out W2.out)) 1⟩
      · subst e; exact ⟨P2, d2, HP2.out.g2, yB (xm (blk_below BP2.out W2.out)) 2⟩
    have GPH := xm gph
    have p0 : (0 ≤ pl) = True := eq_true (by rcases HQ.out.w with e | e <;> omega)
    have p1 : (pl < 2) = True := eq_true (by rcases HQ.out.w with e | e <;> omega)
    have hhl : (handOf p pl).length ≤ 6 := Nat.le_trans HQ.out.h HV.out.len
    have HHL := xm hhl
    obtain ⟨h2, hh2⟩ : ∃ h2, haveH 0 (handOf p pl) hv = h2 := ⟨_, rfl⟩
    have HH2 := xm hh2
    have HAV : Aside0 (haveV p pl = h2) := ⟨by unfold haveV; rw [HH1.out, ← H1E.out]; exact hh2⟩
    obtain ⟨hs, hhs⟩ : ∃ hs, handOf p pl = hs := ⟨_, rfl⟩
    rw [hhs] at GPH HHL HH2 yh
    clear hhl hh2 gph
    go_upto_region 9 with fail
    clear hhs yh p0 p1
    go_loopg [56] hs.length (fun kq v56 w' => ∃ (i : Nat) (j : Int) (hb : List Int), v56 = .int .i64 j ∧ Aside0 (j = (i : Int)) ∧ Aside0 (i + kq = hs.length) ∧ Aside0 (hb.length = 6) ∧ Aside0 (haveH (i : Int) (hs.drop i) hb = h2) ∧ Aside0 (w'.heap[gh]? = some (.cells ⟨(hb : List Int).map (Value.int .i64)⟩ 101 (0, 0))) ∧ Aside0 (Below w2.heap.size w2 w'))
    case atStart => exact ⟨0, 0, _, rfl, ⟨rfl⟩, ⟨by omega⟩, HL, HH2, HH, W2⟩
    case round =>
      clear HH2 HH W2 hlt HL H1E
      obtain ⟨i, j, hb, rfl, HJ, HI, HL, HT, HH, W2⟩ := hrel
      by_cases hi : i = hs.length
      rotate_left
      ·
        obtain ⟨k1, rfl⟩ : ∃ k1, gk = k1 + 1 := ⟨gk - 1, by have := HI.out; omega⟩
        have q1 : decide (j < (hs.length : Int)) = true := decide_eq_true (by have := HJ.out; have := HI.out; omega)
        have hj0 : 0 ≤ j := by have := HJ.out; omega
        have hj1 : j < (hs.length : Int) := by have := HJ.out; have := HI.out; omega
        have hji : j.toNat = i := by have := HJ.out; omega
        have HJI := xm hji
        clear hji
        obtain ⟨jn, hjn⟩ : ∃ jn : Int, IntKind.i64.wrap (j + 1) = jn := ⟨_, rfl⟩
        have HJN : Aside0 (jn = ((i + 1 : Nat) : Int)) := ⟨by rw [← hjn, HJ.out, i64_w]; have := HI.out; have := HHL.out; unfold wrap64; omega⟩
        obtain ⟨ac, e, y0⟩ := Kd.at_int GPH.out j hj0 hj1
        cases e
        replace y0 := xR W2 y0
        have hT := HT.out
        rw [drop_int hs i (by have := HI.out; omega), haveH, ← HJ.out] at hT
        obtain ⟨n, hn⟩ : ∃ n, rd hs j = n := ⟨_, rfl⟩
        rw [hn] at hT y0
        have HT2 := xm hT
        have hy := row_cell HH.out hj0 (by have := HL.out; have := HHL.out; omega)
        have p6 : (j < 6) = True := eq_true (by have := HHL.out; omega)
        obtain ⟨v, hvv⟩ : ∃ v, wrap64 (rd hb j + n) = v := ⟨_, rfl⟩
        have hw3 : IntKind.i64.wrap (rd hb j + n) = v := (i64_w _).trans hvv
        have HVV := xm hvv
        clear hT hn hvv
        replace hj0 := eq_true hj0
        replace hj1 := eq_true hj1
        go_wp2
        go_roundg k1
        case measure => omega
        case rel => exact ⟨i + 1, jn, hb.set j.toNat v, (xrf), HJN, ⟨by have := HI.out; omega⟩, ⟨by rw [List.length_set]; exact HL.out⟩, ⟨by have := HT2.out; unfold bump at this; rw [HVV.out] at this; rw [HJ.out] at this ⊢; exact this⟩, ⟨row_set HH.out _ _⟩, ⟨xW W2⟩⟩
      have hlt : decide (j < (hs.length : Int)) = false := decide_eq_false (by have := HJ.out; omega)
      have hT := HT.out
      rw [hi, List.drop_length, haveH] at hT
      subst hT
      clear HT HI HJ hi
      have hzr := blkc11 (blk_below BR2.out W2.out)
      go_upto_region 15 with fail
      clear hzr hlt
      have HX1 := HX.out
      unfold ableV at HX1
      rw [HAV.out] at HX1
      obtain ⟨aa, tt, hall⟩ : ∃ aa tt, allF hb 0 r.f3 0 false = (aa, tt) := ⟨_, _, rfl⟩
      rw [hall] at HX1
      dsimp only at HX1
      obtain ⟨gB, hgB⟩ : ∃ gB, (r.f6 && tt) = gB := ⟨_, rfl⟩
      obtain ⟨o0, ho0⟩ : ∃ o0, (r.f8 != 2) = o0 := ⟨_, rfl⟩
      rw [hgB, ho0] at HX1
      have HX2 := xm HX1
      have HALL := xm hall
      have HGB := xm hgB
      have HO0 := xm ho0
      clear HX1 hall hgB ho0 HX HAV
      go_loopg [12, 13, 71] r.f3.length (fun kq v12 v13 v71 w' => ∃ (i : Nat) (j a : Int) (b : Bool), v12 = .bool b ∧ v13 = .int .i64 a ∧ v71 = .int .i64 j ∧ Aside0 (j = (i : Int)) ∧ Aside0 (i + kq = r.f3.length) ∧ Aside0 (allF hb (i : Int) (r.f3.drop i) a b = (aa, tt)) ∧ Aside0 (w'.heap[gh]? = some (.cells ⟨(hb : List Int).map (Value.int .i64)⟩ 101 (0, 0))) ∧ Aside0 (Below w2.heap.size w2 w'))
      case atStart => exact ⟨0, 0, 0, false, rfl, rfl, rfl, ⟨rfl⟩, ⟨by omega⟩, HALL, HH, W2⟩
      case round =>
        clear HALL HH W2
        obtain ⟨i, j, a, b, rfl, rfl, rfl, HJ, HI, HT, HH, W2⟩ := hrel
        by_cases hi : i = r.f3.length
        rotate_left
        ·
          obtain ⟨k1, rfl⟩ : ∃ k1, gk = k1 + 1 := ⟨gk - 1, by have := HI.out; omega⟩
          have q1 : decide (j < (r.f3.length : Int)) = true := decide_eq_true (by have := HJ.out; have := HI.out; omega)
          have hj0 : 0 ≤ j := by have := HJ.out; omega
          have hj1 : j < (r.f3.length : Int) := by have := HJ.out; have := HI.out; omega
          have hji : j.toNat = i := by have := HJ.out; omega
          have HJI := xm hji
          clear hji
          obtain ⟨jn, hjn⟩ : ∃ jn : Int, IntKind.i64.wrap (j + 1) = jn := ⟨_, rfl⟩
          have HJN : Aside0 (jn = ((i + 1 : Nat) : Int)) := ⟨by rw [← hjn, HJ.out, i64_w]; have := HI.out; have := HV.out.len; unfold wrap64; omega⟩
          obtain ⟨ad, B3, b3, e, z0, z1, z2, z3, zl, zc⟩ := at_T104 HR2.out.g3 j hj0 hj1
          cases e
          obtain ⟨ws, hws⟩ : ∃ ws, (rd_T104 r.f3 j).f3 = ws := ⟨_, rfl⟩
          have HWL : Aside0 (ws.length ≤ 1000) := ⟨by rw [← hws]; exact HV.out.way j hj0 hj1⟩
          have hT := HT.out
          rw [drop_pc r.f3 i (by have := HI.out; omega), allF, ← HJ.out, hws] at hT
          rw [hws] at z3 zc
          have ZC := xm zc
          replace z0 := xR W2 z0
          replace z1 := xR W2 z1
          replace z2 := xR W2 z2
          replace z3 := xR W2 z3
          obtain ⟨nn, hnn⟩ : ∃ nn, rd hb j = nn := ⟨_, rfl⟩
          obtain ⟨va, hva⟩ : ∃ va, wrap64 (a + nn) = va := ⟨_, rfl⟩
          obtain ⟨tb, htb⟩ : ∃ tb, tkG nn ws b = tb := ⟨_, rfl⟩
          rw [hnn, hva, htb] at hT
          have hw3 : IntKind.i64.wrap (a + nn) = va := (i64_w _).trans hva
          have HT2 := xm hT
          have HTB := xm htb
          have HNN := xm hnn
          have H06 := xm (show 0 ≤ j ∧ j < 6 from ⟨hj0, by have := HV.out.len; omega⟩)
          clear hT hws zl zc hva htb hnn HT
          replace hj0 := eq_true hj0
          replace hj1 := eq_true hj1
          have p6 : (j < 6) = True := eq_true H06.out.2
          go_upto_region 17 with ((with_reducible refine gate_dst (N := 15) rfl ?_); refine xG (cs := #[.int .u8 0, .int .i64 0, .int .i64 0, .slice none 0 0]) (t := 104) ?_; intro gx hg wx hbox hb; have BX := xm hbox; have Ggx := xZ W2 hg; have NHHgx := xN HH hg; have MHHgx := xM HH hg; replace HH := xB HH hb; replace z0 := (hb.cell (World.block_lt_of_cell? _ _ z0)).trans z0; replace z1 := (hb.cell (World.block_lt_of_cell? _ _ z1)).trans z1; replace z2 := (hb.cell (World.block_lt_of_cell? _ _ z2)).trans z2; replace z3 := (hb.cell (World.block_lt_of_cell? _ _ z3)).trans z3; replace W2 := xS W2 hb; clear hb hbox hg; have hzgx := blkc4 BX.out)
          clear z0 z1 z2 z3
          have BX2 : Aside0 (((((wx.setCell ⟨gx, 0, none⟩ (.int .u8 (rd_T104 r.f3 j).f0)).setCell ⟨gx, 1, none⟩ (.int .i64 (rd_T104 r.f3 j).f1)).setCell ⟨gx, 2, none⟩ (.int .i64 (rd_T104 r.f3 j).f2)).setCell ⟨gx, 3, none⟩ (.slice B3 ws.length b3)).heap[gx]? = some (.cells #[.int .u8 (rd_T104 r.f3 j).f0, .int .i64 (rd_T104 r.f3 j).f1, .int .i64 (rd_T104 r.f3 j).f2, .slice B3 ws.length b3] 104 (0, 0))) := ⟨xQ BX⟩
          have HH2 : Aside0 (((((wx.setCell ⟨gx, 0, none⟩ (.int .u8 (rd_T104 r.f3 j).f0)).setCell ⟨gx, 1, none⟩ (.int .i64 (rd_T104 r.f3 j).f1)).setCell ⟨gx, 2, none⟩ (.int .i64 (rd_T104 r.f3 j).f2)).setCell ⟨gx, 3, none⟩ (.slice B3 ws.length b3)).heap[gh]? = some (.cells ⟨(hb : List Int).map (Value.int .i64)⟩ 101 (0, 0))) := ⟨xK HH⟩
          have W22 : Aside0 (Below w2.heap.size w2 ((((wx.setCell ⟨gx, 0, none⟩ (.int .u8 (rd_T104 r.f3 j).f0)).setCell ⟨gx, 1, none⟩ (.int .i64 (rd_T104 r.f3 j).f1)).setCell ⟨gx, 2, none⟩ (.int .i64 (rd_T104 r.f3 j).f2)).setCell ⟨gx, 3, none⟩ (.slice B3 ws.length b3))) := ⟨xW W2⟩
          clear BX HH W2 hzgx
          generalize ((((wx.setCell ⟨gx, 0, none⟩ (.int .u8 (rd_T104 r.f3 j).f0)).setCell ⟨gx, 1, none⟩ (.int .i64 (rd_T104 r.f3 j).f1)).setCell ⟨gx, 2, none⟩ (.int .i64 (rd_T104 r.f3 j).f2)).setCell ⟨gx, 3, none⟩ (.slice B3 ws.length b3)) = wy at BX2 HH2 W22 ⊢
          have BX := BX2
          clear BX2
          have HH := HH2
          clear HH2
          have W2 := W22
          clear W22
          have hy := (row_cell HH.out H06.out.1 (by have := HL.out; have := H06.out.2; omega)).1
          rw [HNN.out] at hy
          go_upto_region 18 with fail
          clear hy
          have hzx := blkc4 BX.out
          go_upto_region 19 with fail
          clear hzx BX
          go_loopg [12, 84] ws.length (fun kq v12 v84 w' => ∃ (i : Nat) (j : Int) (b : Bool), v12 = .bool b ∧ v84 = .int .i64 j ∧ Aside0 (j = (i : Int)) ∧ Aside0 (i + kq = ws.length) ∧ Aside0 (tkG nn (ws.drop i) b = tb) ∧ Aside0 (w'.heap[gh]? = some (.cells ⟨(hb : List Int).map (Value.int .i64)⟩ 101 (0, 0))) ∧ Aside0 (Below w2.heap.size w2 w'))
          case atStart => exact ⟨0, 0, b, rfl, rfl, ⟨rfl⟩, ⟨by omega⟩, HTB, HH, W2⟩
          case round =>
            clear HTB HH W2
            obtain ⟨i2, j2, b2, rfl, rfl, HJ2, HI2, HT, HH, W2⟩ := hrel
            by_cases hi2 : i2 = ws.length
            · have hlt : decide (j2 < (ws.length : Int)) = false := decide_eq_false (by have := HJ2.out; omega)
              have hT := HT.out
              rw [hi2, List.drop_length, tkG] at hT
              subst hT
              clear HT
              go_wp2
              go_roundg k1
              case measure => omega
              case rel => exact ⟨i + 1, jn, va, b2, (xrf), (xrf), (xrf), HJN, ⟨by have := HI.out; omega⟩, ⟨by have := HT2.out; rw [HJ.out] at this; exact this⟩, HH, W2⟩
            obtain ⟨k2, rfl⟩ : ∃ k2, gk = k2 + 1 := ⟨gk - 1, by have := HI2.out; omega⟩
            have q2 : decide (j2 < (ws.length : Int)) = true := decide_eq_true (by have := HJ2.out; have := HI2.out; omega)
            have hk0 : 0 ≤ j2 := by have := HJ2.out; omega
            have hk1 : j2 < (ws.length : Int) := by have := HJ2.out; have := HI2.out; omega
            have hki : j2.toNat = i2 := by have := HJ2.out; omega
            have HKI := xm hki
            clear hki
            obtain ⟨jm, hjm⟩ : ∃ jm : Int, IntKind.i64.wrap (j2 + 1) = jm := ⟨_, rfl⟩
            have HJM : Aside0 (jm = ((i2 + 1 : Nat) : Int)) := ⟨by rw [← hjm, HJ2.out, i64_w]; have := HI2.out; have := HWL.out; unfold wrap64; omega⟩
            obtain ⟨aw, e, y0, y1, y2, y3⟩ := at_T106 ZC.out j2 hk0 hk1
            cases e
            replace y0 := xR W2 y0
            replace y1 := xR W2 y1
            replace y2 := xR W2 y2
            replace y3 := xR W2 y3
            have hT := HT.out
            rw [drop_wy ws i2 (by have := HI2.out; omega), tkG, ← HJ2.out] at hT
            have HT3 := xm hT
            clear hT HT
            replace hk0 := eq_true hk0
            replace hk1 := eq_true hk1
            go_upto_region 21 with ((with_reducible refine gate_dst (N := 17) rfl ?_); refine xG (cs := #[.int .i64 0, .int .i64 0, .int .i64 0, .int .i64 0]) (t := 106) ?_; intro gw hg wx hbox hb; have BW := xm hbox; have Ggw := xZ W2 hg; have NHHgw := xN HH hg; have MHHgw := xM HH hg; replace HH := xB HH hb; replace y0 := (hb.cell (World.block_lt_of_cell? _ _ y0)).trans y0; replace y1 := (hb.cell (World.block_lt_of_cell? _ _ y1)).trans y1; replace y2 := (hb.cell (World.block_lt_of_cell? _ _ y2)).trans y2; replace y3 := (hb.cell (World.block_lt_of_cell? _ _ y3)).trans y3; replace W2 := xS W2 hb; clear hb hbox hg; have hzgw := blkc4 BW.out)
            clear y0 y1 y2 y3
            have BW2 : Aside0 (((((wx.setCell ⟨gw, 0, none⟩ (.int .i64 (rd_T106 ws j2).f0)).setCell ⟨gw, 1, none⟩ (.int .i64 (rd_T106 ws j2).f1)).setCell ⟨gw, 2, none⟩ (.int .i64 (rd_T106 ws j2).f2)).setCell ⟨gw, 3, none⟩ (.int .i64 (rd_T106 ws j2).f3)).heap[gw]? = some (.cells #[.int .i64 (rd_T106 ws j2).f0, .int .i64 (rd_T106 ws j2).f1, .int .i64 (rd_T106 ws j2).f2, .int .i64 (rd_T106 ws j2).f3] 106 (0, 0))) := ⟨xQ BW⟩
            have HH2 : Aside0 (((((wx.setCell ⟨gw, 0, none⟩ (.int .i64 (rd_T106 ws j2).f0)).setCell ⟨gw, 1, none⟩ (.int .i64 (rd_T106 ws j2).f1)).setCell ⟨gw, 2, none⟩ (.int .i64 (rd_T106 ws j2).f2)).setCell ⟨gw, 3, none⟩ (.int .i64 (rd_T106 ws j2).f3)).heap[gh]? = some (.cells ⟨(hb : List Int).map (Value.int .i64)⟩ 101 (0, 0))) := ⟨xK HH⟩
            have W22 : Aside0 (Below w2.heap.size w2 ((((wx.setCell ⟨gw, 0, none⟩ (.int .i64 (rd_T106 ws j2).f0)).setCell ⟨gw, 1, none⟩ (.int .i64 (rd_T106 ws j2).f1)).setCell ⟨gw, 2, none⟩ (.int .i64 (rd_T106 ws j2).f2)).setCell ⟨gw, 3, none⟩ (.int .i64 (rd_T106 ws j2).f3))) := ⟨xW W2⟩
            clear BW HH W2 hzgw
            generalize ((((wx.setCell ⟨gw, 0, none⟩ (.int .i64 (rd_T106 ws j2).f0)).setCell ⟨gw, 1, none⟩ (.int .i64 (rd_T106 ws j2).f1)).setCell ⟨gw, 2, none⟩ (.int .i64 (rd_T106 ws j2).f2)).setCell ⟨gw, 3, none⟩ (.int .i64 (rd_T106 ws j2).f3)) = wy at BW2 HH2 W22 ⊢
            have BW := BW2
            clear BW2
            have HH := HH2
            clear HH2
            have W2 := W22
            clear W22
            have hy := (row_cell HH.out H06.out.1 (by have := HL.out; have := H06.out.2; omega)).1
            rw [HNN.out] at hy
            have hzx := blkc4 BW.out
            cases b2 with
            | true =>
              go_wp2
              go_roundg k2
              case measure => omega
              case rel => exact ⟨i2 + 1, jm, true, (xrf), (xrf), HJM, ⟨by have := HI2.out; omega⟩, ⟨by simpa using HT3.out⟩, HH, W2⟩
            | false =>
              by_cases hn : nn > 0
              rotate_left
              · have hnb := decide_eq_false hn
                have HT4 : Aside0 (tkG nn (ws.drop (i2 + 1)) false = tb) := ⟨by have := HT3.out; rw [decide_eq_false hn] at this; exact this⟩
                go_wp2
                go_roundg k2
                case measure => omega
                case rel => exact ⟨i2 + 1, jm, false, (xrf), (xrf), HJM, ⟨by have := HI2.out; omega⟩, HT4, HH, W2⟩
              have hnb := decide_eq_true hn
              by_cases ht : (rd_T106 ws j2).f3 > 0
              · have htb := decide_eq_true ht
                have HT4 : Aside0 (tkG nn (ws.drop (i2 + 1)) true = tb) := ⟨by have := HT3.out; rw [decide_eq_true hn, decide_eq_true ht] at this; exact this⟩
                go_wp2
                go_roundg k2
                case measure => omega
                case rel => exact ⟨i2 + 1, jm, true, (xrf), (xrf), HJM, ⟨by have := HI2.out; omega⟩, HT4, HH, W2⟩
              · have htb := decide_eq_false ht
                have HT4 : Aside0 (tkG nn (ws.drop (i2 + 1)) false = tb) := ⟨by have := HT3.out; rw [decide_eq_true hn, decide_eq_false ht] at this; exact this⟩
                go_wp2
                go_roundg k2
                case measure => omega
                case rel => exact ⟨i2 + 1, jm, false, (xrf), (xrf), HJM, ⟨by have := HI2.out; omega⟩, HT4, HH, W2⟩
        have hlt : decide (j < (r.f3.length : Int)) = false := decide_eq_false (by have := HJ.out; omega)
        have hT := HT.out
        rw [hi, List.drop_length, allF] at hT
        injection hT with hTa hTb
        subst hTa hTb
        clear HT HI HJ hi
        have hzr := blkc11 (blk_below BR2.out W2.out)
        go_upto_region 24 with fail
        go_cut [18] (fun v18 wc => v18 = .bool o0 ∧ Aside0 (wc.heap[gh]? = some (.cells ⟨(hb : List Int).map (Value.int .i64)⟩ 101 (0, 0))) ∧ Aside0 (Below w2.heap.size w2 wc))
        case first =>
          have hO := HO0.out
          by_cases h8 : r.f8 = 2
          · have h8b := bne_eq_false_iff_eq.mpr h8
            rw [h8b] at hO
            subst hO
            go_wp2
            go_meet
            case rel => exact ⟨xrf, HH, W2⟩
          · have h8b := bne_iff_ne.mpr h8
            rw [h8b] at hO
            subst hO
            go_wp2
            go_meet
            case rel => exact ⟨xrf, HH, W2⟩
        case rest =>
          clear HH W2 hzr
          obtain ⟨rfl, HH, W2⟩ := hcut
          have hzr := blkc11 (blk_below BR2.out W2.out)
          go_upto_region 26 with fail
          clear hzr
          go_loopg [18, 108] r.f7.length (fun kq v18 v108 w' => ∃ (i : Nat) (j : Int) (o : Bool), v18 = .bool o ∧ v108 = .int .i64 j ∧ Aside0 (j = (i : Int)) ∧ Aside0 (i + kq = r.f7.length) ∧ Aside0 (endsF r.f3 hb gB a (r.f7.drop i) o = x) ∧ Aside0 (w'.heap[gh]? = some (.cells ⟨(hb : List Int).map (Value.int .i64)⟩ 101 (0, 0))) ∧ Aside0 (Below w2.heap.size w2 w'))
          case atStart => exact ⟨0, 0, o0, rfl, rfl, ⟨rfl⟩, ⟨by omega⟩, HX2, HH, W2⟩
          case round =>
            clear HX2 HH W2
            obtain ⟨i, j, o, rfl, rfl, HJ, HI, HT, HH, W2⟩ := hrel
            by_cases hi : i = r.f7.length
            · have hlt : decide (j < (r.f7.length : Int)) = false := decide_eq_false (by have := HJ.out; omega)
              have hT := HT.out
              rw [hi, List.drop_length, endsF] at hT
              subst hT
              clear HT
              go_wp2
              go_ret
              exact ⟨rfl, below_step B02.out W2.out⟩
            obtain ⟨k1, rfl⟩ : ∃ k1, gk = k1 + 1 := ⟨gk - 1, by have := HI.out; omega⟩
            have q1 : decide (j < (r.f7.length : Int)) = true := decide_eq_true (by have := HJ.out; have := HI.out; omega)
            have hj0 : 0 ≤ j := by have := HJ.out; omega
            have hj1 : j < (r.f7.length : Int) := by have := HJ.out; have := HI.out; omega
            have hji : j.toNat = i := by have := HJ.out; omega
            have HJI := xm hji
            clear hji
            obtain ⟨jn, hjn⟩ : ∃ jn : Int, IntKind.i64.wrap (j + 1) = jn := ⟨_, rfl⟩
            have HJN : Aside0 (jn = ((i + 1 : Nat) : Int)) := ⟨by rw [← hjn, HJ.out, i64_w]; have := HI.out; have := HE.out.len; unfold wrap64; omega⟩
            obtain ⟨ae, e, z0, z1, z2, z3⟩ := at_T98 HR2.out.g7 j hj0 hj1
            cases e
            replace z0 := xR W2 z0
            replace z1 := xR W2 z1
            replace z2 := xR W2 z2
            replace z3 := xR W2 z3
            have HPC := xm (HE.out.pc j hj0 hj1)
            have hT := HT.out
            rw [drop_qe r.f7 i (by have := HI.out; omega), endsF, ← HJ.out] at hT
            obtain ⟨ff, hff⟩ : ∃ ff, fromL r.f3 (rd_T98 r.f7 j) = ff := ⟨_, rfl⟩
            rw [hff] at hT
            obtain ⟨ss, hss⟩ : ∃ ss, someF hb ff r.f3.length 0 0 = ss := ⟨_, rfl⟩
            rw [hss] at hT
            obtain ⟨o2, ho2⟩ : ∃ o2, outB gB a ss (rd_T98 r.f7 j) o = o2 := ⟨_, rfl⟩
            rw [ho2] at hT
            have HT2 := xm hT
            have HFF := xm hff
            have HSS := xm hss
            have HO2 := xm ho2
            clear hT hff hss ho2 HT
            replace hj0 := eq_true hj0
            replace hj1 := eq_true hj1
            go_upto_region 28 with ((with_reducible refine gate_dst (N := 20) rfl ?_); refine xG (cs := #[.int .i64 0, .int .i64 0, .int .i64 0, .bool false]) (t := 98) ?_; intro ge hg wx hbox hb; have BE := xm hbox; have Gge := xZ W2 hg; have NHHge := xN HH hg; have MHHge := xM HH hg; replace HH := xB HH hb; replace z0 := (hb.cell (World.block_lt_of_cell? _ _ z0)).trans z0; replace z1 := (hb.cell (World.block_lt_of_cell? _ _ z1)).trans z1; replace z2 := (hb.cell (World.block_lt_of_cell? _ _ z2)).trans z2; replace z3 := (hb.cell (World.block_lt_of_cell? _ _ z3)).trans z3; replace W2 := xS W2 hb; clear hb hbox hg; have hzge := blkc4 BE.out)
            clear z0 z1 z2 z3
            have BE2 : Aside0 (((((wx.setCell ⟨ge, 0, none⟩ (.int .i64 (rd_T98 r.f7 j).f0)).setCell ⟨ge, 1, none⟩ (.int .i64 (rd_T98 r.f7 j).f1)).setCell ⟨ge, 2, none⟩ (.int .i64 (rd_T98 r.f7 j).f2)).setCell ⟨ge, 3, none⟩ (.bool (rd_T98 r.f7 j).f3)).heap[ge]? = some (.cells #[.int .i64 (rd_T98 r.f7 j).f0, .int .i64 (rd_T98 r.f7 j).f1, .int .i64 (rd_T98 r.f7 j).f2, .bool (rd_T98 r.f7 j).f3] 98 (0, 0))) := ⟨xQ BE⟩
            have HH2 : Aside0 (((((wx.setCell ⟨ge, 0, none⟩ (.int .i64 (rd_T98 r.f7 j).f0)).setCell ⟨ge, 1, none⟩ (.int .i64 (rd_T98 r.f7 j).f1)).setCell ⟨ge, 2, none⟩ (.int .i64 (rd_T98 r.f7 j).f2)).setCell ⟨ge, 3, none⟩ (.bool (rd_T98 r.f7 j).f3)).heap[gh]? = some (.cells ⟨(hb : List Int).map (Value.int .i64)⟩ 101 (0, 0))) := ⟨xK HH⟩
            have W22 : Aside0 (Below w2.heap.size w2 ((((wx.setCell ⟨ge, 0, none⟩ (.int .i64 (rd_T98 r.f7 j).f0)).setCell ⟨ge, 1, none⟩ (.int .i64 (rd_T98 r.f7 j).f1)).setCell ⟨ge, 2, none⟩ (.int .i64 (rd_T98 r.f7 j).f2)).setCell ⟨ge, 3, none⟩ (.bool (rd_T98 r.f7 j).f3))) := ⟨xW W2⟩
            clear BE HH W2 hzge
            generalize ((((wx.setCell ⟨ge, 0, none⟩ (.int .i64 (rd_T98 r.f7 j).f0)).setCell ⟨ge, 1, none⟩ (.int .i64 (rd_T98 r.f7 j).f1)).setCell ⟨ge, 2, none⟩ (.int .i64 (rd_T98 r.f7 j).f2)).setCell ⟨ge, 3, none⟩ (.bool (rd_T98 r.f7 j).f3)) = wy at BE2 HH2 W22 ⊢
            have BE := BE2
            clear BE2
            have HH := HH2
            clear HH2
            have W2 := W22
            clear W22
            go_upto_region 29 with ((with_reducible refine gate_dst (N := 21) rfl ?_); refine xG (cs := #[.bool false, .bool false, .bool false, .bool false, .bool false, .bool false]) (t := 107) ?_; intro gf hg w8 hbox hb; have BF := xm hbox; have Ggf := xZ W2 hg; have NHHgf := xN HH hg; have MHHgf := xM HH hg; replace HH := xB HH hb; have NBEgf := xN BE hg; have MBEgf := xM BE hg; replace BE := xB BE hb; replace W2 := xS W2 hb; clear hb hbox hg; have hzgf := blkc6 BF.out)
            have FF0 : Aside0 (w8.heap[gf]? = some (.cells ⟨(List.replicate 6 false : List Bool).map Value.bool⟩ 107 (0, 0))) := ⟨BF.out⟩
            clear BF hzgf
            have hze := blkc4 BE.out
            have hy := rob_cell FF0.out (show (rd_T98 r.f7 j).f1.toNat < _ from by have := HPC.out; simp; omega)
            have p2 : (0 ≤ (rd_T98 r.f7 j).f1) = True := eq_true HPC.out.1
            have p3 : ((rd_T98 r.f7 j).f1 < 6) = True := eq_true HPC.out.2
            go_upto_region 30 with fail
            clear hy hze p2 p3
            have FF2 : Aside0 ((w8.setCell ⟨gf, (rd_T98 r.f7 j).f1.toNat, none⟩ (.bool true)).heap[gf]? = some (.cells ⟨((List.replicate 6 false).set (rd_T98 r.f7 j).f1.toNat true : List Bool).map Value.bool⟩ 107 (0, 0))) := ⟨rob_set FF0.out _ _⟩
            have HH2 : Aside0 ((w8.setCell ⟨gf, (rd_T98 r.f7 j).f1.toNat, none⟩ (.bool true)).heap[gh]? = some (.cells ⟨(hb : List Int).map (Value.int .i64)⟩ 101 (0, 0))) := ⟨xK HH⟩
            have BE2 : Aside0 ((w8.setCell ⟨gf, (rd_T98 r.f7 j).f1.toNat, none⟩ (.bool true)).heap[ge]? = some (.cells #[.int .i64 (rd_T98 r.f7 j).f0, .int .i64 (rd_T98 r.f7 j).f1, .int .i64 (rd_T98 r.f7 j).f2, .bool (rd_T98 r.f7 j).f3] 98 (0, 0))) := ⟨xK BE⟩
            have W22 : Aside0 (Below w2.heap.size w2 (w8.setCell ⟨gf, (rd_T98 r.f7 j).f1.toNat, none⟩ (.bool true))) := ⟨xW W2⟩
            clear FF0 HH BE W2
            generalize (w8.setCell ⟨gf, (rd_T98 r.f7 j).f1.toNat, none⟩ (.bool true)) = wy at FF2 HH2 BE2 W22 ⊢
            have FF := FF2
            have HH := HH2
            have BE := BE2
            have W2 := W22
            clear FF2 HH2 BE2 W22
            have hzr := blkc11 (blk_below BR2.out W2.out)
            go_upto_region 31 with fail
            clear hzr
            have HFL : Aside0 (rndF r.f3 r.f3.length r.f3.length ((List.replicate 6 false).set (rd_T98 r.f7 j).f1.toNat true) = ff) := ⟨HFF.out⟩
            go_loopg [118] r.f3.length (fun kq v118 w' => ∃ (i : Nat) (j2 : Int) (f : List Bool), v118 = .int .i64 j2 ∧ Aside0 (j2 = (i : Int)) ∧ Aside0 (i + kq = r.f3.length) ∧ Aside0 (f.length = 6) ∧ Aside0 (rndF r.f3 r.f3.length kq f = ff) ∧ Aside0 (w'.heap[gh]? = some (.cells ⟨(hb : List Int).map (Value.int .i64)⟩ 101 (0, 0))) ∧ Aside0 (w'.heap[gf]? = some (.cells ⟨(f : List Bool).map Value.bool⟩ 107 (0, 0))) ∧ Aside0 (w'.heap[ge]? = some (.cells #[.int .i64 (rd_T98 r.f7 j).f0, .int .i64 (rd_T98 r.f7 j).f1, .int .i64 (rd_T98 r.f7 j).f2, .bool (rd_T98 r.f7 j).f3] 98 (0, 0))) ∧ Aside0 (Below w2.heap.size w2 w'))
            case atStart => exact ⟨0, 0, _, rfl, ⟨rfl⟩, ⟨by omega⟩, ⟨by rw [List.length_set]; rfl⟩, HFL, HH, FF, BE, W2⟩
            case round =>
              clear HFL HH FF BE W2 hi
              obtain ⟨i2, j2, f, rfl, HJ2, HI2, HL2, HT, HH, FF, BE, W2⟩ := hrel
              by_cases hi : i2 = r.f3.length
              rotate_left
              ·
                obtain ⟨k2, rfl⟩ : ∃ k2, gk = k2 + 1 := ⟨gk - 1, by have := HI2.out; omega⟩
                have q2 : decide (j2 < (r.f3.length : Int)) = true := decide_eq_true (by have := HJ2.out; have := HI2.out; omega)
                have hk0 : 0 ≤ j2 := by have := HJ2.out; omega
                have hk1 : j2 < (r.f3.length : Int) := by have := HJ2.out; have := HI2.out; omega
                have hki : j2.toNat = i2 := by have := HJ2.out; omega
                have HKI := xm hki
                clear hki
                obtain ⟨jm, hjm⟩ : ∃ jm : Int, IntKind.i64.wrap (j2 + 1) = jm := ⟨_, rfl⟩
                have HJM : Aside0 (jm = ((i2 + 1 : Nat) : Int)) := ⟨by rw [← hjm, HJ2.out, i64_w]; have := HI2.out; have := HV.out.len; unfold wrap64; omega⟩
                have hT := HT.out
                rw [rndF] at hT
                obtain ⟨f2, hf2⟩ : ∃ f2, updF r.f3 r.f3.length 0 f = f2 := ⟨_, rfl⟩
                rw [hf2] at hT
                have HT3 := xm hT
                have HF2 := xm hf2
                clear hT hf2 HT hk0 hk1
                have hzr := blkc11 (blk_below BR2.out W2.out)
                go_upto_region 33 with fail
                clear hzr
                go_loopg [123] r.f3.length (fun kq v123 w' => ∃ (i : Nat) (j3 : Int) (f : List Bool), v123 = .int .i64 j3 ∧ Aside0 (j3 = (i : Int)) ∧ Aside0 (i + kq = r.f3.length) ∧ Aside0 (f.length = 6) ∧ Aside0 (updF r.f3 kq i f = f2) ∧ Aside0 (w'.heap[gh]? = some (.cells ⟨(hb : List Int).map (Value.int .i64)⟩ 101 (0, 0))) ∧ Aside0 (w'.heap[gf]? = some (.cells ⟨(f : List Bool).map Value.bool⟩ 107 (0, 0))) ∧ Aside0 (w'.heap[ge]? = some (.cells #[.int .i64 (rd_T98 r.f7 j).f0, .int .i64 (rd_T98 r.f7 j).f1, .int .i64 (rd_T98 r.f7 j).f2, .bool (rd_T98 r.f7 j).f3] 98 (0, 0))) ∧ Aside0 (Below w2.heap.size w2 w'))
                case atStart => exact ⟨0, 0, f, rfl, ⟨rfl⟩, ⟨by omega⟩, HL2, HF2, HH, FF, BE, W2⟩
                case round =>
                  clear HF2 HH FF BE W2 HL2
                  obtain ⟨i3, j3, f, rfl, HJ3, HI3, HL3, HT, HH, FF, BE, W2⟩ := hrel
                  by_cases hi3 : i3 = r.f3.length
                  · have hlt : decide (j3 < (r.f3.length : Int)) = false := decide_eq_false (by have := HJ3.out; omega)
                    have hT := HT.out
                    rw [show gk = 0 by have := HI3.out; omega, updF] at hT
                    subst hT
                    clear HT
                    go_wp2
                    go_roundg k2
                    case measure => omega
                    case rel => exact ⟨i2 + 1, jm, f, (xrf), HJM, ⟨by have := HI2.out; omega⟩, HL3, HT3, HH, FF, BE, W2⟩
                  obtain ⟨k3, rfl⟩ : ∃ k3, gk = k3 + 1 := ⟨gk - 1, by have := HI3.out; omega⟩
                  have q3 : decide (j3 < (r.f3.length : Int)) = true := decide_eq_true (by have := HJ3.out; have := HI3.out; omega)
                  have hl0 : 0 ≤ j3 := by have := HJ3.out; omega
                  have hl1 : j3 < (r.f3.length : Int) := by have := HJ3.out; have := HI3.out; omega
                  have hli : j3.toNat = i3 := by have := HJ3.out; omega
                  have HLI := xm hli
                  clear hli
                  obtain ⟨jp, hjp⟩ : ∃ jp : Int, IntKind.i64.wrap (j3 + 1) = jp := ⟨_, rfl⟩
                  have HJP : Aside0 (jp = ((i3 + 1 : Nat) : Int)) := ⟨by rw [← hjp, HJ3.out, i64_w]; have := HI3.out; have := HV.out.len; unfold wrap64; omega⟩
                  obtain ⟨ad, B3, b3, e, z0, z1, z2, z3, zl, zc⟩ := at_T104 HR2.out.g3 j3 hl0 hl1
                  cases e
                  replace z0 := xR W2 z0
                  replace z1 := xR W2 z1
                  replace z2 := xR W2 z2
                  replace z3 := xR W2 z3
                  have HPR := xm (HV.out.pro j3 hl0 hl1)
                  have H06 := xm (show 0 ≤ j3 ∧ j3 < 6 ∧ r.f3.length ≤ 6 from ⟨hl0, by have := HV.out.len; omega, HV.out.len⟩)
                  have hT := HT.out
                  rw [updF] at hT
                  have HT4 := xm hT
                  clear hT HT zl zc
                  replace hl0 := eq_true hl0
                  replace hl1 := eq_true hl1
                  go_upto_region 35 with ((with_reducible refine gate_dst (N := 23) rfl ?_); refine xG (cs := #[.int .u8 0, .int .i64 0, .int .i64 0, .slice none 0 0]) (t := 104) ?_; intro gx hg wx hbox hb; have BX := xm hbox; have Ggx := xZ W2 hg; have NHHgx := xN HH hg; have MHHgx := xM HH hg; replace HH := xB HH hb; have NFFgx := xN FF hg; have MFFgx := xM FF hg; replace FF := xB FF hb; have NBEgx := xN BE hg; have MBEgx := xM BE hg; replace BE := xB BE hb; replace z0 := (hb.cell (World.block_lt_of_cell? _ _ z0)).trans z0; replace z1 := (hb.cell (World.block_lt_of_cell? _ _ z1)).trans z1; replace z2 := (hb.cell (World.block_lt_of_cell? _ _ z2)).trans z2; replace z3 := (hb.cell (World.block_lt_of_cell? _ _ z3)).trans z3; replace W2 := xS W2 hb; clear hb hbox hg; have hzgx := blkc4 BX.out)
                  clear z0 z1 z2 z3
                  have BX2 : Aside0 (((((wx.setCell ⟨gx, 0, none⟩ (.int .u8 (rd_T104 r.f3 j3).f0)).setCell ⟨gx, 1, none⟩ (.int .i64 (rd_T104 r.f3 j3).f1)).setCell ⟨gx, 2, none⟩ (.int .i64 (rd_T104 r.f3 j3).f2)).setCell ⟨gx, 3, none⟩ (.slice B3 (rd_T104 r.f3 j3).f3.length b3)).heap[gx]? = some (.cells #[.int .u8 (rd_T104 r.f3 j3).f0, .int .i64 (rd_T104 r.f3 j3).f1, .int .i64 (rd_T104 r.f3 j3).f2, .slice B3 (rd_T104 r.f3 j3).f3.length b3] 104 (0, 0))) := ⟨xQ BX⟩
                  have HH2 : Aside0 (((((wx.setCell ⟨gx, 0, none⟩ (.int .u8 (rd_T104 r.f3 j3).f0)).setCell ⟨gx, 1, none⟩ (.int .i64 (rd_T104 r.f3 j3).f1)).setCell ⟨gx, 2, none⟩ (.int .i64 (rd_T104 r.f3 j3).f2)).setCell ⟨gx, 3, none⟩ (.slice B3 (rd_T104 r.f3 j3).f3.length b3)).heap[gh]? = some (.cells ⟨(hb : List Int).map (Value.int .i64)⟩ 101 (0, 0))) := ⟨xK HH⟩
                  have FF2 : Aside0 (((((wx.setCell ⟨gx, 0, none⟩ (.int .u8 (rd_T104 r.f3 j3).f0)).setCell ⟨gx, 1, none⟩ (.int .i64 (rd_T104 r.f3 j3).f1)).setCell ⟨gx, 2, none⟩ (.int .i64 (rd_T104 r.f3 j3).f2)).setCell ⟨gx, 3, none⟩ (.slice B3 (rd_T104 r.f3 j3).f3.length b3)).heap[gf]? = some (.cells ⟨(f : List Bool).map Value.bool⟩ 107 (0, 0))) := ⟨xK FF⟩
                  have BE2 : Aside0 (((((wx.setCell ⟨gx, 0, none⟩ (.int .u8 (rd_T104 r.f3 j3).f0)).setCell ⟨gx, 1, none⟩ (.int .i64 (rd_T104 r.f3 j3).f1)).setCell ⟨gx, 2, none⟩ (.int .i64 (rd_T104 r.f3 j3).f2)).setCell ⟨gx, 3, none⟩ (.slice B3 (rd_T104 r.f3 j3).f3.length b3)).heap[ge]? = some (.cells #[.int .i64 (rd_T98 r.f7 j).f0, .int .i64 (rd_T98 r.f7 j).f1, .int .i64 (rd_T98 r.f7 j).f2, .bool (rd_T98 r.f7 j).f3] 98 (0, 0))) := ⟨xK BE⟩
                  have W22 : Aside0 (Below w2.heap.size w2 ((((wx.setCell ⟨gx, 0, none⟩ (.int .u8 (rd_T104 r.f3 j3).f0)).setCell ⟨gx, 1, none⟩ (.int .i64 (rd_T104 r.f3 j3).f1)).setCell ⟨gx, 2, none⟩ (.int .i64 (rd_T104 r.f3 j3).f2)).setCell ⟨gx, 3, none⟩ (.slice B3 (rd_T104 r.f3 j3).f3.length b3))) := ⟨xW W2⟩
                  clear BX HH FF BE W2 hzgx
                  generalize ((((wx.setCell ⟨gx, 0, none⟩ (.int .u8 (rd_T104 r.f3 j3).f0)).setCell ⟨gx, 1, none⟩ (.int .i64 (rd_T104 r.f3 j3).f1)).setCell ⟨gx, 2, none⟩ (.int .i64 (rd_T104 r.f3 j3).f2)).setCell ⟨gx, 3, none⟩ (.slice B3 (rd_T104 r.f3 j3).f3.length b3)) = wy at BX2 HH2 FF2 BE2 W22 ⊢
                  have BX := BX2
                  clear BX2
                  have HH := HH2
                  clear HH2
                  have FF := FF2
                  clear FF2
                  have BE := BE2
                  clear BE2
                  have W2 := W22
                  clear W22
                  have hy := rob_cell FF.out (show j3.toNat < f.length from by have := HL3.out; have := H06.out; omega)
                  have hzx := blkc4 BX.out
                  have p6 : (0 ≤ j3) = True := eq_true H06.out.1
                  have p7 : (j3 < 6) = True := eq_true H06.out.2.1
                  have hpl : prL r.f3 i3 = (rd_T104 r.f3 j3).f2.toNat := by unfold prL; rw [← HJ3.out]
                  have HPL := xm hpl
                  clear hpl
                  cases hb3 : f.getD j3.toNat false with
                  | true =>
                    rw [hb3] at hy
                    have HU : Aside0 (Clo.upd (prL r.f3) f i3 = f.set j3.toNat true) := ⟨by have := HLI.out; unfold Clo.upd; rw [← this, hb3]; rfl⟩
                    clear hb3
                    go_wp2
                    go_roundg k3
                    case measure => omega
                    case rel => exact ⟨i3 + 1, jp, f.set j3.toNat true, (xrf), HJP, ⟨by have := HI3.out; omega⟩, ⟨by rw [List.length_set]; exact HL3.out⟩, ⟨by rw [← HU.out]; exact HT4.out⟩, ⟨xK HH⟩, ⟨rob_set FF.out _ _⟩, ⟨xK BE⟩, ⟨xW W2⟩⟩
                  | false =>
                    rw [hb3] at hy
                    by_cases hp : (rd_T104 r.f3 j3).f2 > 0
                    · have hpb := decide_eq_true hp
                      obtain ⟨m, hm⟩ : ∃ m, (rd_T104 r.f3 j3).f2 - 1 = m := ⟨_, rfl⟩
                      have hm0 : 0 ≤ m := by omega
                      have hm1 : m < 6 := by have := HPR.out; have := H06.out; omega
                      have hw : IntKind.i64.wrap ((rd_T104 r.f3 j3).f2 - 1) = m := by rw [hm, i64_w]; unfold wrap64; omega
                      have hy2 := rob_cell FF.out (show m.toNat < f.length from by have := HL3.out; omega)
                      obtain ⟨bb, hbb⟩ : ∃ bb, f.getD m.toNat false = bb := ⟨_, rfl⟩
                      rw [hbb] at hy2
                      have HU : Aside0 (Clo.upd (prL r.f3) f i3 = f.set j3.toNat bb) := ⟨by
                        have := HLI.out
                        unfold Clo.upd
                        rw [← this, hb3, this, HPL.out, decide_eq_true (show 0 < (rd_T104 r.f3 j3).f2.toNat by omega), show (rd_T104 r.f3 j3).f2.toNat - 1 = m.toNat by omega, hbb]; simp⟩
                      replace hm0 := eq_true hm0
                      replace hm1 := eq_true hm1
                      clear hb3 hm hbb
                      go_wp2
                      go_roundg k3
                      case measure => omega
                      case rel => exact ⟨i3 + 1, jp, f.set j3.toNat bb, (xrf), HJP, ⟨by have := HI3.out; omega⟩, ⟨by rw [List.length_set]; exact HL3.out⟩, ⟨by rw [← HU.out]; exact HT4.out⟩, ⟨xK HH⟩, ⟨rob_set FF.out _ _⟩, ⟨xK BE⟩, ⟨xW W2⟩⟩
                    · have hpb := decide_eq_false hp
                      have HU : Aside0 (Clo.upd (prL r.f3) f i3 = f.set j3.toNat false) := ⟨by
                        have := HLI.out
                        unfold Clo.upd
                        rw [← this, hb3, this, HPL.out, decide_eq_false (show ¬ 0 < (rd_T104 r.f3 j3).f2.toNat by omega)]; simp⟩
                      clear hb3
                      go_wp2
                      go_roundg k3
                      case measure => omega
                      case rel => exact ⟨i3 + 1, jp, f.set j3.toNat false, (xrf), HJP, ⟨by have := HI3.out; omega⟩, ⟨by rw [List.length_set]; exact HL3.out⟩, ⟨by rw [← HU.out]; exact HT4.out⟩, ⟨xK HH⟩, ⟨rob_set FF.out _ _⟩, ⟨xK BE⟩, ⟨xW W2⟩⟩
              have hlt : decide (j2 < (r.f3.length : Int)) = false := decide_eq_false (by have := HJ2.out; omega)
              have hT := HT.out
              rw [show gk = 0 by have := HI2.out; omega, rndF] at hT
              subst hT
              clear HT HI2 HJ2 hi
              have hzr := blkc11 (blk_below BR2.out W2.out)
              go_upto_region 40 with fail
              clear hzr hlt
              go_loopg [24, 150] r.f3.length (fun kq v24 v150 w' => ∃ (i : Nat) (j2 s : Int), v24 = .int .i64 s ∧ v150 = .int .i64 j2 ∧ Aside0 (j2 = (i : Int)) ∧ Aside0 (i + kq = r.f3.length) ∧ Aside0 (someF hb f kq i s = ss) ∧ Aside0 (w'.heap[gh]? = some (.cells ⟨(hb : List Int).map (Value.int .i64)⟩ 101 (0, 0))) ∧ Aside0 (w'.heap[gf]? = some (.cells ⟨(f : List Bool).map Value.bool⟩ 107 (0, 0))) ∧ Aside0 (w'.heap[ge]? = some (.cells #[.int .i64 (rd_T98 r.f7 j).f0, .int .i64 (rd_T98 r.f7 j).f1, .int .i64 (rd_T98 r.f7 j).f2, .bool (rd_T98 r.f7 j).f3] 98 (0, 0))) ∧ Aside0 (Below w2.heap.size w2 w'))
              case atStart => exact ⟨0, 0, 0, rfl, rfl, ⟨rfl⟩, ⟨by omega⟩, HSS, HH, FF, BE, W2⟩
              case round =>
                clear HSS HH FF BE W2
                obtain ⟨i2, j2, s, rfl, rfl, HJ2, HI2, HT, HH, FF, BE, W2⟩ := hrel
                by_cases hi : i2 = r.f3.length
                rotate_left
                ·
                  obtain ⟨k2, rfl⟩ : ∃ k2, gk = k2 + 1 := ⟨gk - 1, by have := HI2.out; omega⟩
                  have q2 : decide (j2 < (r.f3.length : Int)) = true := decide_eq_true (by have := HJ2.out; have := HI2.out; omega)
                  have hk0 : 0 ≤ j2 := by have := HJ2.out; omega
                  have hk1 : j2 < (r.f3.length : Int) := by have := HJ2.out; have := HI2.out; omega
                  have hki : j2.toNat = i2 := by have := HJ2.out; omega
                  have HKI := xm hki
                  clear hki
                  obtain ⟨jm, hjm⟩ : ∃ jm : Int, IntKind.i64.wrap (j2 + 1) = jm := ⟨_, rfl⟩
                  have HJM : Aside0 (jm = ((i2 + 1 : Nat) : Int)) := ⟨by rw [← hjm, HJ2.out, i64_w]; have := HI2.out; have := HV.out.len; unfold wrap64; omega⟩
                  have hT := HT.out
                  rw [someF] at hT
                  have hy := row_cell HH.out hk0 (by have := HL.out; have := HV.out.len; omega)
                  have hy2 := rob_cell FF.out (show j2.toNat < f.length from by have := HL2.out; have := HV.out.len; omega)
                  have p6 : (j2 < 6) = True := eq_true (by have := HV.out.len; omega)
                  replace hk0 := eq_true hk0
                  replace hk1 := eq_true hk1
                  obtain ⟨nn, hnn⟩ : ∃ nn, rd hb j2 = nn := ⟨_, rfl⟩
                  rw [hnn] at hy
                  obtain ⟨sa, hsa⟩ : ∃ sa, wrap64 (s + nn) = sa := ⟨_, rfl⟩
                  have hw3 : IntKind.i64.wrap (s + nn) = sa := (i64_w _).trans hsa
                  cases hb3 : f.getD j2.toNat false with
                  | true =>
                    rw [hb3] at hy2
                    rw [← HKI.out, hb3, if_pos rfl, HKI.out, ← HJ2.out, hnn, hsa] at hT
                    have HT3 := xm hT
                    clear hT hb3 hnn hsa
                    go_wp2
                    go_roundg k2
                    case measure => omega
                    case rel => exact ⟨i2 + 1, jm, sa, (xrf), (xrf), HJM, ⟨by have := HI2.out; omega⟩, HT3, HH, FF, BE, W2⟩
                  | false =>
                    rw [hb3] at hy2
                    rw [← HKI.out, hb3, if_neg (by decide), HKI.out] at hT
                    have HT3 := xm hT
                    clear hT hb3 hnn hsa
                    go_wp2
                    go_roundg k2
                    case measure => omega
                    case rel => exact ⟨i2 + 1, jm, s, (xrf), (xrf), HJM, ⟨by have := HI2.out; omega⟩, HT3, HH, FF, BE, W2⟩
                have hlt : decide (j2 < (r.f3.length : Int)) = false := decide_eq_false (by have := HJ2.out; omega)
                have hT := HT.out
                rw [show gk = 0 by have := HI2.out; omega, someF] at hT
                subst hT
                clear HT HI2 HJ2 hi FF
                have hzr := blkc11 (blk_below BR2.out W2.out)
                go_upto_region 45 with fail
                clear hlt
                go_cut [26] (fun v26 wc => v26 = .bool gB ∧ Aside0 (wc.heap[gh]? = some (.cells ⟨(hb : List Int).map (Value.int .i64)⟩ 101 (0, 0))) ∧ Aside0 (wc.heap[ge]? = some (.cells #[.int .i64 (rd_T98 r.f7 j).f0, .int .i64 (rd_T98 r.f7 j).f1, .int .i64 (rd_T98 r.f7 j).f2, .bool (rd_T98 r.f7 j).f3] 98 (0, 0))) ∧ Aside0 (Below w2.heap.size w2 wc))
                case first =>
                  have hG := HGB.out
                  obtain ⟨kb, hkb⟩ : ∃ kb, r.f6 = kb := ⟨_, rfl⟩
                  rw [hkb] at hzr hG
                  clear hkb
                  cases kb with
                  | true =>
                    rw [Bool.true_and] at hG
                    subst hG
                    go_wp2
                    go_meet
                    case rel => exact ⟨xrf, HH, BE, W2⟩
                  | false =>
                    rw [Bool.false_and] at hG
                    subst hG
                    go_wp2
                    go_meet
                    case rel => exact ⟨xrf, HH, BE, W2⟩
                case rest =>
                  clear HH BE W2 hzr
                  obtain ⟨rfl, HH, BE, W2⟩ := hcut
                  have hze := blkc4 BE.out
                  go_upto_region 46 with fail
                  obtain ⟨q, hq⟩ : ∃ q, rd_T98 r.f7 j = q := ⟨_, rfl⟩
                  rw [hq] at hze HO2
                  clear hq
                  cases o with
                  | true =>
                    go_wp2
                    go_roundg k1
                    case measure => omega
                    case rel => exact ⟨i + 1, jn, o2, (by rw [← HO2.out]; simp [outB, Bool.true_or]), (xrf), HJN, ⟨by have := HI.out; omega⟩, HT2, HH, W2⟩
                  | false =>
                    cases hl : q.f3 with
                    | true =>
                      rw [hl] at hze
                      go_wp2
                      go_roundg k1
                      case measure => omega
                      case rel => exact ⟨i + 1, jn, o2, (by rw [← HO2.out]; simp [outB, hl]), (xrf), HJN, ⟨by have := HI.out; omega⟩, HT2, HH, W2⟩
                    | false =>
                      rw [hl] at hze
                      by_cases kz : q.f0 = 0
                      · have k0b := beq_iff_eq.mpr kz
                        have k1b : (q.f0 == 1) = false := beq_eq_false_iff_ne.mpr (by omega)
                        have k2b : (q.f0 == 2) = false := beq_eq_false_iff_ne.mpr (by omega)
                        by_cases ca : a ≥ q.f2
                        · have cb := decide_eq_true ca
                          go_wp2
                          go_roundg k1
                          case measure => omega
                          case rel => exact ⟨i + 1, jn, o2, (by rw [← HO2.out]; simp [outB, hl, kz, ca]), (xrf), HJN, ⟨by have := HI.out; omega⟩, HT2, HH, W2⟩
                        · have cb := decide_eq_false ca
                          cases gB with
                          | true =>
                            go_wp2
                            go_roundg k1
                            case measure => omega
                            case rel => exact ⟨i + 1, jn, o2, (by rw [← HO2.out]; simp [outB, hl, kz]), (xrf), HJN, ⟨by have := HI.out; omega⟩, HT2, HH, W2⟩
                          | false =>
                            go_wp2
                            go_roundg k1
                            case measure => omega
                            case rel => exact ⟨i + 1, jn, o2, (by rw [← HO2.out]; simp [outB, hl, kz, ca]), (xrf), HJN, ⟨by have := HI.out; omega⟩, HT2, HH, W2⟩
                      · have k0b := beq_eq_false_iff_ne.mpr kz
                        by_cases ko : q.f0 = 1
                        · have k1b := beq_iff_eq.mpr ko
                          have k2b : (q.f0 == 2) = false := beq_eq_false_iff_ne.mpr (by omega)
                          by_cases cs : s > 0
                          · have cb := decide_eq_true cs
                            go_wp2
                            go_roundg k1
                            case measure => omega
                            case rel => exact ⟨i + 1, jn, o2, (by rw [← HO2.out]; simp [outB, hl, ko, cs]), (xrf), HJN, ⟨by have := HI.out; omega⟩, HT2, HH, W2⟩
                          · have cb := decide_eq_false cs
                            cases gB with
                            | true =>
                              go_wp2
                              go_roundg k1
                              case measure => omega
                              case rel => exact ⟨i + 1, jn, o2, (by rw [← HO2.out]; simp [outB, hl, ko]), (xrf), HJN, ⟨by have := HI.out; omega⟩, HT2, HH, W2⟩
                            | false =>
                              go_wp2
                              go_roundg k1
                              case measure => omega
                              case rel => exact ⟨i + 1, jn, o2, (by rw [← HO2.out]; simp [outB, hl, ko, cs]), (xrf), HJN, ⟨by have := HI.out; omega⟩, HT2, HH, W2⟩
                        · have k1b := beq_eq_false_iff_ne.mpr ko
                          by_cases kt : q.f0 = 2
                          · have k2b := beq_iff_eq.mpr kt
                            go_wp2
                            go_roundg k1
                            case measure => omega
                            case rel => exact ⟨i + 1, jn, o2, (by rw [← HO2.out]; simp [outB, hl, kt]), (xrf), HJN, ⟨by have := HI.out; omega⟩, HT2, HH, W2⟩
                          · have k2b := beq_eq_false_iff_ne.mpr kt
                            go_wp2
                            go_roundg k1
                            case measure => omega
                            case rel => exact ⟨i + 1, jn, o2, (by rw [← HO2.out]; simp [outB, hl, kz, ko, kt]), (xrf), HJN, ⟨by have := HI.out; omega⟩, HT2, HH, W2⟩
def evB (l : List S98) : Bool := decide (l.length ≤ 1000) && l.all (fun q => decide (0 ≤ q.f1 ∧ q.f1 < 6))
theorem qe_mem (L : List S98) (j : Int) (h0 : 0 ≤ j) (h1 : j < (L.length : Int)) : rd_T98 L j ∈ L := by
  have h : j.toNat < L.length := by omega
  rw [show rd_T98 L j = L[j.toNat] by simp [rd_T98, List.getD_eq_getElem?_getD, h]]; exact List.getElem_mem _
theorem ev_of {l : List S98} (h : evB l = true) : EVal l := by
  unfold evB at h
  obtain ⟨h1, h2⟩ := Bool.and_eq_true_iff.1 h
  exact ⟨of_decide_eq_true h1, fun j h0 h1 => of_decide_eq_true (List.all_eq_true.1 h2 _ (qe_mem l j h0 h1))⟩
def gamehalllaw3_able.f (k : Nat) (a0 : ByteArray) (a1 a2 : Int) (l3 : List S104) (l4 : List Int) (a5 a6 : Bool) (l7 : List S98) (a8 a9 a10 : Int) (b0 b1 b2 : List Int) (b3 b4 pl : Int) : Option Bool := if ((pvB l3 && qvB l3 (posQ b0 b1 b2 b3 b4) pl) && evB l7) = true then some (ableV ⟨a0, a1, a2, l3, l4, a5, a6, l7, a8, a9, a10⟩ (posQ b0 b1 b2 b3 b4) pl) else none
theorem gamehalllaw3_able.mono : ∀ a0 a1 a2 a3 a4 a5 a6 a7 a8 a9 a10 b0 b1 b2 b3 b4 pl k, LeO (gamehalllaw3_able.f k a0 a1 a2 a3 a4 a5 a6 a7 a8 a9 a10 b0 b1 b2 b3 b4 pl) (gamehalllaw3_able.f (k + 1) a0 a1 a2 a3 a4 a5 a6 a7 a8 a9 a10 b0 b1 b2 b3 b4 pl) := fun _ _ _ _ _ _ _ _ _ _ _ _ _ _ _ _ _ _ => LeO.refl _
theorem gamehalllaw3_able.calls (k : Nat) (a0_0 : ByteArray) (a0_1 : Int) (a0_2 : Int) (A0_3 : Option Addr) (c0_3 : Nat) (l0_3 : List S104) (A0_4 : Option Addr) (c0_4 : Nat) (l0_4 : List Int) (a0_5 : Bool) (a0_6 : Bool) (A0_7 : Option Addr) (c0_7 : Nat) (l0_7 : List S98) (a0_8 : Int) (a0_9 : Int) (a0_10 : Int) (A1_0 : Option Addr) (c1_0 : Nat) (l1_0 : List Int) (A1_1 : Option Addr) (c1_1 : Nat) (l1_1 : List Int) (A1_2 : Option Addr) (c1_2 : Nat) (l1_2 : List Int) (a1_3 : Int) (a1_4 : Int) (a2 : Int) (r : Bool) (w : World) (hr0_3 : Kd.C k104 w A0_3 l0_3.length l0_3) (hc0_3 : l0_3.length ≤ c0_3) (hr0_4 : Kd.C (Kd.int .i64) w A0_4 l0_4.length l0_4) (hc0_4 : l0_4.length ≤ c0_4) (hr0_7 : Kd.C k98 w A0_7 l0_7.length l0_7) (hc0_7 : l0_7.length ≤ c0_7) (hr1_0 : Kd.C (Kd.int .i64) w A1_0 l1_0.length l1_0) (hc1_0 : l1_0.length ≤ c1_0) (hr1_1 : Kd.C (Kd.int .i64) w A1_1 l1_1.length l1_1) (hc1_1 : l1_1.length ≤ c1_1) (hr1_2 : Kd.C (Kd.int .i64) w A1_2 l1_2.length l1_2) (hc1_2 : l1_2.length ≤ c1_2) (h : gamehalllaw3_able.f k a0_0 a0_1 a0_2 l0_3 l0_4 a0_5 a0_6 l0_7 a0_8 a0_9 a0_10 l1_0 l1_1 l1_2 a1_3 a1_4 a2 = some r) :
    Calls Try.prog 26 #[.agg #[.string a0_0, .int .i64 a0_1, .int .i64 a0_2, .slice A0_3 l0_3.length c0_3, .slice A0_4 l0_4.length c0_4, .bool a0_5, .bool a0_6, .slice A0_7 l0_7.length c0_7, .int .i64 a0_8, .int .i64 a0_9, .int .i64 a0_10], .agg #[.slice A1_0 l1_0.length c1_0, .slice A1_1 l1_1.length c1_1, .slice A1_2 l1_2.length c1_2, .int .i64 a1_3, .int .i64 a1_4], .int .i64 a2] w fun e w' => e = .returned (.bool r) ∧ Below w.heap.size w w' := by
  unfold gamehalllaw3_able.f at h
  by_cases hc : ((pvB l0_3 && qvB l0_3 (posQ l1_0 l1_1 l1_2 a1_3 a1_4) a2) && evB l0_7) = true
  · rw [if_pos hc] at h
    obtain ⟨h0, h3⟩ := Bool.and_eq_true_iff.1 hc
    obtain ⟨h1, h2⟩ := Bool.and_eq_true_iff.1 h0
    exact able_any ⟨a0_0, a0_1, a0_2, l0_3, l0_4, a0_5, a0_6, l0_7, a0_8, a0_9, a0_10⟩ (posQ l1_0 l1_1 l1_2 a1_3 a1_4) w ⟨hc0_3, hr0_3, hc0_4, hr0_4, hc0_7, hr0_7⟩ ⟨hc1_0, hr1_0, hc1_1, hr1_1, hc1_2, hr1_2⟩ (pv_of h1) a2 (qv_of h2) (ev_of h3) r (Option.some.inj h)
  · rw [if_neg hc] at h
    cases h
end Go.Proofs.Ytkpphlimnnifkaa.PClaimFalls
