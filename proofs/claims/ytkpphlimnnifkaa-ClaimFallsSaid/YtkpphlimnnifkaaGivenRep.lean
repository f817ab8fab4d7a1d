/- Packages plain and claim (Repeats, for a record without moves), walked by hand. -/
import Derived.Test.YtkpphlimnnifkaaPClaimFallsx10
import Derived.Test.YtkpphlimnnifkaaPClaimFallsx8
namespace Go.Proofs.Ytkpphlimnnifkaa.PClaimFalls
open Go.RowKit Go.Proofs.YtkpphlimnnifkaaW.PrintWords Go.Proofs.YtkpphlimnnifkaaW.PrintLast Go.Proofs.YtkpphlimnnifkaaW.PrintMore
set_option maxHeartbeats 4000000
set_option maxRecDepth 100000
set_option linter.unusedVariables false
set_option linter.unusedSimpArgs false
/-- a position of five results -/
def posQ (a b c : List Int) (d e : Int) : S41 := ⟨a, ⟨b, c⟩, d, e⟩
/-- the last position of a list -/
def lastP (ps : List S41) : S41 := rd_T41 ps ((ps.length : Int) - 1)
/-- a literal's row, right behind it -/
theorem lit_now {α : Type} (d : Kd α) {W : World} (base e : Nat) {xs : List α} {inner : List Value} {ok okp : Nat → Prop} (hrep : Reps (d.M W base okp) d.sz xs inner) (hok : ∀ k, okp k → ok k) (hfresh : ok W.heap.size) (hbase : base ≤ W.heap.size) (hm : xs.length ≤ 9223372036854775807) :
    d.R e (W.alloc (.cells inner.toArray e)) base ok (.slice (some ⟨W.heap.size, 0, none⟩) xs.length xs.length) xs := by
  refine ⟨fun k hk => ?_, inner, ?_, ?_⟩
  · have : W.heap.size = k := by simpa [Value.ownBlock] using hk
    subst this
    exact hfresh
  · have h2 := World.ownsRow_lit (base := base) (e := e) (size := d.sz) W inner.toArray xs.length hbase (by simpa [maxLen] using hm) (by simpa using hrep.1)
    simpa using h2
  · refine hrep.imp_ (fun p c hp => d.M_mono (fun k hk => ⟨hok k hk.1, fun he => ?_⟩) (Kd.M_below (d.M_bound hp) (below_alloc (Below.refl _ _) _)))
    have h3 : k = W.heap.size := by simpa [Value.ownBlock] using he
    have := hk.2.2.1
    omega
/-- what cells hold -/
def Cells : List (Addr × Value) → World → Prop
  | [], _ => True
  | (a, v) :: cs, w => w.cell? a = some v ∧ Cells cs w
theorem Cells.below {w w1 : World} (hb : Below w.heap.size w w1) : ∀ {L : List (Addr × Value)}, Cells L w → Cells L w1
  | [], _ => trivial
  | (a, v) :: cs, h => ⟨(hb.cell (World.block_lt_of_cell? w _ h.1)).trans h.1, Cells.below hb h.2⟩
/-- a load of such cells, ahead of all else in a region that draws -/
theorem tc_ {P : Program} {md : Region.Mode} {ops : Array Oper} {Q : Exit → Act → World → Prop} {L : List (Addr × Value)} {ds : List Nat} {fuel : Nat} {l : Array Bool} {a a' : Act} {w : World} {oi : Oper} {v : Value} {T : Bool × List (List Nat × List Nat)} {B : List Nat} (i N : Nat) (HT : Aside0 (rtab md ops = T)) (HW : Aside0 (waitsOk T.2 B = true)) (hS : Cells L w) (h : wpAnyLast P md ops Q (Cells L) ds fuel ⟨l.toList.set i true⟩ a' w) (hi : ops[i]? = some oi := by rfl) (hN : oi.dst = some N := by rfl) (hc : takeW T B ds l.toList (l.toList.set i true) i = true := by as_aux_lemma => kernel_rfl)
    (hQ : ∀ c a w, Q (.panic c) (a.put oi.dst v) w → Q (.panic c) a w := by exact fun _ _ _ h => h) (hw : Region.wanted oi (yielded ops a.tmps) = true := by rfl) (hy : ∀ w, Cells L w → (execOp a.eval oi).run P w = .ok (.value v) w := by intro w' hS_; simp only [Cells] at hS_; repeat (obtain ⟨h_, hS_⟩ := hS_); go_simp; with_reducible rfl)
    (ha : a.put (some N) v = a' := by simp only [Act.put, List.setIfInBounds_toArray, List.set_cons_zero, List.set_cons_succ, i64_w, i32_w]; rfl) : wpAnyLast P md ops Q (Cells L) ds (fuel + 1) l a w := take_ ⟨l.toList.set i true⟩ hi hN (take_ofW HT.out HW.out hc) hQ (Or.inl ⟨hw, hy⟩) hS ha h
theorem nr_ {P : Program} {md : Region.Mode} {ops : Array Oper} {Q : Exit → Act → World → Prop} {S : World → Prop} {ds : List Nat} {fuel : Nat} {l : Array Bool} {a a' : Act} {w : World} (h : wpAnyLast P md ops Q S ds fuel l a' w) (ha : a = a' := by (try show Act.put _ (some _) _ = _); simp only [putAll, Act.put, List.setIfInBounds_toArray, List.set_cons_zero, List.set_cons_succ, i64_w, i32_w]; rfl) : wpAnyLast P md ops Q S ds fuel l a w := norm_ ha h
/-- what leads to rows of other types leads to none of a row's block -/
theorem made_apart {α β : Type} {d : Kd α} {d' : Kd β} {w : World} {base base' e : Nat} {ok ok' : Nat → Prop} {x : α} {cs : List Value} {v : Value} {ys : List β} (h : d.M w base ok x cs) (hy : d'.R e w base' ok' v ys) (hE : ∀ q, q ∈ d.E → q ≠ e) : d.M w base (fun k => ok k ∧ some k ≠ v.ownBlock) x cs := by
  refine d.M_mono (fun k hk => ⟨hk.1, fun he => ?_⟩) (d.M_bound h)
  obtain ⟨_, _, _, q, hq, cells, hc⟩ := hk
  obtain ⟨_, inner, ho, _⟩ := hy
  obtain ⟨cells', hc'⟩ := own_typed ho k he.symm
  rw [hc] at hc'
  injection hc' with hc'
  injection hc' with _ h2
  exact hE q hq h2
/-! the callees, told by rules and positions -/
/-- a rules' value in memory that is only read -/
def rulesV (A3 : Option Addr) (c3 : Nat) (A4 : Option Addr) (c4 : Nat) (A7 : Option Addr) (c7 : Nat) (r : S26) : List Value := [.string r.f0, .int .i64 r.f1, .int .i64 r.f2, .slice A3 r.f3.length c3, .slice A4 r.f4.length c4, .bool r.f5, .bool r.f6, .slice A7 r.f7.length c7, .int .i64 r.f8, .int .i64 r.f9, .int .i64 r.f10]
structure RIn (w : World) (A3 : Option Addr) (c3 : Nat) (A4 : Option Addr) (c4 : Nat) (A7 : Option Addr) (c7 : Nat) (r : S26) : Prop where
  l3 : r.f3.length ≤ c3
  g3 : Kd.C k104 w A3 r.f3.length r.f3
  l4 : r.f4.length ≤ c4
  g4 : Kd.C (Kd.int .i64) w A4 r.f4.length r.f4
  l7 : r.f7.length ≤ c7
  g7 : Kd.C k98 w A7 r.f7.length r.f7
theorem RIn.below {w w1 : World} {A3 : Option Addr} {c3 : Nat} {A4 : Option Addr} {c4 : Nat} {A7 : Option Addr} {c7 : Nat} {r : S26} (h : RIn w A3 c3 A4 c4 A7 c7 r) (hb : Below w.heap.size w w1) : RIn w1 A3 c3 A4 c4 A7 c7 r :=
  ⟨h.l3, Kd.C_below h.g3 hb, h.l4, Kd.C_below h.g4 hb, h.l7, Kd.C_below h.g7 hb⟩
structure PIn (w : World) (A0 : Option Addr) (c0 : Nat) (A1 : Option Addr) (c1 : Nat) (A2 : Option Addr) (c2 : Nat) (p : S41) : Prop where
  l0 : p.f0.length ≤ c0
  g0 : Kd.C (Kd.int .i64) w A0 p.f0.length p.f0
  l1 : p.f1.f0.length ≤ c1
  g1 : Kd.C (Kd.int .i64) w A1 p.f1.f0.length p.f1.f0
  l2 : p.f1.f1.length ≤ c2
  g2 : Kd.C (Kd.int .i64) w A2 p.f1.f1.length p.f1.f1
theorem PIn.below {w w1 : World} {A0 : Option Addr} {c0 : Nat} {A1 : Option Addr} {c1 : Nat} {A2 : Option Addr} {c2 : Nat} {p : S41} (h : PIn w A0 c0 A1 c1 A2 c2 p) (hb : Below w.heap.size w w1) : PIn w1 A0 c0 A1 c1 A2 c2 p :=
  ⟨h.l0, Kd.C_below h.g0 hb, h.l1, Kd.C_below h.g1 hb, h.l2, Kd.C_below h.g2 hb⟩
section
variable {w : World} {A3 : Option Addr} {c3 : Nat} {A4 : Option Addr} {c4 : Nat} {A7 : Option Addr} {c7 : Nat} {r : S26} {A0 : Option Addr} {c0 : Nat} {A1 : Option Addr} {c1 : Nat} {A2 : Option Addr} {c2 : Nat} {p : S41}
theorem mkQ {w : World} {base : Nat} {o0 o1 o2 : Nat → Prop} {v0 v1 v2 : Value} {t1 t2 t3 : List Int} {t4 t5 : Int} (h0 : Kd.R (Kd.int .i64) 3 w base o0 v0 t1) (h1 : Kd.R (Kd.int .i64) 3 w base o1 v1 t2) (h2 : Kd.R (Kd.int .i64) 3 w base o2 v2 t3) : k41.M w base (fun _ => True) (posQ t1 t2 t3 t4 t5) [v0, v1, v2, .int .i64 t4, .int .i64 t5] :=
  k41_mkM w base _ (posQ t1 t2 t3 t4 t5) (Kd.R_mono h0 (fun _ _ => trivial)) (Kd.R_mono h1 (fun _ _ => trivial)) (Kd.R_mono h2 (fun _ _ => trivial))
theorem begin_any {k : Nat} {t1 t2 t3 : List Int} {t4 t5 t6 : Int} (hr : RIn w A3 c3 A4 c4 A7 c7 r) (h : place_Begin.f k r.f0 r.f1 r.f2 r.f3 r.f4 r.f5 r.f6 r.f7 r.f8 r.f9 r.f10 = some (t1, t2, t3, t4, t5, t6)) :
    Calls Try.prog 39 #[.agg (rulesV A3 c3 A4 c4 A7 c7 r).toArray] w fun e w' => ∃ B0 d0 B1 d1 B2 d2, e = .returned (.tuple #[.agg #[.slice B0 t1.length d0, .slice B1 t2.length d1, .slice B2 t3.length d2, .int .i64 t4, .int .i64 t5], .int .i64 t6]) ∧ k41.M w' w.heap.size (fun _ => True) (posQ t1 t2 t3 t4 t5) [.slice B0 t1.length d0, .slice B1 t2.length d1, .slice B2 t3.length d2, .int .i64 t4, .int .i64 t5] ∧ Below w.heap.size w w' := by
  refine (place_Begin.calls k _ _ _ A3 c3 _ A4 c4 _ _ _ A7 c7 _ _ _ _ _ _ _ _ _ _ w hr.g3 hr.l3 hr.g4 hr.l4 hr.g7 hr.l7 h).mono ?_
  rintro e w' ⟨v0, v1, v2, rfl, h0, h1, h2, hb⟩
  obtain ⟨B0, d0, rfl⟩ := Kd.R_slice h0
  obtain ⟨B1, d1, rfl⟩ := Kd.R_slice h1
  obtain ⟨B2, d2, rfl⟩ := Kd.R_slice h2
  exact ⟨B0, d0, B1, d1, B2, d2, rfl, mkQ h0 h1 h2, hb⟩
/-- an element of a row of positions: where it lies, and what it leads to -/
theorem elem_at {ps : List S41} {ad : Addr} {i : Int} (hc : Kd.C k41 w (some ad) ps.length ps) (h0 : 0 ≤ i) (h1 : i < (ps.length : Int)) : ∃ A0 c0 A1 c1 A2 c2, PIn w A0 c0 A1 c1 A2 c2 (rd_T41 ps i) ∧ w.cell? (ad.add (i.toNat * 5)) = some (.slice A0 (rd_T41 ps i).f0.length c0) ∧ w.cell? ⟨(ad.add (i.toNat * 5)).block, (ad.add (i.toNat * 5)).off + 1, none⟩ = some (.slice A1 (rd_T41 ps i).f1.f0.length c1) ∧ w.cell? ⟨(ad.add (i.toNat * 5)).block, (ad.add (i.toNat * 5)).off + 2, none⟩ = some (.slice A2 (rd_T41 ps i).f1.f1.length c2) ∧ w.cell? ⟨(ad.add (i.toNat * 5)).block, (ad.add (i.toNat * 5)).off + 3, none⟩ = some (.int .i64 (rd_T41 ps i).f2) ∧ w.cell? ⟨(ad.add (i.toNat * 5)).block, (ad.add (i.toNat * 5)).off + 4, none⟩ = some (.int .i64 (rd_T41 ps i).f3) := by
  obtain ⟨ad', A0, c0, A1, c1, A2, c2, e, x0, x1, x2, x3, x4, l0, g0, l1, g1, l2, g2⟩ := at_T41 hc i h0 h1
  obtain rfl : ad = ad' := Option.some.inj e
  exact ⟨A0, c0, A1, c1, A2, c2, ⟨l0, g0, l1, g1, l2, g2⟩, x0, x1, x2, x3, x4⟩
end
def pl_count (k : Nat) (q : S41) : List S41 → Int → Option Int
  | [], n => some n
  | p :: xs, n => (place_Same.f k p.f0 p.f1.f0 p.f1.f1 p.f2 p.f3 q.f0 q.f1.f0 q.f1.f1 q.f2 q.f3).bind fun b => if b = true then pl_count k q xs (wrap64 (n + 1)) else pl_count k q xs n
def pl_result (k : Nat) (r : S26) (ps : List S41) : Option Int := (ends_Result.f k r.f0 r.f1 r.f2 r.f3 r.f4 r.f5 r.f6 r.f7 r.f8 r.f9 r.f10 (lastP ps).f0 (lastP ps).f1.f0 (lastP ps).f1.f1 (lastP ps).f2 (lastP ps).f3).bind fun x =>
  if x = 0 then (if r.f10 > 0 then (pl_count k (lastP ps) ps 0).bind fun n => (if n ≥ r.f10 then some 3 else some x) else some x) else some x
theorem pl_count.mono (q : S41) (k : Nat) : ∀ (xs : List S41) (n : Int), LeO (pl_count k q xs n) (pl_count (k + 1) q xs n)
  | [], n => LeO.refl _
  | p :: xs, n => by
    unfold pl_count
    exact LeO.bind (place_Same.mono _ _ _ _ _ _ _ _ _ _ _) (fun b => LeO.ite (pl_count.mono q k xs _) (pl_count.mono q k xs _))
theorem pl_result.mono (r : S26) (ps : List S41) (k : Nat) : LeO (pl_result k r ps) (pl_result (k + 1) r ps) := by
  unfold pl_result
  refine LeO.bind (ends_Result.mono _ _ _ _ _ _ _ _ _ _ _ _ _ _ _ _ _) (fun x => LeO.ite (LeO.ite ?_ (LeO.refl _)) (LeO.refl _))
  exact LeO.bind (pl_count.mono _ k _ _) (fun n => LeO.refl _)
/-- a game at block g: copied rules, the positions, the moves; all of it above base -/
structure GameIn (W : World) (base g : Nat) (A3 : Option Addr) (c3 : Nat) (A4 : Option Addr) (c4 : Nat) (A7 : Option Addr) (c7 : Nat) (A8 : Option Addr) (c8 : Nat) (A9 : Option Addr) (c9 : Nat) (r : S26) (ps : List S41) (ms : List S38) : Prop where
  ge : base ≤ g
  bx : W.heap[g]? = some (.cells #[.string r.f0, .int .i64 r.f1, .int .i64 r.f2, .slice A3 r.f3.length c3, .slice A4 r.f4.length c4, .bool r.f5, .bool r.f6, .slice A7 r.f7.length c7, .int .i64 r.f8, .int .i64 r.f9, .int .i64 r.f10, .slice A8 ps.length c8, .slice A9 ms.length c9] 133 (0, 0))
  r3 : Kd.R k104 104 W base (fun _ => True) (.slice A3 r.f3.length c3) r.f3
  r4 : Kd.R (Kd.int .i64) 3 W base (fun _ => True) (.slice A4 r.f4.length c4) r.f4
  r7 : Kd.R k98 98 W base (fun _ => True) (.slice A7 r.f7.length c7) r.f7
  rp : Kd.R k41 41 W base (fun _ => True) (.slice A8 ps.length c8) ps
  rm : Kd.R k38 38 W base (fun _ => True) (.slice A9 ms.length c9) ms
section
variable {W W1 : World} {base g : Nat} {A3 : Option Addr} {c3 : Nat} {A4 : Option Addr} {c4 : Nat} {A7 : Option Addr} {c7 : Nat} {A8 : Option Addr} {c8 : Nat} {A9 : Option Addr} {c9 : Nat} {r : S26} {ps : List S41} {ms : List S38}
theorem GameIn.below (h : GameIn W base g A3 c3 A4 c4 A7 c7 A8 c8 A9 c9 r ps ms) (hb : Below W.heap.size W W1) : GameIn W1 base g A3 c3 A4 c4 A7 c7 A8 c8 A9 c9 r ps ms :=
  ⟨h.ge, (hb.block _ (blk_lt h.bx)).trans h.bx, Kd.R_below h.r3 hb, Kd.R_below h.r4 hb, Kd.R_below h.r7 hb, Kd.R_below h.rp hb, Kd.R_below h.rm hb⟩
theorem GameIn.rin (h : GameIn W base g A3 c3 A4 c4 A7 c7 A8 c8 A9 c9 r ps ms) : RIn W A3 c3 A4 c4 A7 c7 r :=
  ⟨(Kd.R_reads' h.r3).2.1, (Kd.R_reads' h.r3).2.2, (Kd.R_reads' h.r4).2.1, (Kd.R_reads' h.r4).2.2, (Kd.R_reads' h.r7).2.1, (Kd.R_reads' h.r7).2.2⟩
theorem GameIn.addr (h : GameIn W base g A3 c3 A4 c4 A7 c7 A8 c8 A9 c9 r ps ms) (h0 : 0 < ps.length) : ∃ ad8 : Addr, A8 = some ad8 := by
  obtain ⟨q, cap, e, _⟩ := Kd.R_form h.rp h0
  injection e with e1 _ _
  exact ⟨_, e1⟩
end
theorem result_any {w : World} {A3 : Option Addr} {c3 : Nat} {A4 : Option Addr} {c4 : Nat} {A7 : Option Addr} {c7 : Nat} {r : S26} {A0 : Option Addr} {c0 : Nat} {A1 : Option Addr} {c1 : Nat} {A2 : Option Addr} {c2 : Nat} {p : S41} {k : Nat} {x : Int} (hr : RIn w A3 c3 A4 c4 A7 c7 r) (hp : PIn w A0 c0 A1 c1 A2 c2 p) (h : ends_Result.f k r.f0 r.f1 r.f2 r.f3 r.f4 r.f5 r.f6 r.f7 r.f8 r.f9 r.f10 p.f0 p.f1.f0 p.f1.f1 p.f2 p.f3 = some x) :
    Calls Try.prog 63 #[.agg (rulesV A3 c3 A4 c4 A7 c7 r).toArray, .agg #[.slice A0 p.f0.length c0, .slice A1 p.f1.f0.length c1, .slice A2 p.f1.f1.length c2, .int .i64 p.f2, .int .i64 p.f3]] w fun e w' => e = .returned (.int .i64 x) ∧ Below w.heap.size w w' :=
  ends_Result.calls k _ _ _ A3 c3 _ A4 c4 _ _ _ A7 c7 _ _ _ _ A0 c0 _ A1 c1 _ A2 c2 _ _ _ _ w hr.g3 hr.l3 hr.g4 hr.l4 hr.g7 hr.l7 hp.g0 hp.l0 hp.g1 hp.l1 hp.g2 hp.l2 h
theorem same_any {w : World} {A0 : Option Addr} {c0 : Nat} {A1 : Option Addr} {c1 : Nat} {A2 : Option Addr} {c2 : Nat} {p : S41} {B0 : Option Addr} {d0 : Nat} {B1 : Option Addr} {d1 : Nat} {B2 : Option Addr} {d2 : Nat} {q : S41} {k : Nat} {x : Bool} (hp : PIn w A0 c0 A1 c1 A2 c2 p) (hq : PIn w B0 d0 B1 d1 B2 d2 q) (h : place_Same.f k p.f0 p.f1.f0 p.f1.f1 p.f2 p.f3 q.f0 q.f1.f0 q.f1.f1 q.f2 q.f3 = some x) :
    Calls Try.prog 38 #[.agg #[.slice A0 p.f0.length c0, .slice A1 p.f1.f0.length c1, .slice A2 p.f1.f1.length c2, .int .i64 p.f2, .int .i64 p.f3], .agg #[.slice B0 q.f0.length d0, .slice B1 q.f1.f0.length d1, .slice B2 q.f1.f1.length d2, .int .i64 q.f2, .int .i64 q.f3]] w fun e w' => e = .returned (.bool x) ∧ Below w.heap.size w w' :=
  place_Same.calls k A0 c0 _ A1 c1 _ A2 c2 _ _ _ B0 d0 _ B1 d1 _ B2 d2 _ _ _ _ w hp.g0 hp.l0 hp.g1 hp.l1 hp.g2 hp.l2 hq.g0 hq.l0 hq.g1 hq.l1 hq.g2 hq.l2 h
def plain_now.T1 : Bool × List (List Nat × List Nat) := (true, [([], []), ([0], [0]), ([1], [1]), ([2], [2]), ([], []), ([4], [4]), ([5], [5]), ([6], [6]), ([7], [7]), ([8], [8]), ([3, 9], [3, 9]), ([10], [10]), ([11, 0, 1, 2, 3, 4, 5, 6, 7, 8, 9, 10, 11], [11])])
def plain_now.B1 : List Nat := [0, 1, 3, 7, 0, 16, 48, 112, 240, 496, 1023, 2047, 4095]
theorem plain_now.tab1 : rtab .any (opsOf Try.f75 1) = plain_now.T1 := by kernel_rfl
theorem plain_now.bits1 : waitsOk plain_now.T1.2 plain_now.B1 = true := by kernel_rfl
theorem now_any {W : World} {base g : Nat} {A3 : Option Addr} {c3 : Nat} {A4 : Option Addr} {c4 : Nat} {A7 : Option Addr} {c7 : Nat} {A8 : Option Addr} {c8 : Nat} {A9 : Option Addr} {c9 : Nat} {r : S26} {ps : List S41} {ms : List S38} (hG : GameIn W base g A3 c3 A4 c4 A7 c7 A8 c8 A9 c9 r ps ms) (hp0 : 0 < ps.length) (hp4 : ps.length ≤ 401) :
    Calls Try.prog 75 #[.pointer (some ⟨g, 0, none⟩)] W fun e W' => ∃ E0 f0 E1 f1 E2 f2, e = .returned (.agg #[.slice E0 (lastP ps).f0.length f0, .slice E1 (lastP ps).f1.f0.length f1, .slice E2 (lastP ps).f1.f1.length f2, .int .i64 (lastP ps).f2, .int .i64 (lastP ps).f3]) ∧ PIn W' E0 f0 E1 f1 E2 f2 (lastP ps) ∧ Below W.heap.size W W' := by
  have hu133 := Try.underlying133
  have hu41 := Try.underlying41
  have hss_ := @isSome_setCell
  obtain ⟨ad8, rfl⟩ := hG.addr hp0
  have HG := xm hG
  have HB := xm (Below.refl W.heap.size W)
  obtain ⟨jl, hjl⟩ : ∃ jl : Int, (ps.length : Int) - 1 = jl := ⟨_, rfl⟩
  have hjw : IntKind.i64.wrap ((ps.length : Int) - 1) = jl := by rw [i64_w]; unfold wrap64; omega
  have hl0 : 0 ≤ jl := by omega
  have hl1 : jl < (ps.length : Int) := by omega
  have hlast : lastP ps = rd_T41 ps jl := by unfold lastP; rw [hjl]
  rw [hlast]
  obtain ⟨E0, f0, E1, f1, E2, f2, hPE, z0, z1, z2, z3, z4⟩ := elem_at (Kd.R_reads' hG.rp).2.2 hl0 hl1
  have HPE := xm hPE
  clear hG hp0 hp4 hjl hlast hPE
  go_enter Try.func75, Try.ntmps75
  go_upto_region 1 with ((with_reducible refine gate_dst (N := 2) rfl ?_); refine xG (cs := #[.slice none 0 0, .slice none 0 0, .slice none 0 0, .int .i64 0, .int .i64 0]) (t := 41) ?_; intro gq hg w1 hbox hb; have BQ := xm hbox; have GW := xm (show W.heap.size ≤ gq from by omega); replace HG := xm (HG.out.below hb); replace HB := xS HB hb; clear hb hbox hg)
  replace HG := xm (HG.out.below (below_drew1 (Below.refl _ _))); replace BQ := xm (blk_drew BQ.out); replace HB := xm (below_drew1 HB.out)
  have BG := xm HG.out.bx
  replace z0 := xR HB z0; replace z1 := xR HB z1; replace z2 := xR HB z2; replace z3 := xR HB z3; replace z4 := xR HB z4
  replace hl0 := eq_true hl0
  replace hl1 := eq_true hl1
  refine start_ (n := 13) (S := Cells [(⟨g, 11, none⟩, .slice (some ad8) ps.length c8), (ad8.add (jl.toNat * 5), .slice E0 (rd_T41 ps jl).f0.length f0), (⟨(ad8.add (jl.toNat * 5)).block, (ad8.add (jl.toNat * 5)).off + 1, none⟩, .slice E1 (rd_T41 ps jl).f1.f0.length f1), (⟨(ad8.add (jl.toNat * 5)).block, (ad8.add (jl.toNat * 5)).off + 2, none⟩, .slice E2 (rd_T41 ps jl).f1.f1.length f2), (⟨(ad8.add (jl.toNat * 5)).block, (ad8.add (jl.toNat * 5)).off + 3, none⟩, .int .i64 (rd_T41 ps jl).f2), (⟨(ad8.add (jl.toNat * 5)).block, (ad8.add (jl.toNat * 5)).off + 4, none⟩, .int .i64 (rd_T41 ps jl).f3)]) (ds := [12]) (mk 13 0) (by kernel_rfl) rfl rfl ⟨xc BG 11, z0, z1, z2, z3, z4, trivial⟩ (fun hHeld => ?_)
  refine with_tabW plain_now.tab1 plain_now.bits1 (fun HT_ HW_ => ?_)
  clear z0 z1 z2 z3 z4
  generalize w1.drew = w2 at HG BQ HB BG hHeld ⊢
  refine pu_ 0 3 HT_ ?_; refine pu_ 1 4 HT_ ?_; refine pu_ 2 5 HT_ ?_; refine tc_ 3 6 HT_ HW_ hHeld ?_
  refine pu_ 4 7 HT_ ?_; refine pu_ 5 8 HT_ ?_; refine pu_ 6 9 HT_ ?_; refine tc_ 7 10 HT_ HW_ hHeld ?_
  refine pu_ 8 11 HT_ ?_; refine pu_ 9 12 HT_ ?_; refine pu_ 10 13 HT_ ?_; refine tc_ 11 14 HT_ HW_ hHeld ?_
  have hcq := blkc5 BQ.out
  refine last_ (i := 12) (N := none) (mk 13 8191) rfl rfl (one_of HT_.out (by kernel_rfl)) (by decide) (fun K hK => ?_)
  refine skip_ (w1 := ((((w2.setCell ⟨gq, 0, none⟩ (.slice E0 (rd_T41 ps jl).f0.length f0)).setCell ⟨gq, 1, none⟩ (.slice E1 (rd_T41 ps jl).f1.f0.length f1)).setCell ⟨gq, 2, none⟩ (.slice E2 (rd_T41 ps jl).f1.f1.length f2)).setCell ⟨gq, 3, none⟩ (.int .i64 (rd_T41 ps jl).f2)).setCell ⟨gq, 4, none⟩ (.int .i64 (rd_T41 ps jl).f3)) (by rfl) rfl (by first | (go_simp; done) | (go_simp; rfl)) ?_
  refine hK.out _ _ ?_; clear hK K
  refine norm_ (a' := ?_) ?_ ?_; rotate_left; (· rfl)
  refine done_ (done_of HT_.out (by kernel_rfl)) ?_
  have BQ2 : Aside0 ((((((w2.setCell ⟨gq, 0, none⟩ (.slice E0 (rd_T41 ps jl).f0.length f0)).setCell ⟨gq, 1, none⟩ (.slice E1 (rd_T41 ps jl).f1.f0.length f1)).setCell ⟨gq, 2, none⟩ (.slice E2 (rd_T41 ps jl).f1.f1.length f2)).setCell ⟨gq, 3, none⟩ (.int .i64 (rd_T41 ps jl).f2)).setCell ⟨gq, 4, none⟩ (.int .i64 (rd_T41 ps jl).f3)).heap[gq]? = some (.cells #[.slice E0 (rd_T41 ps jl).f0.length f0, .slice E1 (rd_T41 ps jl).f1.f0.length f1, .slice E2 (rd_T41 ps jl).f1.f1.length f2, .int .i64 (rd_T41 ps jl).f2, .int .i64 (rd_T41 ps jl).f3] 41 (0, 0))) := ⟨xQ BQ⟩
  have HB2 : Aside0 (Below W.heap.size W (((((w2.setCell ⟨gq, 0, none⟩ (.slice E0 (rd_T41 ps jl).f0.length f0)).setCell ⟨gq, 1, none⟩ (.slice E1 (rd_T41 ps jl).f1.f0.length f1)).setCell ⟨gq, 2, none⟩ (.slice E2 (rd_T41 ps jl).f1.f1.length f2)).setCell ⟨gq, 3, none⟩ (.int .i64 (rd_T41 ps jl).f2)).setCell ⟨gq, 4, none⟩ (.int .i64 (rd_T41 ps jl).f3))) := ⟨xW HB⟩
  clear BQ HB HG BG hHeld hcq
  generalize (((((w2.setCell ⟨gq, 0, none⟩ (.slice E0 (rd_T41 ps jl).f0.length f0)).setCell ⟨gq, 1, none⟩ (.slice E1 (rd_T41 ps jl).f1.f0.length f1)).setCell ⟨gq, 2, none⟩ (.slice E2 (rd_T41 ps jl).f1.f1.length f2)).setCell ⟨gq, 3, none⟩ (.int .i64 (rd_T41 ps jl).f2)).setCell ⟨gq, 4, none⟩ (.int .i64 (rd_T41 ps jl).f3)) = w3 at BQ2 HB2 ⊢
  have hcq := blkc5 BQ2.out
  go_wp2
  exact bodyPost_ret (v := .agg #[.slice E0 (rd_T41 ps jl).f0.length f0, .slice E1 (rd_T41 ps jl).f1.f0.length f1, .slice E2 (rd_T41 ps jl).f1.f1.length f2, .int .i64 (rd_T41 ps jl).f2, .int .i64 (rd_T41 ps jl).f3]) (by simp [results, Try.results75, go_sem, hcq, hu41]) rfl ⟨E0, f0, E1, f1, E2, f2, rfl, HPE.out.below HB2.out, HB2.out⟩
def plain_Count.T5 : Bool × List (List Nat × List Nat) := (true, [([], []), ([], []), ([1], [1]), ([0, 2, 2], [0, 2])])
def plain_Count.B5 : List Nat := [0, 0, 2, 7]
theorem plain_Count.tab5 : rtab .any (opsOf Try.f76 5) = plain_Count.T5 := by kernel_rfl
theorem plain_Count.bits5 : waitsOk plain_Count.T5.2 plain_Count.B5 = true := by kernel_rfl
theorem count_any (k : Nat) {W : World} {base g : Nat} {A3 : Option Addr} {c3 : Nat} {A4 : Option Addr} {c4 : Nat} {A7 : Option Addr} {c7 : Nat} {A8 : Option Addr} {c8 : Nat} {A9 : Option Addr} {c9 : Nat} {r : S26} {ps : List S41} {ms : List S38} {x : Int} (hG : GameIn W base g A3 c3 A4 c4 A7 c7 A8 c8 A9 c9 r ps ms) (hp0 : 0 < ps.length) (hp4 : ps.length ≤ 401) (h : pl_count k (lastP ps) ps 0 = some x) :
    Calls Try.prog 76 #[.pointer (some ⟨g, 0, none⟩)] W fun e W' => e = .returned (.int .i64 x) ∧ Below W.heap.size W W' := by
  have hu133 := Try.underlying133
  have hu41 := Try.underlying41
  have hss_ := @isSome_setCell
  obtain ⟨ad8, rfl⟩ := hG.addr hp0
  have HG := xm hG
  have HB := xm (Below.refl W.heap.size W)
  have HP0 := xm hp0
  have HP4 := xm hp4
  have H := xm h
  have hcg := blkc13 HG.out.bx
  clear hG hp0 hp4 h
  go_enter Try.func76, Try.ntmps76
  go_wp2
  clear hcg
  go_loopg [3, 11] ps.length (fun kq v3 v11 w' => ∃ (i : Nat) (j n : Int), v3 = .int .i64 n ∧ v11 = .int .i64 j ∧ Aside0 (j = (i : Int)) ∧ Aside0 (i + kq = ps.length) ∧ Aside0 (pl_count k (lastP ps) (ps.drop i) n = some x) ∧ Aside0 (Below W.heap.size W w'))
  case atStart => exact ⟨0, 0, 0, rfl, rfl, ⟨rfl⟩, ⟨Nat.zero_add _⟩, by rw [List.drop_zero]; exact H, HB⟩
  case round =>
    clear H HB
    obtain ⟨i, j, n, rfl, rfl, HJ, HI, H, HB⟩ := hrel
    by_cases hlt : i < ps.length
    rotate_left
    · have H1 := H.out
      rw [List.drop_of_length_le (by omega), pl_count] at H1
      obtain rfl := Option.some.inj H1
      have hlt' : decide (j < (ps.length : Int)) = false := decide_eq_false (by have := HJ.out; omega)
      clear H hlt
      go_wp2
      go_ret
      exact ⟨rfl, xW HB⟩
    have H1 := H.out
    rw [List.drop_eq_getElem_cons hlt, pl_count] at H1
    have hmi : rd_T41 ps j = ps[i] := by rw [HJ.out]; simp [rd_T41, List.getD_eq_getElem?_getD, hlt]
    have hj0 : 0 ≤ j := by have := HJ.out; omega
    have hj1 : j < (ps.length : Int) := by have := HJ.out; omega
    obtain ⟨E0, f0, E1, f1, E2, f2, hPE, z0, z1, z2, z3, z4⟩ := elem_at (Kd.R_reads' HG.out.rp).2.2 hj0 hj1
    rw [← hmi] at H1
    obtain ⟨b, AX, H1⟩ := xH H1
    have HPE := xm hPE
    have HLT : Aside0 (i < ps.length) := ⟨hlt⟩
    have p0 : (0 ≤ j) = True := eq_true hj0
    have q0 : (j < (ps.length : Int)) = True := eq_true hj1
    have q1 : decide (j < (ps.length : Int)) = true := decide_eq_true hj1
    have H2 := xm H1
    obtain ⟨k1, rfl⟩ : ∃ k1, gk = k1 + 1 := ⟨gk - 1, by have := HI.out; omega⟩
    obtain ⟨jn, hjn⟩ : ∃ jn : Int, wrap64 (j + 1) = jn := ⟨_, rfl⟩
    have hjn' : IntKind.i64.wrap (j + 1) = jn := (i64_w _).trans hjn
    have HJN := xm hjn
    obtain ⟨nn, hnn⟩ : ∃ nn : Int, wrap64 (n + 1) = nn := ⟨_, rfl⟩
    have hnn' : IntKind.i64.wrap (n + 1) = nn := (i64_w _).trans hnn
    have HNN := xm hnn
    clear H1 hlt hj0 hj1 hPE hjn hnn hmi H
    replace z0 := xR HB z0; replace z1 := xR HB z1; replace z2 := xR HB z2; replace z3 := xR HB z3; replace z4 := xR HB z4
    go_upto_region 5 with ((with_reducible refine gate_dst (N := 5) rfl ?_); refine xG (cs := #[.slice none 0 0, .slice none 0 0, .slice none 0 0, .int .i64 0, .int .i64 0]) (t := 41) ?_; intro gq hg w1 hbox hb; have BQ := xm hbox; have GW := xZ HB hg; replace z0 := (hb.cell (World.block_lt_of_cell? _ _ z0)).trans z0; replace z1 := (hb.cell (World.block_lt_of_cell? _ _ z1)).trans z1; replace z2 := (hb.cell (World.block_lt_of_cell? _ _ z2)).trans z2; replace z3 := (hb.cell (World.block_lt_of_cell? _ _ z3)).trans z3; replace z4 := (hb.cell (World.block_lt_of_cell? _ _ z4)).trans z4; replace HB := xS HB hb; clear hb hbox hg; have hcq := blkc5 BQ.out)
    have BQ2 : Aside0 ((((((w1.setCell ⟨gq, 0, none⟩ (.slice E0 (rd_T41 ps j).f0.length f0)).setCell ⟨gq, 1, none⟩ (.slice E1 (rd_T41 ps j).f1.f0.length f1)).setCell ⟨gq, 2, none⟩ (.slice E2 (rd_T41 ps j).f1.f1.length f2)).setCell ⟨gq, 3, none⟩ (.int .i64 (rd_T41 ps j).f2)).setCell ⟨gq, 4, none⟩ (.int .i64 (rd_T41 ps j).f3)).heap[gq]? = some (.cells #[.slice E0 (rd_T41 ps j).f0.length f0, .slice E1 (rd_T41 ps j).f1.f0.length f1, .slice E2 (rd_T41 ps j).f1.f1.length f2, .int .i64 (rd_T41 ps j).f2, .int .i64 (rd_T41 ps j).f3] 41 (0, 0))) := ⟨xQ BQ⟩
    have HB2 : Aside0 (Below W.heap.size W (((((w1.setCell ⟨gq, 0, none⟩ (.slice E0 (rd_T41 ps j).f0.length f0)).setCell ⟨gq, 1, none⟩ (.slice E1 (rd_T41 ps j).f1.f0.length f1)).setCell ⟨gq, 2, none⟩ (.slice E2 (rd_T41 ps j).f1.f1.length f2)).setCell ⟨gq, 3, none⟩ (.int .i64 (rd_T41 ps j).f2)).setCell ⟨gq, 4, none⟩ (.int .i64 (rd_T41 ps j).f3))) := ⟨xW HB⟩
    clear BQ HB hcq z0 z1 z2 z3 z4
    generalize (((((w1.setCell ⟨gq, 0, none⟩ (.slice E0 (rd_T41 ps j).f0.length f0)).setCell ⟨gq, 1, none⟩ (.slice E1 (rd_T41 ps j).f1.f0.length f1)).setCell ⟨gq, 2, none⟩ (.slice E2 (rd_T41 ps j).f1.f1.length f2)).setCell ⟨gq, 3, none⟩ (.int .i64 (rd_T41 ps j).f2)).setCell ⟨gq, 4, none⟩ (.int .i64 (rd_T41 ps j).f3)) = w2 at BQ2 HB2 ⊢
    replace BQ2 := xm (blk_drew BQ2.out); replace HB2 := xm (below_drew1 HB2.out)
    refine start_ (n := 4) (S := Cells [(⟨gq, 0, none⟩, .slice E0 (rd_T41 ps j).f0.length f0), (⟨gq, 1, none⟩, .slice E1 (rd_T41 ps j).f1.f0.length f1), (⟨gq, 2, none⟩, .slice E2 (rd_T41 ps j).f1.f1.length f2), (⟨gq, 3, none⟩, .int .i64 (rd_T41 ps j).f2), (⟨gq, 4, none⟩, .int .i64 (rd_T41 ps j).f3)]) (ds := []) (mk 4 0) (by kernel_rfl) rfl rfl ⟨xc BQ2 0, xc BQ2 1, xc BQ2 2, xc BQ2 3, xc BQ2 4, trivial⟩ (fun hHeld => ?_)
    refine with_tabW plain_Count.tab5 plain_Count.bits5 (fun HT_ HW_ => ?_)
    generalize w2.drew = w3 at BQ2 HB2 hHeld ⊢
    refine pu_ 1 16 HT_ ?_; refine tc_ 0 15 HT_ HW_ hHeld ?_
    refine one_ (i := 2) (N := some 17) (mk 4 7) rfl rfl (one_of HT_.out (by kernel_rfl)) (by decide) (fun K hK => ?_)
    refine goes_ Try.func75 (by kernel_rfl) rfl #[.pointer (some ⟨g, 0, none⟩)] (by rfl) rfl rfl (by (try simp only [List.map_toArray, List.map_cons, List.map_nil]); rfl) ?_
    refine (now_any (HG.out.below HB2.out) HP0.out HP4.out).mono ?_
    rintro e w4 ⟨D0, h0, D1, h1, D2, h2, rfl, hPL, hb⟩
    refine ⟨_, rfl, ?_⟩
    have HPL := xm hPL
    replace HB2 := xS HB2 hb
    refine hK.out _ _ (hHeld.below hb) (fun hHeld => ?_); clear hK K hPL hb
    refine nr_ ?_
    refine one_ (i := 3) (N := some 18) (mk 4 15) rfl rfl (one_of HT_.out (by kernel_rfl)) (by decide) (fun K hK => ?_)
    refine goes_ Try.func38 (by kernel_rfl) rfl #[.agg #[.slice E0 (rd_T41 ps j).f0.length f0, .slice E1 (rd_T41 ps j).f1.f0.length f1, .slice E2 (rd_T41 ps j).f1.f1.length f2, .int .i64 (rd_T41 ps j).f2, .int .i64 (rd_T41 ps j).f3], .agg #[.slice D0 (lastP ps).f0.length h0, .slice D1 (lastP ps).f1.f0.length h1, .slice D2 (lastP ps).f1.f1.length h2, .int .i64 (lastP ps).f2, .int .i64 (lastP ps).f3]] (by rfl) rfl rfl (by (try simp only [List.map_toArray, List.map_cons, List.map_nil]); rfl) ?_
    refine (same_any (HPE.out.below HB2.out) HPL.out AX.out).mono ?_
    rintro e w5 ⟨rfl, hb⟩
    refine ⟨_, rfl, ?_⟩
    replace HB2 := xS HB2 hb
    refine hK.out _ _ (hHeld.below hb) (fun hHeld => ?_); clear hK K hb
    refine nr_ ?_
    refine done_ (done_of HT_.out (by kernel_rfl)) ?_
    clear hHeld BQ2
    by_cases hb : b = true
    · subst hb
      have H1 := H2.out; rw [if_pos rfl] at H1
      have H3 := xm H1
      clear H1 H2
      go_wp2
      go_roundg k1
      case measure => omega
      case rel =>
        have hlm := HP4.out
        have hj2 : jn = ((i + 1 : Nat) : Int) := by rw [← HJN.out, HJ.out]; unfold wrap64; have := HLT.out; omega
        exact ⟨i + 1, jn, nn, (xrf), (xrf), ⟨hj2⟩, ⟨by have := HI.out; omega⟩, by rw [← HNN.out]; exact H3, xm (xW HB2)⟩
    · obtain rfl := Bool.eq_false_iff.mpr hb
      have H1 := H2.out; rw [if_neg xF] at H1
      have H3 := xm H1
      clear H1 H2 hb
      go_wp2
      go_roundg k1
      case measure => omega
      case rel =>
        have hlm := HP4.out
        have hj2 : jn = ((i + 1 : Nat) : Int) := by rw [← HJN.out, HJ.out]; unfold wrap64; have := HLT.out; omega
        exact ⟨i + 1, jn, n, (xrf), (xrf), ⟨hj2⟩, ⟨by have := HI.out; omega⟩, H3, xm (xW HB2)⟩
def plain_Result.T1 : Bool × List (List Nat × List Nat) := (true, [([], []), ([0], [0]), ([1], [1]), ([2], [2]), ([], []), ([4], [4]), ([3, 5, 5], [3, 5]), ([6, 6, 0, 1, 2, 3, 4, 5, 6], [6])])
def plain_Result.B1 : List Nat := [0, 1, 3, 7, 0, 16, 63, 127]
theorem plain_Result.tab1 : rtab .any (opsOf Try.f55 1) = plain_Result.T1 := by kernel_rfl
theorem plain_Result.bits1 : waitsOk plain_Result.T1.2 plain_Result.B1 = true := by kernel_rfl
def plain_Result.T2 : Bool × List (List Nat × List Nat) := (true, [([], []), ([0], [0]), ([1], [1]), ([2], [2]), ([3, 2], [2, 3]), ([4, 2], [2, 4]), ([5, 2], [2, 5]), ([6, 2], [2, 6]), ([7, 2], [2, 7]), ([2, 8], [2, 8]), ([9, 2], [9]), ([10], [10]), ([11, 10, 10], [10, 11]), ([10], [10]), ([13, 10], [10, 13]), ([14, 10], [10, 14]), ([15, 10], [10, 15]), ([16, 10], [10, 16]), ([12, 17, 10], [10, 12, 17]), ([10, 18], [10, 18])])
def plain_Result.B2 : List Nat := [0, 1, 3, 7, 15, 31, 63, 127, 255, 511, 1023, 2047, 4095, 2047, 10239, 26623, 59391, 124927, 262143, 524287]
theorem plain_Result.tab2 : rtab .any (opsOf Try.f55 2) = plain_Result.T2 := by kernel_rfl
theorem plain_Result.bits2 : waitsOk plain_Result.T2.2 plain_Result.B2 = true := by kernel_rfl
theorem gres_any (k : Nat) {W : World} {base g : Nat} {A3 : Option Addr} {c3 : Nat} {A4 : Option Addr} {c4 : Nat} {A7 : Option Addr} {c7 : Nat} {A8 : Option Addr} {c8 : Nat} {A9 : Option Addr} {c9 : Nat} {r : S26} {ps : List S41} {ms : List S38} {x : Int} (hG : GameIn W base g A3 c3 A4 c4 A7 c7 A8 c8 A9 c9 r ps ms) (hp0 : 0 < ps.length) (hp4 : ps.length ≤ 401) (h : pl_result k r ps = some x) :
    Calls Try.prog 55 #[.pointer (some ⟨g, 0, none⟩)] W fun e W' => e = .returned (.int .i64 x) ∧ Below W.heap.size W W' := by
  have hu133 := Try.underlying133
  have hu26 := Try.underlying26
  have hu41 := Try.underlying41
  have hss_ := @isSome_setCell
  have HB := xm (Below.refl W.heap.size W)
  have HP0 := xm hp0
  have HP4 := xm hp4
  unfold pl_result at h
  obtain ⟨y, AY, h⟩ := xH h
  have H := xm h
  replace hG := hG.below (below_drew1 (Below.refl _ _))
  have HG := xm hG
  clear hG hp0 hp4 h
  go_enter Try.func55, Try.ntmps55
  go_wp2
  replace HB := xm (below_drew1 HB.out)
  have BG := xm HG.out.bx
  refine start_ (n := 8) (S := Cells [(⟨g, 0, none⟩, .string r.f0), (⟨g, 1, none⟩, .int .i64 r.f1), (⟨g, 2, none⟩, .int .i64 r.f2), (⟨g, 3, none⟩, .slice A3 r.f3.length c3), (⟨g, 4, none⟩, .slice A4 r.f4.length c4), (⟨g, 5, none⟩, .bool r.f5), (⟨g, 6, none⟩, .bool r.f6), (⟨g, 7, none⟩, .slice A7 r.f7.length c7), (⟨g, 8, none⟩, .int .i64 r.f8), (⟨g, 9, none⟩, .int .i64 r.f9), (⟨g, 10, none⟩, .int .i64 r.f10)]) (ds := []) (mk 8 0) (by kernel_rfl) rfl rfl ⟨xc BG 0, xc BG 1, xc BG 2, xc BG 3, xc BG 4, xc BG 5, xc BG 6, xc BG 7, xc BG 8, xc BG 9, xc BG 10, trivial⟩ (fun hHeld => ?_)
  refine with_tabW plain_Result.tab1 plain_Result.bits1 (fun HT_ HW_ => ?_)
  generalize W.drew = w1 at HG HB BG hHeld ⊢
  refine pu_ 0 4 HT_ ?_; refine pu_ 1 5 HT_ ?_; refine pu_ 2 6 HT_ ?_; refine tc_ 3 7 HT_ HW_ hHeld ?_; refine pu_ 4 8 HT_ ?_
  refine one_ (i := 5) (N := some 9) (mk 8 63) rfl rfl (one_of HT_.out (by kernel_rfl)) (by decide) (fun K hK => ?_)
  refine goes_ Try.func75 (by kernel_rfl) rfl #[.pointer (some ⟨g, 0, none⟩)] (by rfl) rfl rfl (by (try simp only [List.map_toArray, List.map_cons, List.map_nil]); rfl) ?_
  refine (now_any HG.out HP0.out HP4.out).mono ?_
  rintro e w2 ⟨D0, h0, D1, h1, D2, h2, rfl, hPL, hb⟩
  refine ⟨_, rfl, ?_⟩
  have HPL := xm hPL
  replace HB := xS HB hb
  replace HG := xm (HG.out.below hb)
  refine hK.out _ _ (hHeld.below hb) (fun hHeld => ?_); clear hK K hPL hb BG
  refine nr_ ?_
  refine one_ (i := 6) (N := some 10) (mk 8 127) rfl rfl (one_of HT_.out (by kernel_rfl)) (by decide) (fun K hK => ?_)
  refine goes_ Try.func63 (by kernel_rfl) rfl #[.agg #[.string r.f0, .int .i64 r.f1, .int .i64 r.f2, .slice A3 r.f3.length c3, .slice A4 r.f4.length c4, .bool r.f5, .bool r.f6, .slice A7 r.f7.length c7, .int .i64 r.f8, .int .i64 r.f9, .int .i64 r.f10], .agg #[.slice D0 (lastP ps).f0.length h0, .slice D1 (lastP ps).f1.f0.length h1, .slice D2 (lastP ps).f1.f1.length h2, .int .i64 (lastP ps).f2, .int .i64 (lastP ps).f3]] (by rfl) rfl rfl (by (try simp only [List.map_toArray, List.map_cons, List.map_nil]); rfl) ?_
  refine (result_any HG.out.rin HPL.out AY.out).mono ?_
  rintro e w3 ⟨rfl, hb⟩
  refine ⟨_, rfl, ?_⟩
  replace HB := xS HB hb
  replace HG := xm (HG.out.below hb)
  refine hK.out _ _ (hHeld.below hb) (fun hHeld => ?_); clear hK K hb HPL
  refine nr_ ?_
  refine pu_ 7 3 HT_ ?_
  refine done_ (done_of HT_.out (by kernel_rfl)) ?_
  clear hHeld HT_ HW_
  by_cases hy : y = 0
  rotate_left
  · have H1 := H.out; rw [if_neg hy] at H1
    obtain rfl := Option.some.inj H1
    have hya := beq_eq_false_iff_ne.mpr hy
    clear H1 H hy
    go_wp2
    replace HB := xm (below_drew1 HB.out)
    replace HG := xm (HG.out.below (below_drew1 (Below.refl _ _)))
    have BG := xm HG.out.bx
    refine start_ (n := 20) (S := Cells [(⟨g, 10, none⟩, .int .i64 r.f10)]) (ds := []) (mk 20 0) (by kernel_rfl) rfl rfl ⟨xc BG 10, trivial⟩ (fun hHeld => ?_)
    refine with_tabW plain_Result.tab2 plain_Result.bits2 (fun HT_ HW_ => ?_)
    generalize w3.drew = w4 at HB HG BG hHeld ⊢
    refine pu_ 0 11 HT_ ?_; refine pu_ 1 12 HT_ ?_; refine pu_ 2 13 HT_ ?_
    refine pn_ 3 14 HT_ ?_; refine pn_ 4 15 HT_ ?_; refine pn_ 5 16 HT_ ?_; refine pn_ 6 17 HT_ ?_; refine pn_ 7 18 HT_ ?_; refine pn_ 8 19 HT_ ?_
    refine pu_ 9 20 HT_ ?_; refine pu_ 10 21 HT_ ?_
    refine pn_ 11 22 HT_ ?_; refine pn_ 12 23 HT_ ?_; refine pn_ 13 24 HT_ ?_; refine pn_ 14 25 HT_ ?_; refine pn_ 15 26 HT_ ?_; refine pn_ 16 27 HT_ ?_; refine pn_ 17 28 HT_ ?_; refine pn_ 18 29 HT_ ?_
    refine pu_ 19 30 HT_ ?_
    refine done_ (done_of HT_.out (by kernel_rfl)) ?_
    go_wp2
    go_ret
    exact ⟨rfl, xW HB⟩
  have H1 := H.out; rw [if_pos hy] at H1
  have hya := beq_iff_eq.mpr hy
  by_cases hr : r.f10 > 0
  rotate_left
  · rw [if_neg hr] at H1
    obtain rfl := Option.some.inj H1
    have hra : decide (r.f10 > 0) = false := decide_eq_false hr
    clear H1 H hr hy
    go_wp2
    replace HB := xm (below_drew1 HB.out)
    replace HG := xm (HG.out.below (below_drew1 (Below.refl _ _)))
    have BG := xm HG.out.bx
    refine start_ (n := 20) (S := Cells [(⟨g, 10, none⟩, .int .i64 r.f10)]) (ds := []) (mk 20 0) (by kernel_rfl) rfl rfl ⟨xc BG 10, trivial⟩ (fun hHeld => ?_)
    refine with_tabW plain_Result.tab2 plain_Result.bits2 (fun HT_ HW_ => ?_)
    generalize w3.drew = w4 at HB HG BG hHeld ⊢
    refine pu_ 0 11 HT_ ?_; refine pu_ 1 12 HT_ ?_; refine pu_ 2 13 HT_ ?_
    refine pu_ 3 14 HT_ ?_; refine pu_ 4 15 HT_ ?_; refine pu_ 5 16 HT_ ?_; refine pu_ 6 17 HT_ ?_; refine tc_ 7 18 HT_ HW_ hHeld ?_; refine pu_ 8 19 HT_ ?_
    refine pu_ 9 20 HT_ ?_; refine pu_ 10 21 HT_ ?_
    refine pn_ 11 22 HT_ ?_; refine pn_ 12 23 HT_ ?_; refine pn_ 13 24 HT_ ?_; refine pn_ 14 25 HT_ ?_; refine pn_ 15 26 HT_ ?_; refine pn_ 16 27 HT_ ?_; refine pn_ 17 28 HT_ ?_; refine pn_ 18 29 HT_ ?_
    refine pu_ 19 30 HT_ ?_
    refine done_ (done_of HT_.out (by kernel_rfl)) ?_
    go_wp2
    go_ret
    exact ⟨rfl, xW HB⟩
  rw [if_pos hr] at H1
  have hra : decide (r.f10 > 0) = true := decide_eq_true hr
  obtain ⟨n, AN, H1⟩ := xH H1
  by_cases hn : n ≥ r.f10
  · rw [if_pos hn] at H1
    obtain rfl := Option.some.inj H1
    have hna : decide (n ≥ r.f10) = true := decide_eq_true hn
    clear H1 H hr hn hy
    go_wp2
    replace HB := xm (below_drew1 HB.out)
    replace HG := xm (HG.out.below (below_drew1 (Below.refl _ _)))
    have BG := xm HG.out.bx
    refine start_ (n := 20) (S := Cells [(⟨g, 10, none⟩, .int .i64 r.f10)]) (ds := []) (mk 20 0) (by kernel_rfl) rfl rfl ⟨xc BG 10, trivial⟩ (fun hHeld => ?_)
    refine with_tabW plain_Result.tab2 plain_Result.bits2 (fun HT_ HW_ => ?_)
    generalize w3.drew = w4 at HB HG BG hHeld ⊢
    refine pu_ 0 11 HT_ ?_; refine pu_ 1 12 HT_ ?_; refine pu_ 2 13 HT_ ?_
    refine pu_ 3 14 HT_ ?_; refine pu_ 4 15 HT_ ?_; refine pu_ 5 16 HT_ ?_; refine pu_ 6 17 HT_ ?_; refine tc_ 7 18 HT_ HW_ hHeld ?_; refine pu_ 8 19 HT_ ?_
    refine pu_ 9 20 HT_ ?_; refine pu_ 10 21 HT_ ?_
    refine pu_ 11 22 HT_ ?_; refine pu_ 13 24 HT_ ?_; refine pu_ 14 25 HT_ ?_; refine pu_ 15 26 HT_ ?_; refine pu_ 16 27 HT_ ?_; refine tc_ 17 28 HT_ HW_ hHeld ?_
    refine one_ (i := 12) (N := some 23) (mk 20 262143) rfl rfl (one_of HT_.out (by kernel_rfl)) (by decide) (fun K hK => ?_)
    refine goes_ Try.func76 (by kernel_rfl) rfl #[.pointer (some ⟨g, 0, none⟩)] (by rfl) rfl rfl (by (try simp only [List.map_toArray, List.map_cons, List.map_nil]); rfl) ?_
    refine (count_any k HG.out HP0.out HP4.out AN.out).mono ?_
    rintro e w5 ⟨rfl, hb⟩
    refine ⟨_, rfl, ?_⟩
    replace HB := xS HB hb
    refine hK.out _ _ (hHeld.below hb) (fun hHeld => ?_); clear hK K hb
    refine nr_ ?_
    refine pu_ 18 29 HT_ ?_
    refine pu_ 19 30 HT_ ?_
    refine done_ (done_of HT_.out (by kernel_rfl)) ?_
    go_wp2
    go_ret
    exact ⟨rfl, xW HB⟩
  · rw [if_neg hn] at H1
    obtain rfl := Option.some.inj H1
    have hna : decide (n ≥ r.f10) = false := decide_eq_false hn
    clear H1 H hr hn hy
    go_wp2
    replace HB := xm (below_drew1 HB.out)
    replace HG := xm (HG.out.below (below_drew1 (Below.refl _ _)))
    have BG := xm HG.out.bx
    refine start_ (n := 20) (S := Cells [(⟨g, 10, none⟩, .int .i64 r.f10)]) (ds := []) (mk 20 0) (by kernel_rfl) rfl rfl ⟨xc BG 10, trivial⟩ (fun hHeld => ?_)
    refine with_tabW plain_Result.tab2 plain_Result.bits2 (fun HT_ HW_ => ?_)
    generalize w3.drew = w4 at HB HG BG hHeld ⊢
    refine pu_ 0 11 HT_ ?_; refine pu_ 1 12 HT_ ?_; refine pu_ 2 13 HT_ ?_
    refine pu_ 3 14 HT_ ?_; refine pu_ 4 15 HT_ ?_; refine pu_ 5 16 HT_ ?_; refine pu_ 6 17 HT_ ?_; refine tc_ 7 18 HT_ HW_ hHeld ?_; refine pu_ 8 19 HT_ ?_
    refine pu_ 9 20 HT_ ?_; refine pu_ 10 21 HT_ ?_
    refine pu_ 11 22 HT_ ?_; refine pu_ 13 24 HT_ ?_; refine pu_ 14 25 HT_ ?_; refine pu_ 15 26 HT_ ?_; refine pu_ 16 27 HT_ ?_; refine tc_ 17 28 HT_ HW_ hHeld ?_
    refine one_ (i := 12) (N := some 23) (mk 20 262143) rfl rfl (one_of HT_.out (by kernel_rfl)) (by decide) (fun K hK => ?_)
    refine goes_ Try.func76 (by kernel_rfl) rfl #[.pointer (some ⟨g, 0, none⟩)] (by rfl) rfl rfl (by (try simp only [List.map_toArray, List.map_cons, List.map_nil]); rfl) ?_
    refine (count_any k HG.out HP0.out HP4.out AN.out).mono ?_
    rintro e w5 ⟨rfl, hb⟩
    refine ⟨_, rfl, ?_⟩
    replace HB := xS HB hb
    refine hK.out _ _ (hHeld.below hb) (fun hHeld => ?_); clear hK K hb
    refine nr_ ?_
    refine pu_ 18 29 HT_ ?_
    refine pu_ 19 30 HT_ ?_
    refine done_ (done_of HT_.out (by kernel_rfl)) ?_
    go_wp2
    go_ret
    exact ⟨rfl, xW HB⟩
/-- three rows of a copied position -/
structure PosR (W : World) (base : Nat) (v0 v1 v2 : Value) (r1 r2 r3 : List Int) : Prop where
  h0 : Kd.R (Kd.int .i64) 3 W base (fun k_ => some k_ ≠ v1.ownBlock ∧ some k_ ≠ v2.ownBlock) v0 r1
  h1 : Kd.R (Kd.int .i64) 3 W base (fun k_ => some k_ ≠ v0.ownBlock ∧ some k_ ≠ v2.ownBlock) v1 r2
  h2 : Kd.R (Kd.int .i64) 3 W base (fun k_ => some k_ ≠ v0.ownBlock ∧ some k_ ≠ v1.ownBlock) v2 r3
section
variable {W W1 : World} {base base' : Nat} {v0 v1 v2 : Value} {r1 r2 r3 : List Int}
theorem PosR.below (h : PosR W base v0 v1 v2 r1 r2 r3) (hb : Below W.heap.size W W1) : PosR W1 base v0 v1 v2 r1 r2 r3 := ⟨Kd.R_below h.h0 hb, Kd.R_below h.h1 hb, Kd.R_below h.h2 hb⟩
theorem PosR.lower (h : PosR W base v0 v1 v2 r1 r2 r3) (hb : base' ≤ base) : PosR W base' v0 v1 v2 r1 r2 r3 := ⟨Kd.R_lower h.h0 hb, Kd.R_lower h.h1 hb, Kd.R_lower h.h2 hb⟩
theorem row_far5 {ok : Nat → Prop} {v : Value} {xs : List Int} {g : Nat} {cells : Array Value} (h : Kd.R (Kd.int .i64) 3 W base ok v xs) (hb : W.heap[g]? = some (.cells cells 41 (0, 0))) (u0 u1 u2 u3 u4 : Value) : Kd.R (Kd.int .i64) 3 (((((W.setCell ⟨g, 0, none⟩ (u0)).setCell ⟨g, 1, none⟩ (u1)).setCell ⟨g, 2, none⟩ (u2)).setCell ⟨g, 3, none⟩ (u3)).setCell ⟨g, 4, none⟩ (u4)) base ok v xs :=
  Kd.R_mono (Kd.R_far (Kd.R_far (Kd.R_far (Kd.R_far (Kd.R_far (Kd.R_types h hb (by decide)) (fun _ hk => hk.2) _) (fun _ hk => hk.2) _) (fun _ hk => hk.2) _) (fun _ hk => hk.2) _) (fun _ hk => hk.2) _) (fun _ hk => hk.1)
theorem PosR.far5 (h : PosR W base v0 v1 v2 r1 r2 r3) {g : Nat} {cells : Array Value} (hb : W.heap[g]? = some (.cells cells 41 (0, 0))) (u0 u1 u2 u3 u4 : Value) : PosR (((((W.setCell ⟨g, 0, none⟩ (u0)).setCell ⟨g, 1, none⟩ (u1)).setCell ⟨g, 2, none⟩ (u2)).setCell ⟨g, 3, none⟩ (u3)).setCell ⟨g, 4, none⟩ (u4)) base v0 v1 v2 r1 r2 r3 :=
  ⟨row_far5 h.h0 hb _ _ _ _ _, row_far5 h.h1 hb _ _ _ _ _, row_far5 h.h2 hb _ _ _ _ _⟩
end
theorem pos_any {W : World} {base g : Nat} {A3 : Option Addr} {c3 : Nat} {A4 : Option Addr} {c4 : Nat} {A7 : Option Addr} {c7 : Nat} {A8 : Option Addr} {c8 : Nat} {A9 : Option Addr} {c9 : Nat} {r : S26} {ps : List S41} {ms : List S38} {r1 r2 r3 : List Int} {r4 r5 : Int} (hG : GameIn W base g A3 c3 A4 c4 A7 c7 A8 c8 A9 c9 r ps ms) (hp0 : 0 < ps.length) (hp4 : ps.length ≤ 401) (h : place_Copy.f (lastP ps).f0 (lastP ps).f1.f0 (lastP ps).f1.f1 (lastP ps).f2 (lastP ps).f3 = some (r1, r2, r3, r4, r5)) :
    Calls Try.prog 54 #[.pointer (some ⟨g, 0, none⟩)] W fun e W' => ∃ G0 g0 G1 g1 G2 g2, e = .returned (.agg #[.slice G0 r1.length g0, .slice G1 r2.length g1, .slice G2 r3.length g2, .int .i64 r4, .int .i64 r5]) ∧ PosR W' W.heap.size (.slice G0 r1.length g0) (.slice G1 r2.length g1) (.slice G2 r3.length g2) r1 r2 r3 ∧ Below W.heap.size W W' := by
  have hu133 := Try.underlying133
  have hu41 := Try.underlying41
  have hss_ := @isSome_setCell
  have HG := xm hG
  have HB := xm (Below.refl W.heap.size W)
  have HP0 := xm hp0
  have HP4 := xm hp4
  have H := xm h
  clear hG hp0 hp4 h
  go_enter Try.func54, Try.ntmps54
  go_wp2_with (first
    | ((with_reducible refine gate_dst (N := 2) rfl ?_); refine xG (cs := #[.slice none 0 0, .slice none 0 0, .slice none 0 0, .int .i64 0, .int .i64 0]) (t := 41) ?_; intro gq hg w1 hbox hb; have BQ := xm hbox; have GW := xZ HB hg; replace HG := xm (HG.out.below hb); replace HB := xS HB hb; clear hb hbox hg)
    | ((with_reducible refine gate_callee (f := 75) rfl ?_); refine xL (some 4) Try.func75 #[.pointer (some ⟨g, 0, none⟩)] rfl ?_; refine (now_any HG.out HP0.out HP4.out).mono ?_; rintro e w2 ⟨D0, h0, D1, h1, D2, h2, rfl, hPL, hb⟩; refine ⟨_, rfl, ?_⟩; have HPL := xm hPL; replace BQ := xB BQ hb; replace HB := xS HB hb; clear hb hPL)
    | ((with_reducible refine gate_callee (f := 47) rfl ?_); refine xL (some 5) Try.func47 #[.agg #[.slice D0 (lastP ps).f0.length h0, .slice D1 (lastP ps).f1.f0.length h1, .slice D2 (lastP ps).f1.f1.length h2, .int .i64 (lastP ps).f2, .int .i64 (lastP ps).f3]] rfl ?_; refine (place_Copy.calls _ _ _ _ _ _ _ _ _ _ _ _ _ _ _ _ _ HPL.out.g0 HPL.out.l0 HPL.out.g1 HPL.out.l1 HPL.out.g2 HPL.out.l2 H.out).mono ?_; rintro e w3 ⟨v0, v1, v2, rfl, k0, k1, k2, hb⟩; obtain ⟨G0, g0, rfl⟩ := Kd.R_slice k0; obtain ⟨G1, g1, rfl⟩ := Kd.R_slice k1; obtain ⟨G2, g2, rfl⟩ := Kd.R_slice k2; refine ⟨_, rfl, ?_⟩; have HR := xm (PosR.lower ⟨k0, k1, k2⟩ HB.out.size); replace BQ := xB BQ hb; replace HB := xS HB hb; clear hb k0 k1 k2; have hcq := blkc5 BQ.out))
  have BQ2 : Aside0 ((((((w3.setCell ⟨gq, 0, none⟩ (.slice G0 r1.length g0)).setCell ⟨gq, 1, none⟩ (.slice G1 r2.length g1)).setCell ⟨gq, 2, none⟩ (.slice G2 r3.length g2)).setCell ⟨gq, 3, none⟩ (.int .i64 r4)).setCell ⟨gq, 4, none⟩ (.int .i64 r5)).heap[gq]? = some (.cells #[.slice G0 r1.length g0, .slice G1 r2.length g1, .slice G2 r3.length g2, .int .i64 r4, .int .i64 r5] 41 (0, 0))) := ⟨xQ BQ⟩
  have HB2 : Aside0 (Below W.heap.size W (((((w3.setCell ⟨gq, 0, none⟩ (.slice G0 r1.length g0)).setCell ⟨gq, 1, none⟩ (.slice G1 r2.length g1)).setCell ⟨gq, 2, none⟩ (.slice G2 r3.length g2)).setCell ⟨gq, 3, none⟩ (.int .i64 r4)).setCell ⟨gq, 4, none⟩ (.int .i64 r5))) := ⟨xW HB⟩
  have HR2 := xm (HR.out.far5 BQ.out (.slice G0 r1.length g0) (.slice G1 r2.length g1) (.slice G2 r3.length g2) (.int .i64 r4) (.int .i64 r5))
  clear BQ HB HG HPL HR hcq
  generalize (((((w3.setCell ⟨gq, 0, none⟩ (.slice G0 r1.length g0)).setCell ⟨gq, 1, none⟩ (.slice G1 r2.length g1)).setCell ⟨gq, 2, none⟩ (.slice G2 r3.length g2)).setCell ⟨gq, 3, none⟩ (.int .i64 r4)).setCell ⟨gq, 4, none⟩ (.int .i64 r5)) = w4 at BQ2 HB2 HR2 ⊢
  have hcq := blkc5 BQ2.out
  exact bodyPost_ret (v := .agg #[.slice G0 r1.length g0, .slice G1 r2.length g1, .slice G2 r3.length g2, .int .i64 r4, .int .i64 r5]) (by simp [results, Try.results54, go_sem, hcq, hu41]) rfl ⟨G0, g0, G1, g1, G2, g2, rfl, HR2.out, HB2.out⟩
def plain_New.T4 : Bool × List (List Nat × List Nat) := (true, [([], []), ([0], [0]), ([], []), ([2], [2]), ([1, 3], [1, 3]), ([4], [4]), ([5, 1, 0, 1, 2, 3, 4, 5], [5]), ([6, 0, 1, 2, 3, 4, 5, 6], [])])
def plain_New.B4 : List Nat := [0, 1, 0, 4, 15, 31, 63, 127]
theorem plain_New.tab4 : rtab .any (opsOf Try.f52 4) = plain_New.T4 := by kernel_rfl
theorem plain_New.bits4 : waitsOk plain_New.T4.2 plain_New.B4 = true := by kernel_rfl
/-- rules, copied -/
def copied (k : Nat) (r : S26) : Option S26 := (rules_Copy.f k r.f0 r.f1 r.f2 r.f3 r.f4 r.f5 r.f6 r.f7 r.f8 r.f9 r.f10).bind fun q => some ⟨q.1, q.2.1, q.2.2.1, q.2.2.2.1, q.2.2.2.2.1, q.2.2.2.2.2.1, q.2.2.2.2.2.2.1, q.2.2.2.2.2.2.2.1, q.2.2.2.2.2.2.2.2.1, q.2.2.2.2.2.2.2.2.2.1, q.2.2.2.2.2.2.2.2.2.2⟩
theorem copy_any {w : World} {A3 : Option Addr} {c3 : Nat} {A4 : Option Addr} {c4 : Nat} {A7 : Option Addr} {c7 : Nat} {r c : S26} {k : Nat} (hr : RIn w A3 c3 A4 c4 A7 c7 r) (h : copied k r = some c) :
    Calls Try.prog 74 #[.agg (rulesV A3 c3 A4 c4 A7 c7 r).toArray] w fun e w' => ∃ B3 b3 B4 b4 B7 b7, e = .returned (.agg #[.string c.f0, .int .i64 c.f1, .int .i64 c.f2, .slice B3 c.f3.length b3, .slice B4 c.f4.length b4, .bool c.f5, .bool c.f6, .slice B7 c.f7.length b7, .int .i64 c.f8, .int .i64 c.f9, .int .i64 c.f10]) ∧ (Kd.R k104 104 w' w.heap.size (fun _ => True) (.slice B3 c.f3.length b3) c.f3 ∧ Kd.R (Kd.int .i64) 3 w' w.heap.size (fun _ => True) (.slice B4 c.f4.length b4) c.f4 ∧ Kd.R k98 98 w' w.heap.size (fun _ => True) (.slice B7 c.f7.length b7) c.f7) ∧ Below w.heap.size w w' := by
  unfold copied at h
  obtain ⟨⟨q0, q1, q2, q3, q4, q5, q6, q7, q8, q9, q10⟩, AC, h⟩ := xH h
  obtain rfl := Option.some.inj h
  refine (rules_Copy.calls k _ _ _ A3 c3 _ A4 c4 _ _ _ A7 c7 _ _ _ _ _ _ _ _ _ _ _ _ _ _ _ w hr.g3 hr.l3 hr.g4 hr.l4 hr.g7 hr.l7 AC.out).mono ?_
  rintro e w' ⟨v3, v4, v7, rfl, h3, h4, h7, hb⟩
  replace h3 := Kd.S_R h3
  obtain ⟨B3, b3, rfl⟩ := Kd.R_slice h3
  obtain ⟨B4, b4, rfl⟩ := Kd.R_slice h4
  obtain ⟨B7, b7, rfl⟩ := Kd.R_slice h7
  exact ⟨B3, b3, B4, b4, B7, b7, rfl, ⟨h3, h4, h7⟩, hb⟩
theorem new_any (k : Nat) {W : World} {A3 : Option Addr} {c3 : Nat} {A4 : Option Addr} {c4 : Nat} {A7 : Option Addr} {c7 : Nat} {r c : S26} {t1 t2 t3 : List Int} {t4 t5 t6 : Int} (hr : RIn W A3 c3 A4 c4 A7 c7 r) (h : place_Begin.f k r.f0 r.f1 r.f2 r.f3 r.f4 r.f5 r.f6 r.f7 r.f8 r.f9 r.f10 = some (t1, t2, t3, t4, t5, t6)) (hc : t6 = 0 → copied k r = some c) :
    Calls Try.prog 52 #[.agg (rulesV A3 c3 A4 c4 A7 c7 r).toArray] W fun e W' => ∃ v : Value, e = .returned (.tuple #[v, .int .i64 t6]) ∧ (t6 ≠ 0 → v = .pointer none) ∧ (t6 = 0 → ∃ g, v = .pointer (some ⟨g, 0, none⟩) ∧ ∃ B3 b3 B4 b4 B7 b7 A8 c8, GameIn W' W.heap.size g B3 b3 B4 b4 B7 b7 A8 c8 none 0 c [posQ t1 t2 t3 t4 t5] []) ∧ Below W.heap.size W W' := by
  have hu26 := Try.underlying26
  have hu41 := Try.underlying41
  have hu133 := Try.underlying133
  have hu34 := Try.underlying34
  have hss_ := @isSome_setCell
  have HR := xm hr
  have HB := xm (Below.refl W.heap.size W)
  have AB := xm h
  have HC := xm hc
  clear hr h hc
  unfold rulesV
  go_enter Try.func52, Try.ntmps52
  go_upto_region 2 with (first
    | ((with_reducible refine gate_dst (N := 1) rfl ?_); refine xG (cs := #[.string r.f0, .int .i64 r.f1, .int .i64 r.f2, .slice A3 r.f3.length c3, .slice A4 r.f4.length c4, .bool r.f5, .bool r.f6, .slice A7 r.f7.length c7, .int .i64 r.f8, .int .i64 r.f9, .int .i64 r.f10]) (t := 26) ?_; intro gb hg w1 hbox hb; have BK := xm hbox; have GW := xZ HB hg; have GE := xZ HB hg; replace HB := xS HB hb; clear hb hbox hg; have hcz := blkc11 BK.out)
    | ((with_reducible refine gate_callee (f := 39) rfl ?_); refine xL (some 8) Try.func39 #[.agg #[.string r.f0, .int .i64 r.f1, .int .i64 r.f2, .slice A3 r.f3.length c3, .slice A4 r.f4.length c4, .bool r.f5, .bool r.f6, .slice A7 r.f7.length c7, .int .i64 r.f8, .int .i64 r.f9, .int .i64 r.f10]] rfl ?_; refine (begin_any (HR.out.below (xW HB)) AB.out).mono ?_; rintro e w2 ⟨B0, d0, B1, d1, B2, d2, rfl, hM, hb⟩; refine ⟨_, rfl, ?_⟩; have HQ := xm (k41.M_lower (below_size (xW HB)) hM); replace BK := xB BK hb; replace HB := xS HB hb; clear hb hM)
    | ((with_reducible refine gate_dst (N := 4) rfl ?_); refine xG (cs := #[.slice none 0 0, .slice none 0 0, .slice none 0 0, .int .i64 0, .int .i64 0]) (t := 41) ?_; intro gp hg w3 hbox hb; have BP := xm hbox; have GW' := xZ HB hg; have GE' := xZ HB hg; have NB1 := xN BK hg; have NB2 := xM BK hg; replace HQ := xm (Kd.M_below HQ.out hb); replace BK := xB BK hb; replace HB := xS HB hb; clear hb hbox hg; have hnb := NB1.out; have hnc := NB2.out; have hcp := blkc5 BP.out))
  by_cases h6 : t6 = 0
  rotate_left
  · have h6a := beq_eq_false_iff_ne.mpr h6
    have h6b := bne_iff_ne.mpr h6
    clear HC
    go_wp2
    go_ret2
    exact ⟨_, rfl, fun _ => rfl, fun e => absurd e h6, xW HB⟩
  replace HC := xm (HC.out h6)
  subst h6
  have HQ2 := xm (Kd.M_types HQ.out BP.out (by decide))
  have BP2 : Aside0 ((((((w3.setCell ⟨gp, 0, none⟩ (.slice B0 t1.length d0)).setCell ⟨gp, 1, none⟩ (.slice B1 t2.length d1)).setCell ⟨gp, 2, none⟩ (.slice B2 t3.length d2)).setCell ⟨gp, 3, none⟩ (.int .i64 t4)).setCell ⟨gp, 4, none⟩ (.int .i64 t5)).heap[gp]? = some (.cells #[.slice B0 t1.length d0, .slice B1 t2.length d1, .slice B2 t3.length d2, .int .i64 t4, .int .i64 t5] 41 (0, 0))) := ⟨xQ BP⟩
  have BK2 : Aside0 ((((((w3.setCell ⟨gp, 0, none⟩ (.slice B0 t1.length d0)).setCell ⟨gp, 1, none⟩ (.slice B1 t2.length d1)).setCell ⟨gp, 2, none⟩ (.slice B2 t3.length d2)).setCell ⟨gp, 3, none⟩ (.int .i64 t4)).setCell ⟨gp, 4, none⟩ (.int .i64 t5)).heap[gb]? = _) := ⟨xK BK⟩
  have HB2 : Aside0 (Below W.heap.size W (((((w3.setCell ⟨gp, 0, none⟩ (.slice B0 t1.length d0)).setCell ⟨gp, 1, none⟩ (.slice B1 t2.length d1)).setCell ⟨gp, 2, none⟩ (.slice B2 t3.length d2)).setCell ⟨gp, 3, none⟩ (.int .i64 t4)).setCell ⟨gp, 4, none⟩ (.int .i64 t5))) := ⟨xW HB⟩
  have HQ3 : Aside0 (k41.M (((((w3.setCell ⟨gp, 0, none⟩ (.slice B0 t1.length d0)).setCell ⟨gp, 1, none⟩ (.slice B1 t2.length d1)).setCell ⟨gp, 2, none⟩ (.slice B2 t3.length d2)).setCell ⟨gp, 3, none⟩ (.int .i64 t4)).setCell ⟨gp, 4, none⟩ (.int .i64 t5)) W.heap.size _ (posQ t1 t2 t3 t4 t5) _) := ⟨Kd.M_far (Kd.M_far (Kd.M_far (Kd.M_far (Kd.M_far HQ2.out (fun _ hk => hk.2) _) (fun _ hk => hk.2) _) (fun _ hk => hk.2) _) (fun _ hk => hk.2) _) (fun _ hk => hk.2) _⟩
  clear HQ HQ2 BP BK HB hcz hcp
  generalize (((((w3.setCell ⟨gp, 0, none⟩ (.slice B0 t1.length d0)).setCell ⟨gp, 1, none⟩ (.slice B1 t2.length d1)).setCell ⟨gp, 2, none⟩ (.slice B2 t3.length d2)).setCell ⟨gp, 3, none⟩ (.int .i64 t4)).setCell ⟨gp, 4, none⟩ (.int .i64 t5)) = w4 at BP2 BK2 HB2 HQ3 ⊢
  have hcz := blkc11 BK2.out
  have hcp := blkc5 BP2.out
  go_wp2
  clear hcz hcp
  replace HB2 := xm (below_drew1 HB2.out); replace BP2 := xm (blk_drew BP2.out); replace BK2 := xm (blk_drew BK2.out); replace HQ3 := xm (Kd.M_below HQ3.out (below_drew1 (Below.refl _ _)))
  refine start_ (n := 8) (S := Cells [(⟨gb, 0, none⟩, .string r.f0), (⟨gb, 1, none⟩, .int .i64 r.f1), (⟨gb, 2, none⟩, .int .i64 r.f2), (⟨gb, 3, none⟩, .slice A3 r.f3.length c3), (⟨gb, 4, none⟩, .slice A4 r.f4.length c4), (⟨gb, 5, none⟩, .bool r.f5), (⟨gb, 6, none⟩, .bool r.f6), (⟨gb, 7, none⟩, .slice A7 r.f7.length c7), (⟨gb, 8, none⟩, .int .i64 r.f8), (⟨gb, 9, none⟩, .int .i64 r.f9), (⟨gb, 10, none⟩, .int .i64 r.f10), (⟨gp, 0, none⟩, .slice B0 t1.length d0), (⟨gp, 1, none⟩, .slice B1 t2.length d1), (⟨gp, 2, none⟩, .slice B2 t3.length d2), (⟨gp, 3, none⟩, .int .i64 t4), (⟨gp, 4, none⟩, .int .i64 t5)]) (ds := [5]) (mk 8 0) (by kernel_rfl) rfl rfl ⟨xc BK2 0, xc BK2 1, xc BK2 2, xc BK2 3, xc BK2 4, xc BK2 5, xc BK2 6, xc BK2 7, xc BK2 8, xc BK2 9, xc BK2 10, xc BP2 0, xc BP2 1, xc BP2 2, xc BP2 3, xc BP2 4, trivial⟩ (fun hHeld => ?_)
  refine with_tabW plain_New.tab4 plain_New.bits4 (fun HT_ HW_ => ?_)
  generalize w4.drew = w5 at HB2 BP2 BK2 HQ3 hHeld ⊢
  refine tc_ 0 14 HT_ HW_ hHeld ?_; refine tc_ 2 16 HT_ HW_ hHeld ?_
  refine join_ (σ := Option Addr × Nat × Option Addr × Nat × Option Addr × Nat × Nat) 4 (mk 8 15)
    (fun s => [(15, .agg #[.string c.f0, .int .i64 c.f1, .int .i64 c.f2, .slice s.1 c.f3.length s.2.1, .slice s.2.2.1 c.f4.length s.2.2.2.1, .bool c.f5, .bool c.f6, .slice s.2.2.2.2.1 c.f7.length s.2.2.2.2.2.1, .int .i64 c.f8, .int .i64 c.f9, .int .i64 c.f10]), (17, .slice (some ⟨s.2.2.2.2.2.2, 0, none⟩) 1 1)])
    (fun s w' => (Kd.R k104 104 w' W.heap.size (fun _ => True) (.slice s.1 c.f3.length s.2.1) c.f3 ∧ Kd.R (Kd.int .i64) 3 w' W.heap.size (fun _ => True) (.slice s.2.2.1 c.f4.length s.2.2.2.1) c.f4 ∧ Kd.R k98 98 w' W.heap.size (fun _ => True) (.slice s.2.2.2.2.1 c.f7.length s.2.2.2.2.2.1) c.f7) ∧ Kd.R k41 41 w' W.heap.size (fun _ => True) (.slice (some ⟨s.2.2.2.2.2.2, 0, none⟩) 1 1) [posQ t1 t2 t3 t4 t5] ∧ Below W.heap.size W w') ?cont ?both
  case both =>
    intro hc
    refine two_ (i := 1) (j := 3) (Ni := some 15) (Nj := some 17) (mk 8 7) (mk 8 13) rfl rfl rfl rfl (two_of HT_.out (by kernel_rfl)) (by decide) (by decide) (fun K hK => ?_) (fun K hK => ?_)
    · refine goes_ Try.func74 (by kernel_rfl) rfl #[.agg #[.string r.f0, .int .i64 r.f1, .int .i64 r.f2, .slice A3 r.f3.length c3, .slice A4 r.f4.length c4, .bool r.f5, .bool r.f6, .slice A7 r.f7.length c7, .int .i64 r.f8, .int .i64 r.f9, .int .i64 r.f10]] (by rfl) rfl rfl (by (try simp only [List.map_toArray, List.map_cons, List.map_nil]); rfl) ?_
      refine (copy_any (HR.out.below (xW HB2)) HC.out).mono ?_
      rintro e wa ⟨B3, b3, B4, b4, B7, b7, rfl, ⟨h3, h4, h7⟩, hb⟩
      refine ⟨_, rfl, ?_⟩
      have hs := HB2.out.size
      have hQ := Kd.M_below HQ3.out hb
      have hB := (xS HB2 hb).out
      refine hK.out _ _ (hHeld.below hb) (fun hHeld => ?_); clear hK K
      refine nr_ ?_
      refine one_ (i := 3) (N := some 17) (mk 8 15) rfl rfl (one_of HT_.out (by kernel_rfl)) (by decide) (fun K hK => ?_)
      refine value_ (w1 := wa.alloc (.cells #[.slice B0 t1.length d0, .slice B1 t2.length d1, .slice B2 t3.length d2, .int .i64 t4, .int .i64 t5] 41 (0, 0))) (v := .slice (some ⟨wa.heap.size, 0, none⟩) 1 1) (by rfl) rfl (by first | (go_simp; done) | (go_simp; rfl)) ?_
      have hb2 := below_alloc (Below.refl wa.heap.size wa) (.cells #[.slice B0 t1.length d0, .slice B1 t2.length d1, .slice B2 t3.length d2, .int .i64 t4, .int .i64 t5] 41 (0, 0))
      refine hK.out _ _ (hHeld.below hb2) (fun hHeld => ?_); clear hK K
      exact hc (B3, b3, B4, b4, B7, b7, wa.heap.size) _ ⟨⟨Kd.R_below (Kd.R_lower h3 hs) hb2, Kd.R_below (Kd.R_lower h4 hs) hb2, Kd.R_below (Kd.R_lower h7 hs) hb2⟩, lit_now k41 W.heap.size 41 (Reps.c5 hQ (Reps.none _ _)) (fun _ _ => trivial) trivial hB.size (by simp), below_alloc hB _⟩
    · have hb2 := below_alloc (Below.refl w5.heap.size w5) (.cells #[.slice B0 t1.length d0, .slice B1 t2.length d1, .slice B2 t3.length d2, .int .i64 t4, .int .i64 t5] 41 (0, 0))
      refine value_ (w1 := w5.alloc (.cells #[.slice B0 t1.length d0, .slice B1 t2.length d1, .slice B2 t3.length d2, .int .i64 t4, .int .i64 t5] 41 (0, 0))) (v := .slice (some ⟨w5.heap.size, 0, none⟩) 1 1) (by rfl) rfl (by first | (go_simp; done) | (go_simp; rfl)) ?_
      refine hK.out _ _ (hHeld.below hb2) (fun hHeld => ?_); clear hK K
      refine nr_ ?_
      have hO : Kd.R k41 41 (w5.alloc (.cells #[.slice B0 t1.length d0, .slice B1 t2.length d1, .slice B2 t3.length d2, .int .i64 t4, .int .i64 t5] 41 (0, 0))) W.heap.size (fun _ => True) (.slice (some ⟨w5.heap.size, 0, none⟩) 1 1) [posQ t1 t2 t3 t4 t5] := lit_now k41 W.heap.size 41 (Reps.c5 HQ3.out (Reps.none _ _)) (fun _ _ => trivial) trivial HB2.out.size (by simp)
      have HB3 : Aside0 (Below W.heap.size W (w5.alloc (.cells #[.slice B0 t1.length d0, .slice B1 t2.length d1, .slice B2 t3.length d2, .int .i64 t4, .int .i64 t5] 41 (0, 0)))) := ⟨xW HB2⟩
      have hs := HB3.out.size
      refine one_ (i := 1) (N := some 15) (mk 8 15) rfl rfl (one_of HT_.out (by kernel_rfl)) (by decide) (fun K hK => ?_)
      refine goes_ Try.func74 (by kernel_rfl) rfl #[.agg #[.string r.f0, .int .i64 r.f1, .int .i64 r.f2, .slice A3 r.f3.length c3, .slice A4 r.f4.length c4, .bool r.f5, .bool r.f6, .slice A7 r.f7.length c7, .int .i64 r.f8, .int .i64 r.f9, .int .i64 r.f10]] (by rfl) rfl rfl (by (try simp only [List.map_toArray, List.map_cons, List.map_nil]); rfl) ?_
      refine (copy_any (HR.out.below HB3.out) HC.out).mono ?_
      rintro e wa ⟨B3, b3, B4, b4, B7, b7, rfl, ⟨h3, h4, h7⟩, hb⟩
      refine ⟨_, rfl, ?_⟩
      refine hK.out _ _ (hHeld.below hb) (fun hHeld => ?_); clear hK K
      exact hc (B3, b3, B4, b4, B7, b7, w5.heap.size) _ ⟨⟨Kd.R_lower h3 hs, Kd.R_lower h4 hs, Kd.R_lower h7 hs⟩, Kd.R_below hO hb, (xS HB3 hb).out⟩
  case cont =>
    rintro ⟨B3, b3, B4, b4, B7, b7, g8⟩ wc ⟨⟨h3, h4, h7⟩, hO, hB⟩
    dsimp only at h3 h4 h7 hO hB
    refine nr_ ?_
    clear HQ3 BK2 BP2 HB2
    have HO := xm hO; have H3 := xm h3; have H4 := xm h4; have H7 := xm h7; have HB := xm hB
    clear hO h3 h4 h7 hB
    refine pu_ 4 18 HT_ ?_
    refine last_ (i := 5) (N := some 19) (mk 8 63) rfl rfl (one_of HT_.out (by kernel_rfl)) (by decide) (fun K hK => ?_)
    refine value_ (w1 := wc.alloc (.cells #[.string c.f0, .int .i64 c.f1, .int .i64 c.f2, .slice B3 c.f3.length b3, .slice B4 c.f4.length b4, .bool c.f5, .bool c.f6, .slice B7 c.f7.length b7, .int .i64 c.f8, .int .i64 c.f9, .int .i64 c.f10, .slice (some ⟨g8, 0, none⟩) 1 1, .slice none 0 0] 133 (0, 0))) (v := .pointer (some ⟨wc.heap.size, 0, none⟩)) (by rfl) rfl (by first | (go_simp; done) | (go_simp; rfl)) ?_
    have hb2 := below_alloc (Below.refl wc.heap.size wc) (.cells #[.string c.f0, .int .i64 c.f1, .int .i64 c.f2, .slice B3 c.f3.length b3, .slice B4 c.f4.length b4, .bool c.f5, .bool c.f6, .slice B7 c.f7.length b7, .int .i64 c.f8, .int .i64 c.f9, .int .i64 c.f10, .slice (some ⟨g8, 0, none⟩) 1 1, .slice none 0 0] 133 (0, 0))
    refine hK.out _ _ ?_; clear hK K
    refine nr_ ?_
    refine pu_ 6 2 HT_ ?_; refine pu_ 7 3 HT_ ?_
    refine done_ (done_of HT_.out (by kernel_rfl)) ?_
    have hG : GameIn _ W.heap.size wc.heap.size B3 b3 B4 b4 B7 b7 (some ⟨g8, 0, none⟩) 1 none 0 c [posQ t1 t2 t3 t4 t5] [] := ⟨HB.out.size, blk_new wc _, Kd.R_below H3.out hb2, Kd.R_below H4.out hb2, Kd.R_below H7.out hb2, Kd.R_below HO.out hb2, Kd.R_nil _ _ _ _ _⟩
    have HG := xm hG
    clear hG hb2
    go_wp2
    go_ret2
    exact ⟨_, rfl, ⟨_, rfl, B3, b3, B4, b4, B7, b7, _, _, HG.out⟩, xW HB⟩
def pl_end (k : Nat) (c : S26) (z : List S41 × Int) : Option (List Int × List Int × List Int × Int × Int × Int × Int) := if z.2 = 0 then
    ((place_Copy.f (lastP z.1).f0 (lastP z.1).f1.f0 (lastP z.1).f1.f1 (lastP z.1).f2 (lastP z.1).f3).bind fun t => (pl_result k c z.1).bind fun x => some (t.1, t.2.1, t.2.2.1, t.2.2.2.1, t.2.2.2.2, x, 0))
    else some ([], [], [], 0, 0, 0, z.2)
def pl_all (k : Nat) (r : S26) : Option (List Int × List Int × List Int × Int × Int × Int × Int) := (place_Begin.f k r.f0 r.f1 r.f2 r.f3 r.f4 r.f5 r.f6 r.f7 r.f8 r.f9 r.f10).bind fun q => if q.2.2.2.2.2 = 0 then
    ((copied k r).bind fun c => pl_end k c ([posQ q.1 q.2.1 q.2.2.1 q.2.2.2.1 q.2.2.2.2.1], 0))
    else some ([], [], [], 0, 0, 0, q.2.2.2.2.2)
def plain_Run.f (k : Nat) (a0 : ByteArray) (a1 a2 : Int) (l3 : List S104) (l4 : List Int) (a5 a6 : Bool) (l7 : List S98) (a8 a9 a10 : Int) (l : List S38) : Option (List Int × List Int × List Int × Int × Int × Int × Int) := if l.isEmpty = true then pl_all k ⟨a0, a1, a2, l3, l4, a5, a6, l7, a8, a9, a10⟩ else none
theorem pl_end.mono (c : S26) (z : List S41 × Int) (k : Nat) : LeO (pl_end k c z) (pl_end (k + 1) c z) := by
  unfold pl_end
  exact LeO.ite (LeO.bind (LeO.refl _) (fun _ => LeO.bind (pl_result.mono _ _ _) (fun _ => LeO.refl _))) (LeO.refl _)
theorem copied.mono (r : S26) (k : Nat) : LeO (copied k r) (copied (k + 1) r) := by
  unfold copied
  exact LeO.bind (rules_Copy.mono _ _ _ _ _ _ _ _ _ _ _ _) (fun _ => LeO.refl _)
theorem plain_Run.mono : ∀ a0 a1 a2 a3 a4 a5 a6 a7 a8 a9 a10 a11 k, LeO (plain_Run.f k a0 a1 a2 a3 a4 a5 a6 a7 a8 a9 a10 a11) (plain_Run.f (k + 1) a0 a1 a2 a3 a4 a5 a6 a7 a8 a9 a10 a11) := by
  intros
  unfold plain_Run.f pl_all
  exact LeO.ite (LeO.bind (place_Begin.mono _ _ _ _ _ _ _ _ _ _ _ _) (fun _ => LeO.ite (LeO.bind (copied.mono _ _) (fun _ => pl_end.mono _ _ _)) (LeO.refl _))) (LeO.refl _)
theorem run_any (k : Nat) (r : S26) {A3 : Option Addr} {c3 : Nat} {A4 : Option Addr} {c4 : Nat} {A7 : Option Addr} {c7 : Nat} {A1 : Option Addr} {c1 : Nat} (x1 x2 x3 : List Int) (x4 x5 x6 x7 : Int) (w : World)
    (hr : RIn w A3 c3 A4 c4 A7 c7 r) (h : pl_all k r = some (x1, x2, x3, x4, x5, x6, x7)) :
    Calls Try.prog 35 #[.agg (rulesV A3 c3 A4 c4 A7 c7 r).toArray, .slice A1 0 c1] w fun e w' => ∃ v0_ v1_ v2_ : Value, e = .returned (.tuple #[.agg #[v0_, v1_, v2_, .int .i64 x4, .int .i64 x5], .int .i64 x6, .int .i64 x7]) ∧ Kd.R (Kd.int .i64) 3 w' w.heap.size (fun k_ => some k_ ≠ (v1_ : Value).ownBlock ∧ some k_ ≠ (v2_ : Value).ownBlock) v0_ x1 ∧ Kd.R (Kd.int .i64) 3 w' w.heap.size (fun k_ => some k_ ≠ (v0_ : Value).ownBlock ∧ some k_ ≠ (v2_ : Value).ownBlock) v1_ x2 ∧ Kd.R (Kd.int .i64) 3 w' w.heap.size (fun k_ => some k_ ≠ (v0_ : Value).ownBlock ∧ some k_ ≠ (v1_ : Value).ownBlock) v2_ x3 ∧ Below w.heap.size w w' := by
  have hu26 := Try.underlying26
  have hu41 := Try.underlying41
  have HR := xm hr
  clear hr
  have HB := xm (Below.refl w.heap.size w)
  have hss_ := @isSome_setCell
  unfold pl_all at h
  obtain ⟨⟨t1, t2, t3, t4, t5, t6⟩, AB, h⟩ := xH h
  dsimp only at h
  unfold rulesV
  by_cases h6 : t6 = 0
  rotate_left
  · rw [if_neg h6] at h
    simp only [Option.some.injEq, Prod.mk.injEq] at h
    obtain ⟨rfl, rfl, rfl, rfl, rfl, rfl, rfl⟩ := h
    have h6a := beq_eq_false_iff_ne.mpr h6
    have h6b := bne_iff_ne.mpr h6
    go_enter Try.func35, Try.ntmps35
    go_wp2_with (first
      | ((with_reducible refine gate_dst (N := 2) rfl ?_); refine xG (cs := #[.string r.f0, .int .i64 r.f1, .int .i64 r.f2, .slice A3 r.f3.length c3, .slice A4 r.f4.length c4, .bool r.f5, .bool r.f6, .slice A7 r.f7.length c7, .int .i64 r.f8, .int .i64 r.f9, .int .i64 r.f10]) (t := 26) ?_; intro gb hg w1 hbox hb; have BK := xm hbox; replace HB := xS HB hb; clear hb hbox hg)
      | ((with_reducible refine gate_dst (N := 4) rfl ?_); refine xG (cs := #[.slice none 0 0, .slice none 0 0, .slice none 0 0, .int .i64 0, .int .i64 0]) (t := 41) ?_; intro g4 hg w2 hbox hb; have B4 := xm hbox; have GW := xZ HB hg; replace BK := xB BK hb; replace HB := xS HB hb; clear hb hbox hg; have hcz := blkc11 BK.out)
      | ((with_reducible refine gate_callee (f := 52) rfl ?_); refine xL (some 14) Try.func52 #[.agg #[.string r.f0, .int .i64 r.f1, .int .i64 r.f2, .slice A3 r.f3.length c3, .slice A4 r.f4.length c4, .bool r.f5, .bool r.f6, .slice A7 r.f7.length c7, .int .i64 r.f8, .int .i64 r.f9, .int .i64 r.f10]] rfl ?_; refine (new_any (c := r) k (HR.out.below (xW HB)) AB.out (fun e => absurd e h6)).mono ?_; rintro e w3 ⟨v, rfl, hv0, hv, hb⟩; obtain rfl := hv0 h6; refine ⟨_, rfl, ?_⟩; replace B4 := xB B4 hb; replace HB := xS HB hb; clear hb hv hv0; have hcq := blkc5 B4.out))
    have B5 : Aside0 ((((((w3.setCell ⟨g4, 0, none⟩ (.slice none 0 0)).setCell ⟨g4, 1, none⟩ (.slice none 0 0)).setCell ⟨g4, 2, none⟩ (.slice none 0 0)).setCell ⟨g4, 3, none⟩ (.int .i64 0)).setCell ⟨g4, 4, none⟩ (.int .i64 0)).heap[g4]? = some (.cells #[.slice none 0 0, .slice none 0 0, .slice none 0 0, .int .i64 0, .int .i64 0] 41 (0, 0))) := ⟨xQ B4⟩
    have HB5 : Aside0 (Below w.heap.size w (((((w3.setCell ⟨g4, 0, none⟩ (.slice none 0 0)).setCell ⟨g4, 1, none⟩ (.slice none 0 0)).setCell ⟨g4, 2, none⟩ (.slice none 0 0)).setCell ⟨g4, 3, none⟩ (.int .i64 0)).setCell ⟨g4, 4, none⟩ (.int .i64 0))) := ⟨xW HB⟩
    clear B4 HB hcq
    generalize (((((w3.setCell ⟨g4, 0, none⟩ (.slice none 0 0)).setCell ⟨g4, 1, none⟩ (.slice none 0 0)).setCell ⟨g4, 2, none⟩ (.slice none 0 0)).setCell ⟨g4, 3, none⟩ (.int .i64 0)).setCell ⟨g4, 4, none⟩ (.int .i64 0)) = wn at B5 HB5 ⊢
    have hcq := blkc5 B5.out
    exact bodyPost_ret (v := .tuple #[.agg #[.slice none 0 0, .slice none 0 0, .slice none 0 0, .int .i64 0, .int .i64 0], .int .i64 0, .int .i64 t6]) (by simp [results, Try.results35, go_sem, hcq, hu41]) rfl ⟨_, _, _, rfl, Kd.R_nil _ _ _ _ _, Kd.R_nil _ _ _ _ _, Kd.R_nil _ _ _ _ _, HB5.out⟩
  subst h6
  rw [if_pos rfl] at h
  obtain ⟨c, AC, h⟩ := xH h
  have HE := xm h
  clear h
  go_enter Try.func35, Try.ntmps35
  go_upto_region 2 with (first
      | ((with_reducible refine gate_dst (N := 2) rfl ?_); refine xG (cs := #[.string r.f0, .int .i64 r.f1, .int .i64 r.f2, .slice A3 r.f3.length c3, .slice A4 r.f4.length c4, .bool r.f5, .bool r.f6, .slice A7 r.f7.length c7, .int .i64 r.f8, .int .i64 r.f9, .int .i64 r.f10]) (t := 26) ?_; intro gb hg w1 hbox hb; have BK := xm hbox; replace HB := xS HB hb; clear hb hbox hg)
      | ((with_reducible refine gate_dst (N := 4) rfl ?_); refine xG (cs := #[.slice none 0 0, .slice none 0 0, .slice none 0 0, .int .i64 0, .int .i64 0]) (t := 41) ?_; intro g4 hg w2 hbox hb; have B4 := xm hbox; have GW := xZ HB hg; replace BK := xB BK hb; replace HB := xS HB hb; clear hb hbox hg; have hcz := blkc11 BK.out)
      | ((with_reducible refine gate_callee (f := 52) rfl ?_); refine xL (some 14) Try.func52 #[.agg #[.string r.f0, .int .i64 r.f1, .int .i64 r.f2, .slice A3 r.f3.length c3, .slice A4 r.f4.length c4, .bool r.f5, .bool r.f6, .slice A7 r.f7.length c7, .int .i64 r.f8, .int .i64 r.f9, .int .i64 r.f10]] rfl ?_; refine (new_any (c := c) k (HR.out.below (xW HB)) AB.out (fun _ => AC.out)).mono ?_; rintro e w3 ⟨v, rfl, hv0, hv, hb⟩; obtain ⟨g, rfl, B3, b3, B4_, b4, B7, b7, A8, c8, hG⟩ := hv rfl; refine ⟨_, rfl, ?_⟩; have HG := xm hG; have HX := xm hb; have HB0 := HB; clear hb hv hv0 hG))
  go_wp2
  clear hcz BK
  go_loopg [23] 0 (fun kq v23 w' => v23 = .int .i64 0 ∧ Aside0 (GameIn w' w2.heap.size g B3 b3 B4_ b4 B7 b7 A8 c8 none 0 c [posQ t1 t2 t3 t4 t5] []) ∧ Aside0 (Below w2.heap.size w2 w'))
  case atStart => exact ⟨(xrf), HG, HX⟩
  case round =>
    clear HG HX
    obtain ⟨rfl, HG, HX⟩ := hrel
    have HP0 : Aside0 (0 < [posQ t1 t2 t3 t4 t5].length) := ⟨by simp⟩
    have HP4 : Aside0 ([posQ t1 t2 t3 t4 t5].length ≤ 401) := ⟨by simp⟩
    replace HB := xm (below_step HB.out HX.out)
    replace B4 := xm (blk_below B4.out HX.out)
    have H2 := HE.out
    unfold pl_end at H2
    rw [if_pos rfl] at H2
    obtain ⟨⟨p1, p2, p3, p4, p5⟩, AP, H2⟩ := xH H2
    obtain ⟨x, AX, H2⟩ := xH H2
    simp only [Option.some.injEq, Prod.mk.injEq] at H2
    obtain ⟨rfl, rfl, rfl, rfl, rfl, rfl, rfl⟩ := H2
    clear HE
    go_wp2_with (first
      | ((with_reducible refine gate_callee (f := 54) rfl ?_); refine xL (some 36) Try.func54 #[.pointer (some ⟨g, 0, none⟩)] rfl ?_; refine (pos_any HG.out HP0.out HP4.out AP.out).mono ?_; rintro e wp ⟨G0, g0, G1, g1, G2, g2, rfl, hP, hb⟩; refine ⟨_, rfl, ?_⟩; have HP := xm (hP.lower HB.out.size); replace HG := xm (HG.out.below hb); replace B4 := xB B4 hb; replace HB := xS HB hb; clear hP hb)
      | ((with_reducible refine gate_callee (f := 55) rfl ?_); refine xL (some 38) Try.func55 #[.pointer (some ⟨g, 0, none⟩)] rfl ?_; refine (gres_any k HG.out HP0.out HP4.out AX.out).mono ?_; rintro e wq ⟨rfl, hb⟩; refine ⟨_, rfl, ?_⟩; replace HP := xm (HP.out.below hb); replace B4 := xB B4 hb; replace HB := xS HB hb; clear hb; have hcq := blkc5 B4.out))
    have B5 : Aside0 ((((((wq.setCell ⟨g4, 0, none⟩ (.slice G0 p1.length g0)).setCell ⟨g4, 1, none⟩ (.slice G1 p2.length g1)).setCell ⟨g4, 2, none⟩ (.slice G2 p3.length g2)).setCell ⟨g4, 3, none⟩ (.int .i64 p4)).setCell ⟨g4, 4, none⟩ (.int .i64 p5)).heap[g4]? = some (.cells #[.slice G0 p1.length g0, .slice G1 p2.length g1, .slice G2 p3.length g2, .int .i64 p4, .int .i64 p5] 41 (0, 0))) := ⟨xQ B4⟩
    have HB5 : Aside0 (Below w.heap.size w (((((wq.setCell ⟨g4, 0, none⟩ (.slice G0 p1.length g0)).setCell ⟨g4, 1, none⟩ (.slice G1 p2.length g1)).setCell ⟨g4, 2, none⟩ (.slice G2 p3.length g2)).setCell ⟨g4, 3, none⟩ (.int .i64 p4)).setCell ⟨g4, 4, none⟩ (.int .i64 p5))) := ⟨xW HB⟩
    have HP5 := xm (HP.out.far5 B4.out (.slice G0 p1.length g0) (.slice G1 p2.length g1) (.slice G2 p3.length g2) (.int .i64 p4) (.int .i64 p5))
    clear B4 HB HP hcq
    generalize (((((wq.setCell ⟨g4, 0, none⟩ (.slice G0 p1.length g0)).setCell ⟨g4, 1, none⟩ (.slice G1 p2.length g1)).setCell ⟨g4, 2, none⟩ (.slice G2 p3.length g2)).setCell ⟨g4, 3, none⟩ (.int .i64 p4)).setCell ⟨g4, 4, none⟩ (.int .i64 p5)) = wn at B5 HB5 HP5 ⊢
    have hcq := blkc5 B5.out
    exact bodyPost_ret (v := .tuple #[.agg #[.slice G0 p1.length g0, .slice G1 p2.length g1, .slice G2 p3.length g2, .int .i64 p4, .int .i64 p5], .int .i64 x, .int .i64 0]) (by simp [results, Try.results35, go_sem, hcq, hu41]) rfl ⟨_, _, _, rfl, HP5.out.h0, HP5.out.h1, HP5.out.h2, HB5.out⟩
/-- the printed form -/
theorem plain_Run.calls (k : Nat) (a0_0 : ByteArray) (a0_1 : Int) (a0_2 : Int) (A0_3 : Option Addr) (c0_3 : Nat) (l0_3 : List S104) (A0_4 : Option Addr) (c0_4 : Nat) (l0_4 : List Int) (a0_5 : Bool) (a0_6 : Bool) (A0_7 : Option Addr) (c0_7 : Nat) (l0_7 : List S98) (a0_8 : Int) (a0_9 : Int) (a0_10 : Int) (A1 : Option Addr) (c1 : Nat) (l1 : List S38) (x1 x2 x3 : List Int) (x4 x5 x6 x7 : Int) (w : World) (hr0_3 : Kd.C k104 w A0_3 l0_3.length l0_3) (hc0_3 : l0_3.length ≤ c0_3) (hr0_4 : Kd.C (Kd.int .i64) w A0_4 l0_4.length l0_4) (hc0_4 : l0_4.length ≤ c0_4) (hr0_7 : Kd.C k98 w A0_7 l0_7.length l0_7) (hc0_7 : l0_7.length ≤ c0_7) (hr1 : Kd.C k38 w A1 l1.length l1) (hc1 : l1.length ≤ c1) (h : plain_Run.f k a0_0 a0_1 a0_2 l0_3 l0_4 a0_5 a0_6 l0_7 a0_8 a0_9 a0_10 l1 = some (x1, x2, x3, x4, x5, x6, x7)) :
    Calls Try.prog 35 #[.agg #[.string a0_0, .int .i64 a0_1, .int .i64 a0_2, .slice A0_3 l0_3.length c0_3, .slice A0_4 l0_4.length c0_4, .bool a0_5, .bool a0_6, .slice A0_7 l0_7.length c0_7, .int .i64 a0_8, .int .i64 a0_9, .int .i64 a0_10], .slice A1 l1.length c1] w fun e w' => ∃ v0_ v1_ v2_ : Value, e = .returned (.tuple #[.agg #[v0_, v1_, v2_, .int .i64 x4, .int .i64 x5], .int .i64 x6, .int .i64 x7]) ∧ Kd.R (Kd.int .i64) 3 w' w.heap.size (fun k_ => some k_ ≠ (v1_ : Value).ownBlock ∧ some k_ ≠ (v2_ : Value).ownBlock) v0_ x1 ∧ Kd.R (Kd.int .i64) 3 w' w.heap.size (fun k_ => some k_ ≠ (v0_ : Value).ownBlock ∧ some k_ ≠ (v2_ : Value).ownBlock) v1_ x2 ∧ Kd.R (Kd.int .i64) 3 w' w.heap.size (fun k_ => some k_ ≠ (v0_ : Value).ownBlock ∧ some k_ ≠ (v1_ : Value).ownBlock) v2_ x3 ∧ Below w.heap.size w w' :=
  by
  unfold plain_Run.f at h
  by_cases he : l1.isEmpty = true
  · rw [if_pos he] at h
    obtain rfl := List.isEmpty_iff.1 he
    exact run_any k ⟨a0_0, a0_1, a0_2, l0_3, l0_4, a0_5, a0_6, l0_7, a0_8, a0_9, a0_10⟩ x1 x2 x3 x4 x5 x6 x7 w ⟨hc0_3, hr0_3, hc0_4, hr0_4, hc0_7, hr0_7⟩ h
  · rw [if_neg he] at h
    cases h
def rep0 (k : Nat) (r : S26) : Option (Int × Int) := (pl_all k r).bind fun q => if q.2.2.2.2.2.2 = 0 then
    ((place_Fresh.f k r.f0 r.f1 r.f2 r.f3 r.f4 r.f5 r.f6 r.f7 r.f8 r.f9 r.f10).bind fun t => (place_Same.f k t.1 t.2.1 t.2.2.1 t.2.2.2.1 t.2.2.2.2 t.1 t.2.1 t.2.2.1 t.2.2.2.1 t.2.2.2.2).bind fun b => some (if b = true then 1 else 0, 0))
    else some (0, q.2.2.2.2.2.2)
def claim_Repeats.f (k : Nat) (a0 : ByteArray) (a1 a2 : Int) (l3 : List S104) (l4 : List Int) (a5 a6 : Bool) (l7 : List S98) (a8 a9 a10 : Int) (l : List S38) : Option (Int × Int) := if l.isEmpty = true then rep0 k ⟨a0, a1, a2, l3, l4, a5, a6, l7, a8, a9, a10⟩ else none
theorem claim_Repeats.mono : ∀ a0 a1 a2 a3 a4 a5 a6 a7 a8 a9 a10 a11 k, LeO (claim_Repeats.f k a0 a1 a2 a3 a4 a5 a6 a7 a8 a9 a10 a11) (claim_Repeats.f (k + 1) a0 a1 a2 a3 a4 a5 a6 a7 a8 a9 a10 a11) := by
  intro a0 a1 a2 a3 a4 a5 a6 a7 a8 a9 a10 a11 k
  have hp : LeO (pl_all k ⟨a0, a1, a2, a3, a4, a5, a6, a7, a8, a9, a10⟩) (pl_all (k + 1) ⟨a0, a1, a2, a3, a4, a5, a6, a7, a8, a9, a10⟩) := plain_Run.mono a0 a1 a2 a3 a4 a5 a6 a7 a8 a9 a10 [] k
  unfold claim_Repeats.f rep0
  exact LeO.ite (LeO.bind hp (fun _ => LeO.ite (LeO.bind (place_Fresh.mono _ _ _ _ _ _ _ _ _ _ _ _) (fun _ => LeO.bind (place_Same.mono _ _ _ _ _ _ _ _ _ _ _) (fun _ => LeO.refl _))) (LeO.refl _))) (LeO.refl _)
def claim_Repeats.T14 : Bool × List (List Nat × List Nat) := (true, [([], []), ([], []), ([], []), ([2], [2]), ([1, 3], [1, 3]), ([4], [4]), ([0, 5], [0, 5])])
def claim_Repeats.B14 : List Nat := [0, 0, 0, 4, 14, 30, 63]
theorem claim_Repeats.tab14 : rtab .any (opsOf Try.f10 14) = claim_Repeats.T14 := by kernel_rfl
theorem claim_Repeats.bits14 : waitsOk claim_Repeats.T14.2 claim_Repeats.B14 = true := by kernel_rfl
theorem below_row {α : Type} {d : Kd α} {e base : Nat} {ok : Nat → Prop} {W : World} {v : Value} {xs : List α} (_ : d.R e W base ok v xs) : Below W.heap.size W W := Below.refl _ _
abbrev worldR {α : Type} {d : Kd α} {e base : Nat} {ok : Nat → Prop} {W : World} {v : Value} {xs : List α} (_ : d.R e W base ok v xs) : World := W
theorem rep_any (k : Nat) (r : S26) {A3 : Option Addr} {c3 : Nat} {A4 : Option Addr} {c4 : Nat} {A7 : Option Addr} {c7 : Nat} {A1 : Option Addr} {c1 : Nat} (x1 x2 : Int) (w : World) (hr : RIn w A3 c3 A4 c4 A7 c7 r) (h : rep0 k r = some (x1, x2)) :
    Calls Try.prog 10 #[.agg (rulesV A3 c3 A4 c4 A7 c7 r).toArray, .slice A1 0 c1] w fun e w' => e = .returned (.tuple #[.int .i64 x1, .int .i64 x2]) ∧ Below w.heap.size w w' := by
  have hu26 := Try.underlying26
  have hu41 := Try.underlying41
  have hu34 := Try.underlying34
  have HR := xm hr
  clear hr
  have HB := xm (Below.refl w.heap.size w)
  have hss_ := @isSome_setCell
  unfold rep0 at h
  obtain ⟨⟨y1, y2, y3, y4, y5, y6, y7⟩, AR, h⟩ := xH h
  dsimp only at h
  unfold rulesV
  by_cases h7 : y7 = 0
  rotate_left
  · rw [if_neg h7] at h
    simp only [Option.some.injEq, Prod.mk.injEq] at h
    obtain ⟨rfl, rfl⟩ := h
    have h7a := beq_eq_false_iff_ne.mpr h7
    have h7b := bne_iff_ne.mpr h7
    go_enter Try.func10, Try.ntmps10
    go_wp2_with (first
      | ((with_reducible refine gate_dst (N := 2) rfl ?_); refine xG (cs := #[.string r.f0, .int .i64 r.f1, .int .i64 r.f2, .slice A3 r.f3.length c3, .slice A4 r.f4.length c4, .bool r.f5, .bool r.f6, .slice A7 r.f7.length c7, .int .i64 r.f8, .int .i64 r.f9, .int .i64 r.f10]) (t := 26) ?_; intro gb hg w1 hbox hb; have BK := xm hbox; have GW := xZ HB hg; replace HB := xS HB hb; clear hb hbox hg; have hcz := blkc11 BK.out)
      | ((with_reducible refine gate_callee (f := 35) rfl ?_); refine xL (some 18) Try.func35 #[.agg #[.string r.f0, .int .i64 r.f1, .int .i64 r.f2, .slice A3 r.f3.length c3, .slice A4 r.f4.length c4, .bool r.f5, .bool r.f6, .slice A7 r.f7.length c7, .int .i64 r.f8, .int .i64 r.f9, .int .i64 r.f10], .slice A1 0 c1] rfl ?_; refine (run_any k r _ _ _ _ _ _ _ _ (HR.out.below (xW HB)) AR.out).mono ?_; rintro e w2 ⟨v0, v1, v2, rfl, h0, h1, h2, hb⟩; obtain ⟨G0, g0, rfl⟩ := Kd.R_slice h0; obtain ⟨G1, g1, rfl⟩ := Kd.R_slice h1; obtain ⟨G2, g2, rfl⟩ := Kd.R_slice h2; refine ⟨_, rfl, ?_⟩; replace BK := xB BK hb; replace HB := xS HB hb; clear hb h0 h1 h2)
      | ((with_reducible refine gate_dst (N := 6) rfl ?_); refine xG (cs := #[.slice none 0 0, .slice none 0 0, .slice none 0 0, .int .i64 0, .int .i64 0]) (t := 41) ?_; intro g6 hg w3 hbox hb; have B6 := xm hbox; have GZ6 := xZ HB hg; have NB1 := xN BK hg; have NB2 := xM BK hg; replace BK := xB BK hb; replace HB := xS HB hb; clear hb hbox hg; have hnb := NB1.out; have hnc := NB2.out; have hc6 := blkc5 B6.out))
    go_ret2
    exact ⟨xer, xW HB⟩
  subst h7
  rw [if_pos rfl] at h
  obtain ⟨⟨t1, t2, t3, t4, t5⟩, AF, h⟩ := xH h
  obtain ⟨b, AS, h⟩ := xH h
  simp only [Option.some.injEq, Prod.mk.injEq] at h
  obtain ⟨hx, rfl⟩ := h
  have HX := xm hx
  clear hx
  go_enter Try.func10, Try.ntmps10
  go_upto_region 2 with (first
      | ((with_reducible refine gate_dst (N := 2) rfl ?_); refine xG (cs := #[.string r.f0, .int .i64 r.f1, .int .i64 r.f2, .slice A3 r.f3.length c3, .slice A4 r.f4.length c4, .bool r.f5, .bool r.f6, .slice A7 r.f7.length c7, .int .i64 r.f8, .int .i64 r.f9, .int .i64 r.f10]) (t := 26) ?_; intro gb hg w1 hbox hb; have BK := xm hbox; have GW := xZ HB hg; replace HB := xS HB hb; clear hb hbox hg; have hcz := blkc11 BK.out)
      | ((with_reducible refine gate_callee (f := 35) rfl ?_); refine xL (some 18) Try.func35 #[.agg #[.string r.f0, .int .i64 r.f1, .int .i64 r.f2, .slice A3 r.f3.length c3, .slice A4 r.f4.length c4, .bool r.f5, .bool r.f6, .slice A7 r.f7.length c7, .int .i64 r.f8, .int .i64 r.f9, .int .i64 r.f10], .slice A1 0 c1] rfl ?_; refine (run_any k r _ _ _ _ _ _ _ _ (HR.out.below (xW HB)) AR.out).mono ?_; rintro e w2 ⟨v0, v1, v2, rfl, h0, h1, h2, hb⟩; obtain ⟨G0, g0, rfl⟩ := Kd.R_slice h0; obtain ⟨G1, g1, rfl⟩ := Kd.R_slice h1; obtain ⟨G2, g2, rfl⟩ := Kd.R_slice h2; refine ⟨_, rfl, ?_⟩; replace BK := xB BK hb; replace HB := xS HB hb; clear hb h0 h1 h2)
      | ((with_reducible refine gate_dst (N := 6) rfl ?_); refine xG (cs := #[.slice none 0 0, .slice none 0 0, .slice none 0 0, .int .i64 0, .int .i64 0]) (t := 41) ?_; intro g6 hg w3 hbox hb; have B6 := xm hbox; have GZ6 := xZ HB hg; have NB1 := xN BK hg; have NB2 := xM BK hg; replace BK := xB BK hb; replace HB := xS HB hb; clear hb hbox hg; have hnb := NB1.out; have hnc := NB2.out; have hc6 := blkc5 B6.out))
  have BK2 : Aside0 ((((((w3.setCell ⟨g6, 0, none⟩ (.slice G0 y1.length g0)).setCell ⟨g6, 1, none⟩ (.slice G1 y2.length g1)).setCell ⟨g6, 2, none⟩ (.slice G2 y3.length g2)).setCell ⟨g6, 3, none⟩ (.int .i64 y4)).setCell ⟨g6, 4, none⟩ (.int .i64 y5)).heap[gb]? = _) := ⟨xK BK⟩
  have HB2 : Aside0 (Below w.heap.size w (((((w3.setCell ⟨g6, 0, none⟩ (.slice G0 y1.length g0)).setCell ⟨g6, 1, none⟩ (.slice G1 y2.length g1)).setCell ⟨g6, 2, none⟩ (.slice G2 y3.length g2)).setCell ⟨g6, 3, none⟩ (.int .i64 y4)).setCell ⟨g6, 4, none⟩ (.int .i64 y5))) := ⟨xW HB⟩
  clear BK HB B6 hc6 hcz hnb hnc NB1 NB2 GZ6
  generalize (((((w3.setCell ⟨g6, 0, none⟩ (.slice G0 y1.length g0)).setCell ⟨g6, 1, none⟩ (.slice G1 y2.length g1)).setCell ⟨g6, 2, none⟩ (.slice G2 y3.length g2)).setCell ⟨g6, 3, none⟩ (.int .i64 y4)).setCell ⟨g6, 4, none⟩ (.int .i64 y5)) = wx at BK2 HB2 ⊢
  have HB := HB2
  have hcz := blkc11 BK2.out
  go_wp2_with ((with_reducible refine gate_callee (f := 36) rfl ?_); refine xL (some 26) Try.func36 #[.agg #[.string r.f0, .int .i64 r.f1, .int .i64 r.f2, .slice A3 r.f3.length c3, .slice A4 r.f4.length c4, .bool r.f5, .bool r.f6, .slice A7 r.f7.length c7, .int .i64 r.f8, .int .i64 r.f9, .int .i64 r.f10]] rfl ?_; refine (place_Fresh.calls k _ _ _ _ _ _ _ _ _ _ _ _ _ _ _ _ _ _ _ _ _ _ _ (HR.out.below (xW HB)).g3 HR.out.l3 (HR.out.below (xW HB)).g4 HR.out.l4 (HR.out.below (xW HB)).g7 HR.out.l7 AF.out).mono ?_; rintro e w4 ⟨v0, v1, v2, rfl, h0, h1, h2, hb⟩; obtain ⟨B0, d0, rfl⟩ := Kd.R_slice h0; obtain ⟨B1, d1, rfl⟩ := Kd.R_slice h1; obtain ⟨B2, d2, rfl⟩ := Kd.R_slice h2; refine ⟨_, rfl, ?_⟩; have HQ := xm (k41.M_lower (below_size (xW HB)) (mkQ (t4 := t4) (t5 := t5) h0 h1 h2)); replace HB := xS HB hb; clear hb h0 h1 h2)
  have HO : Aside0 (Kd.R k41 41 (w4.alloc (.cells #[.slice B0 t1.length d0, .slice B1 t2.length d1, .slice B2 t3.length d2, .int .i64 t4, .int .i64 t5] 41 (0, 0))) w.heap.size (fun _ => True) (.slice (some ⟨w4.heap.size, 0, none⟩) 1 1) [posQ t1 t2 t3 t4 t5]) := ⟨lit_now k41 w.heap.size 41 (Reps.c5 HQ.out (Reps.none _ _)) (fun _ _ => trivial) trivial HB.out.size (by simp)⟩
  have HB3 : Aside0 (Below w.heap.size w (w4.alloc (.cells #[.slice B0 t1.length d0, .slice B1 t2.length d1, .slice B2 t3.length d2, .int .i64 t4, .int .i64 t5] 41 (0, 0)))) := ⟨xW HB⟩
  clear HB HB2 BK2 HQ hcz GW
  generalize hgs : (⟨w4.heap.size, 0, none⟩ : Addr) = ad at HO ⊢
  clear hgs
  generalize (w4.alloc (.cells #[.slice B0 t1.length d0, .slice B1 t2.length d1, .slice B2 t3.length d2, .int .i64 t4, .int .i64 t5] 41 (0, 0))) = w5 at HO HB3 ⊢
  have hln : [posQ t1 t2 t3 t4 t5].length = 1 := rfl
  have hr0 : ∀ j : Int, j = 0 → rd_T41 [posQ t1 t2 t3 t4 t5] j = posQ t1 t2 t3 t4 t5 := fun j e => by rw [e]; rfl
  generalize [posQ t1 t2 t3 t4 t5] = ps at HO hln hr0
  have HLN := xm hln
  have HR0 := xm hr0
  clear hln hr0
  go_loopg [9, 30] 0 (fun kq v9 v30 w' => v9 = .slice (some ad) 1 1 ∧ v30 = .int .i64 0 ∧ Aside0 (Kd.R k41 41 w' w.heap.size (fun _ => True) (.slice (some ad) 1 1) ps) ∧ Aside0 (Below w.heap.size w w'))
  case atStart => exact ⟨rfl, rfl, HO, HB3⟩
  case round =>
    clear HO HB3
    obtain ⟨rfl, rfl, HO, HB⟩ := hrel
    go_wp2
    go_loopg [12, 48] 1 (fun kq v12 v48 w' => ∃ (i : Nat) (j n : Int), v12 = .int .i64 n ∧ v48 = .int .i64 j ∧ Aside0 (j = (i : Int)) ∧ Aside0 (i + kq = 1) ∧ Aside0 (n = if i = 0 then 0 else x1) ∧ Aside0 (Kd.R k41 41 w' w.heap.size (fun _ => True) (.slice (some ad) 1 1) ps) ∧ Aside0 (Below w.heap.size w w'))
    case atStart => exact ⟨0, 0, 0, rfl, rfl, ⟨rfl⟩, ⟨rfl⟩, ⟨rfl⟩, HO, HB⟩
    case round =>
      clear HO HB
      obtain ⟨i, j, n, rfl, rfl, HJ, HI, HN, HO, HB⟩ := hrel
      by_cases hi : i = 0
      rotate_left
      · have hlt' : decide (j < 1) = false := decide_eq_false (by have := HJ.out; omega)
        have hn : n = x1 := by rw [HN.out, if_neg hi]
        subst hn
        go_wp2
        go_ret2
        exact ⟨xer, xW HB⟩
      subst hi
      have hn : n = 0 := by rw [HN.out]; rfl
      subst hn
      obtain ⟨k1, rfl⟩ : ∃ k1, gk = k1 + 1 := ⟨gk - 1, by have := HI.out; omega⟩
      have hj0 : 0 ≤ j := by have := HJ.out; omega
      have hj1 : j < (ps.length : Int) := by have := HJ.out; have := HLN.out; omega
      have hrd : rd_T41 ps j = posQ t1 t2 t3 t4 t5 := HR0.out j HJ.out
      obtain ⟨E0, e0, E1, e1, E2, e2, hPE, z0, z1, z2, z3, z4⟩ := elem_at (Kd.R_reads' HO.out).2.2 hj0 hj1
      obtain ⟨F0, f0, F1, f1, F2, f2, hPF, u0, u1, u2, u3, u4⟩ := elem_at (i := 0) (Kd.R_reads' HO.out).2.2 (Int.le_refl 0) (by have := HLN.out; omega)
      have had : ad.add 0 = ad := by simp [Addr.add]
      rw [Int.toNat_zero, Nat.zero_mul, had] at u0 u1 u2 u3 u4
      clear had
      have HPE := xm hPE
      have HPF := xm hPF
      have p0 : (0 ≤ j) = True := eq_true hj0
      have q0 : (j < 1) = True := eq_true (by have := HJ.out; omega)
      have q1 : decide (j < 1) = true := decide_eq_true (by have := HJ.out; omega)
      obtain ⟨jn, hjn⟩ : ∃ jn : Int, wrap64 (j + 1) = jn := ⟨_, rfl⟩
      have hjn' : IntKind.i64.wrap (j + 1) = jn := (i64_w _).trans hjn
      have HJN := xm hjn
      have HY := xm (below_row HO.out)
      clear hPE hPF hj0 hj1 hjn hrd
      go_upto_region 14 with ((with_reducible refine gate_dst (N := 14) rfl ?_); refine xG (cs := #[.slice none 0 0, .slice none 0 0, .slice none 0 0, .int .i64 0, .int .i64 0]) (t := 41) ?_; intro gq hg wb hbox hb; have BQ := xm hbox; have GY := xZ HY hg; replace z0 := (hb.cell (World.block_lt_of_cell? _ _ z0)).trans z0; replace z1 := (hb.cell (World.block_lt_of_cell? _ _ z1)).trans z1; replace z2 := (hb.cell (World.block_lt_of_cell? _ _ z2)).trans z2; replace z3 := (hb.cell (World.block_lt_of_cell? _ _ z3)).trans z3; replace z4 := (hb.cell (World.block_lt_of_cell? _ _ z4)).trans z4; replace HY := xS HY hb; clear hb hbox hg; have hcq := blkc5 BQ.out)
      have BQ2 : Aside0 ((((((wb.setCell ⟨gq, 0, none⟩ (.slice E0 (rd_T41 ps j).f0.length e0)).setCell ⟨gq, 1, none⟩ (.slice E1 (rd_T41 ps j).f1.f0.length e1)).setCell ⟨gq, 2, none⟩ (.slice E2 (rd_T41 ps j).f1.f1.length e2)).setCell ⟨gq, 3, none⟩ (.int .i64 (rd_T41 ps j).f2)).setCell ⟨gq, 4, none⟩ (.int .i64 (rd_T41 ps j).f3)).heap[gq]? = some (.cells #[.slice E0 (rd_T41 ps j).f0.length e0, .slice E1 (rd_T41 ps j).f1.f0.length e1, .slice E2 (rd_T41 ps j).f1.f1.length e2, .int .i64 (rd_T41 ps j).f2, .int .i64 (rd_T41 ps j).f3] 41 (0, 0))) := ⟨xQ BQ⟩
      have HY2 : Aside0 (Below (worldR HO.out).heap.size (worldR HO.out) (((((wb.setCell ⟨gq, 0, none⟩ (.slice E0 (rd_T41 ps j).f0.length e0)).setCell ⟨gq, 1, none⟩ (.slice E1 (rd_T41 ps j).f1.f0.length e1)).setCell ⟨gq, 2, none⟩ (.slice E2 (rd_T41 ps j).f1.f1.length e2)).setCell ⟨gq, 3, none⟩ (.int .i64 (rd_T41 ps j).f2)).setCell ⟨gq, 4, none⟩ (.int .i64 (rd_T41 ps j).f3))) := ⟨xW HY⟩
      clear BQ HY hcq z0 z1 z2 z3 z4
      generalize (((((wb.setCell ⟨gq, 0, none⟩ (.slice E0 (rd_T41 ps j).f0.length e0)).setCell ⟨gq, 1, none⟩ (.slice E1 (rd_T41 ps j).f1.f0.length e1)).setCell ⟨gq, 2, none⟩ (.slice E2 (rd_T41 ps j).f1.f1.length e2)).setCell ⟨gq, 3, none⟩ (.int .i64 (rd_T41 ps j).f2)).setCell ⟨gq, 4, none⟩ (.int .i64 (rd_T41 ps j).f3)) = wc at BQ2 HY2 ⊢
      replace HB := xm (below_step HB.out HY2.out)
      replace u0 := (HY2.out.cell (World.block_lt_of_cell? _ _ u0)).trans u0; replace u1 := (HY2.out.cell (World.block_lt_of_cell? _ _ u1)).trans u1; replace u2 := (HY2.out.cell (World.block_lt_of_cell? _ _ u2)).trans u2; replace u3 := (HY2.out.cell (World.block_lt_of_cell? _ _ u3)).trans u3; replace u4 := (HY2.out.cell (World.block_lt_of_cell? _ _ u4)).trans u4
      replace HPE := xm (HPE.out.below HY2.out); replace HPF := xm (HPF.out.below HY2.out)
      replace HO := xm (Kd.R_below HO.out HY2.out)
      clear HY2 GY
      replace HO := xm (Kd.R_below HO.out (below_drew1 (Below.refl _ _))); replace HPE := xm (HPE.out.below (below_drew1 (Below.refl _ _))); replace HPF := xm (HPF.out.below (below_drew1 (Below.refl _ _))); replace BQ2 := xm (blk_drew BQ2.out)
      replace u0 := ((below_drew1 (Below.refl wc.heap.size wc)).cell (World.block_lt_of_cell? _ _ u0)).trans u0; replace u1 := ((below_drew1 (Below.refl wc.heap.size wc)).cell (World.block_lt_of_cell? _ _ u1)).trans u1; replace u2 := ((below_drew1 (Below.refl wc.heap.size wc)).cell (World.block_lt_of_cell? _ _ u2)).trans u2; replace u3 := ((below_drew1 (Below.refl wc.heap.size wc)).cell (World.block_lt_of_cell? _ _ u3)).trans u3; replace u4 := ((below_drew1 (Below.refl wc.heap.size wc)).cell (World.block_lt_of_cell? _ _ u4)).trans u4
      replace HB := xm (below_drew1 HB.out)
      refine start_ (n := 7) (S := Cells [(⟨gq, 0, none⟩, .slice E0 (rd_T41 ps j).f0.length e0), (⟨gq, 1, none⟩, .slice E1 (rd_T41 ps j).f1.f0.length e1), (⟨gq, 2, none⟩, .slice E2 (rd_T41 ps j).f1.f1.length e2), (⟨gq, 3, none⟩, .int .i64 (rd_T41 ps j).f2), (⟨gq, 4, none⟩, .int .i64 (rd_T41 ps j).f3), (ad, .slice F0 (rd_T41 ps 0).f0.length f0), (⟨ad.block, ad.off + 1, none⟩, .slice F1 (rd_T41 ps 0).f1.f0.length f1), (⟨ad.block, ad.off + 2, none⟩, .slice F2 (rd_T41 ps 0).f1.f1.length f2), (⟨ad.block, ad.off + 3, none⟩, .int .i64 (rd_T41 ps 0).f2), (⟨ad.block, ad.off + 4, none⟩, .int .i64 (rd_T41 ps 0).f3)]) (ds := []) (mk 7 0) (by kernel_rfl) rfl rfl ⟨xc BQ2 0, xc BQ2 1, xc BQ2 2, xc BQ2 3, xc BQ2 4, u0, u1, u2, u3, u4, trivial⟩ (fun hHeld => ?_)
      refine with_tabW claim_Repeats.tab14 claim_Repeats.bits14 (fun HT_ HW_ => ?_)
      clear u0 u1 u2 u3 u4 BQ2
      generalize wc.drew = wd at HB HO HPE HPF hHeld ⊢
      refine tc_ 0 52 HT_ HW_ hHeld ?_; refine pu_ 1 53 HT_ ?_; refine pu_ 2 54 HT_ ?_; refine pu_ 3 55 HT_ ?_; refine pu_ 4 56 HT_ ?_
      refine tc_ 5 57 HT_ HW_ hHeld ?_
      have hrd : rd_T41 ps j = posQ t1 t2 t3 t4 t5 := HR0.out j HJ.out
      have AS2 : Aside0 (place_Same.f k (rd_T41 ps j).f0 (rd_T41 ps j).f1.f0 (rd_T41 ps j).f1.f1 (rd_T41 ps j).f2 (rd_T41 ps j).f3 (rd_T41 ps 0).f0 (rd_T41 ps 0).f1.f0 (rd_T41 ps 0).f1.f1 (rd_T41 ps 0).f2 (rd_T41 ps 0).f3 = some b) := ⟨by rw [hrd, HR0.out 0 rfl]; exact AS.out⟩
      refine one_ (i := 6) (N := some 58) (mk 7 127) rfl rfl (one_of HT_.out (by kernel_rfl)) (by decide) (fun K hK => ?_)
      refine goes_ Try.func38 (by kernel_rfl) rfl #[.agg #[.slice E0 (rd_T41 ps j).f0.length e0, .slice E1 (rd_T41 ps j).f1.f0.length e1, .slice E2 (rd_T41 ps j).f1.f1.length e2, .int .i64 (rd_T41 ps j).f2, .int .i64 (rd_T41 ps j).f3], .agg #[.slice F0 (rd_T41 ps 0).f0.length f0, .slice F1 (rd_T41 ps 0).f1.f0.length f1, .slice F2 (rd_T41 ps 0).f1.f1.length f2, .int .i64 (rd_T41 ps 0).f2, .int .i64 (rd_T41 ps 0).f3]] (by rfl) rfl rfl (by (try simp only [List.map_toArray, List.map_cons, List.map_nil]); rfl) ?_
      refine (same_any HPE.out HPF.out AS2.out).mono ?_
      rintro e wf ⟨rfl, hb⟩
      refine ⟨_, rfl, ?_⟩
      replace HB := xS HB hb
      replace HO := xm (Kd.R_below HO.out hb)
      refine hK.out _ _ (hHeld.below hb) (fun hHeld => ?_); clear hK K hb
      refine nr_ ?_
      refine done_ (done_of HT_.out (by kernel_rfl)) ?_
      clear hHeld
      have hj2 : jn = ((0 + 1 : Nat) : Int) := by rw [← HJN.out, HJ.out]; decide +kernel
      by_cases hb : b = true
      · subst hb
        go_wp2
        go_roundg k1
        case measure => omega
        case rel => exact ⟨0 + 1, jn, 1, (xrf), (xrf), ⟨hj2⟩, ⟨by have := HI.out; omega⟩, ⟨by rw [if_neg (by omega), ← HX.out]; simp⟩, HO, xm (xW HB)⟩
      · obtain rfl := Bool.eq_false_iff.mpr hb
        go_wp2
        go_roundg k1
        case measure => omega
        case rel => exact ⟨0 + 1, jn, 0, (xrf), (xrf), ⟨hj2⟩, ⟨by have := HI.out; omega⟩, ⟨by rw [if_neg (by omega), ← HX.out]; simp⟩, HO, xm (xW HB)⟩
theorem claim_Repeats.calls (k : Nat) (a0_0 : ByteArray) (a0_1 : Int) (a0_2 : Int) (A0_3 : Option Addr) (c0_3 : Nat) (l0_3 : List S104) (A0_4 : Option Addr) (c0_4 : Nat) (l0_4 : List Int) (a0_5 : Bool) (a0_6 : Bool) (A0_7 : Option Addr) (c0_7 : Nat) (l0_7 : List S98) (a0_8 : Int) (a0_9 : Int) (a0_10 : Int) (A1 : Option Addr) (c1 : Nat) (l1 : List S38) (r1 r2 : Int) (w : World) (hr0_3 : Kd.C k104 w A0_3 l0_3.length l0_3) (hc0_3 : l0_3.length ≤ c0_3) (hr0_4 : Kd.C (Kd.int .i64) w A0_4 l0_4.length l0_4) (hc0_4 : l0_4.length ≤ c0_4) (hr0_7 : Kd.C k98 w A0_7 l0_7.length l0_7) (hc0_7 : l0_7.length ≤ c0_7) (hr1 : Kd.C k38 w A1 l1.length l1) (hc1 : l1.length ≤ c1) (h : claim_Repeats.f k a0_0 a0_1 a0_2 l0_3 l0_4 a0_5 a0_6 l0_7 a0_8 a0_9 a0_10 l1 = some (r1, r2)) :
    Calls Try.prog 10 #[.agg #[.string a0_0, .int .i64 a0_1, .int .i64 a0_2, .slice A0_3 l0_3.length c0_3, .slice A0_4 l0_4.length c0_4, .bool a0_5, .bool a0_6, .slice A0_7 l0_7.length c0_7, .int .i64 a0_8, .int .i64 a0_9, .int .i64 a0_10], .slice A1 l1.length c1] w fun e w' => e = .returned (.tuple #[.int .i64 r1, .int .i64 r2]) ∧ Below w.heap.size w w' := by
  unfold claim_Repeats.f at h
  by_cases he : l1.isEmpty = true
  · rw [if_pos he] at h
    obtain rfl := List.isEmpty_iff.1 he
    exact rep_any k ⟨a0_0, a0_1, a0_2, l0_3, l0_4, a0_5, a0_6, l0_7, a0_8, a0_9, a0_10⟩ r1 r2 w ⟨hc0_3, hr0_3, hc0_4, hr0_4, hc0_7, hr0_7⟩ h
  · rw [if_neg he] at h
    cases h
end Go.Proofs.Ytkpphlimnnifkaa.PClaimFalls
