/- Packages refmatch (Places) and plain, walked by hand. -/
import Derived.Test.YtkpphlimnnifkaaPClaimCountsx12
import Derived.Test.YtkpphlimnnifkaaPClaimCountsx8
namespace Go.Proofs.Ytkpphlimnnifkaa.PClaimCounts
open Go.RowKit Go.Proofs.YtkpphlimnnifkaaW.PrintWords Go.Proofs.YtkpphlimnnifkaaW.PrintLast Go.Proofs.YtkpphlimnnifkaaW.PrintMore
set_option maxHeartbeats 4000000
set_option maxRecDepth 100000
set_option linter.unusedVariables false
set_option linter.unusedSimpArgs false
/-- a position of five results -/
def posQ (a b c : List Int) (d e : Int) : S41 := ⟨a, ⟨b, c⟩, d, e⟩
/-- the last position of a list -/
def lastP (ps : List S41) : S41 := rd_T41 ps ((ps.length : Int) - 1)
def pl_loop (k : Nat) (r : S26) : List S38 → List S41 → Option (List S41 × Int)
  | [], ps => some (ps, 0)
  | m :: ms, ps => (gamehallref3_Result.f k r.f0 r.f1 r.f2 r.f3 r.f4 r.f5 r.f6 r.f7 r.f8 r.f9 r.f10 ps).bind fun x => if x = 0 then
      ((moves_After.f k r.f0 r.f1 r.f2 r.f3 r.f4 r.f5 r.f6 r.f7 r.f8 r.f9 r.f10 (lastP ps).f0 (lastP ps).f1.f0 (lastP ps).f1.f1 (lastP ps).f2 (lastP ps).f3 m.f0 m.f1 m.f2).bind fun q => if q.2.2.2.2.2 = 0 then (if ps.length ≤ 400 then pl_loop k r ms (ps ++ [posQ q.1 q.2.1 q.2.2.1 q.2.2.2.1 q.2.2.2.2.1]) else some ([], 9)) else some ([], 13))
      else some ([], 14)
def places (k : Nat) (r : S26) (l : List S38) : Option (List S41 × Int) := (place_Begin.f k r.f0 r.f1 r.f2 r.f3 r.f4 r.f5 r.f6 r.f7 r.f8 r.f9 r.f10).bind fun q => if q.2.2.2.2.2 = 0 then pl_loop k r l [posQ q.1 q.2.1 q.2.2.1 q.2.2.2.1 q.2.2.2.2.1] else some ([], q.2.2.2.2.2)
theorem pl_loop.mono (r : S26) (k : Nat) : ∀ (ms : List S38) (ps : List S41), LeO (pl_loop k r ms ps) (pl_loop (k + 1) r ms ps)
  | [], ps => LeO.refl _
  | m :: ms, ps => by
    unfold pl_loop
    refine LeO.bind (gamehallref3_Result.mono _ _ _ _ _ _ _ _ _ _ _ _ _) (fun x => LeO.ite ?_ (LeO.refl _))
    exact LeO.bind (moves_After.mono _ _ _ _ _ _ _ _ _ _ _ _ _ _ _ _ _ _ _ _) (fun q => LeO.ite (LeO.ite (pl_loop.mono r k ms _) (LeO.refl _)) (LeO.refl _))
theorem places.mono (r : S26) (l : List S38) (k : Nat) : LeO (places k r l) (places (k + 1) r l) := by
  unfold places
  exact LeO.bind (place_Begin.mono _ _ _ _ _ _ _ _ _ _ _ _) (fun q => LeO.ite (pl_loop.mono r k l _) (LeO.refl _))
/-- the printed form -/
def gamehallref3_Places.f (k : Nat) (a0 : ByteArray) (a1 a2 : Int) (l3 : List S104) (l4 : List Int) (a5 a6 : Bool) (l7 : List S98) (a8 a9 a10 : Int) (l : List S38) : Option (List S41 × Int) := places k ⟨a0, a1, a2, l3, l4, a5, a6, l7, a8, a9, a10⟩ l
theorem gamehallref3_Places.mono : ∀ a0 a1 a2 a3 a4 a5 a6 a7 a8 a9 a10 a11 k, LeO (gamehallref3_Places.f k a0 a1 a2 a3 a4 a5 a6 a7 a8 a9 a10 a11) (gamehallref3_Places.f (k + 1) a0 a1 a2 a3 a4 a5 a6 a7 a8 a9 a10 a11) := fun _ _ _ _ _ _ _ _ _ _ _ _ k => places.mono _ _ k
/-- a literal's row, right behind it -/
theorem lit_now {α : Type} (d : Kd α) {W : World} (base e : Nat) {xs : List α} {inner : List Value} {ok okp : Nat → Prop} (hrep : Reps (d.M W base okp) d.sz xs inner) (hok : ∀ k, okp k → ok k) (hfresh : ok W.heap.size) (hbase : base ≤ W.heap.size) (hm : xs.length ≤ 9223372036854775807) :
    d.R e (W.alloc (.cells inner.toArray e)) base ok (.slice (some ⟨W.heap.size, 0, none⟩) xs.length xs.length) xs := by
  refine ⟨fun k hk => ?_, inner, ?_, ?_⟩
  · have : W.heap.size = k := by simpa [Value.ownBlock] using hk
    subst this
    exact hfresh
  · have h2 := World.ownsRow_lit (base := base) (e := e) (size := d.sz) W inner.toArray xs.length hbase (by simpa [maxLen] using hm) (by simpa using hrep.1)
    simpa using h2
  · refine hrep.imp_ (fun p c hp => d.M_mono (fun k hk => ⟨hok k hk.1, fun he => ?_⟩) (Kd.M_below (d.M_bound hp) (below_alloc (Below.refl _ _) _)))
    have h3 : k = W.heap.size := by simpa [Value.ownBlock] using he
    have := hk.2.2.1
    omega
/-- what cells hold -/
def Cells : List (Addr × Value) → World → Prop
  | [], _ => True
  | (a, v) :: cs, w => w.cell? a = some v ∧ Cells cs w
theorem Cells.below {w w1 : World} (hb : Below w.heap.size w w1) : ∀ {L : List (Addr × Value)}, Cells L w → Cells L w1
  | [], _ => trivial
  | (a, v) :: cs, h => ⟨(hb.cell (World.block_lt_of_cell? w _ h.1)).trans h.1, Cells.below hb h.2⟩
/-- a load of such cells, ahead of all else in a region that draws -/
theorem tc_ {P : Program} {md : Region.Mode} {ops : Array Oper} {Q : Exit → Act → World → Prop} {L : List (Addr × Value)} {ds : List Nat} {fuel : Nat} {l : Array Bool} {a a' : Act} {w : World} {oi : Oper} {v : Value} {T : Bool × List (List Nat × List Nat)} {B : List Nat} (i N : Nat) (HT : Aside0 (rtab md ops = T)) (HW : Aside0 (waitsOk T.2 B = true)) (hS : Cells L w) (h : wpAnyLast P md ops Q (Cells L) ds fuel ⟨l.toList.set i true⟩ a' w) (hi : ops[i]? = some oi := by rfl) (hN : oi.dst = some N := by rfl) (hc : takeW T B ds l.toList (l.toList.set i true) i = true := by as_aux_lemma => kernel_rfl)
    (hQ : ∀ c a w, Q (.panic c) (a.put oi.dst v) w → Q (.panic c) a w := by exact fun _ _ _ h => h) (hw : Region.wanted oi (yielded ops a.tmps) = true := by rfl) (hy : ∀ w, Cells L w → (execOp a.eval oi).run P w = .ok (.value v) w := by intro w' hS_; simp only [Cells] at hS_; repeat (obtain ⟨h_, hS_⟩ := hS_); go_simp; with_reducible rfl)
    (ha : a.put (some N) v = a' := by simp only [Act.put, List.setIfInBounds_toArray, List.set_cons_zero, List.set_cons_succ, i64_w, i32_w]; rfl) : wpAnyLast P md ops Q (Cells L) ds (fuel + 1) l a w := take_ ⟨l.toList.set i true⟩ hi hN (take_ofW HT.out HW.out hc) hQ (Or.inl ⟨hw, hy⟩) hS ha h
theorem nr_ {P : Program} {md : Region.Mode} {ops : Array Oper} {Q : Exit → Act → World → Prop} {S : World → Prop} {ds : List Nat} {fuel : Nat} {l : Array Bool} {a a' : Act} {w : World} (h : wpAnyLast P md ops Q S ds fuel l a' w) (ha : a = a' := by (try show Act.put _ (some _) _ = _); simp only [putAll, Act.put, List.setIfInBounds_toArray, List.set_cons_zero, List.set_cons_succ, i64_w, i32_w]; rfl) : wpAnyLast P md ops Q S ds fuel l a w := norm_ ha h
/-- what leads to rows of other types leads to none of a row's block -/
theorem made_apart {α β : Type} {d : Kd α} {d' : Kd β} {w : World} {base base' e : Nat} {ok ok' : Nat → Prop} {x : α} {cs : List Value} {v : Value} {ys : List β} (h : d.M w base ok x cs) (hy : d'.R e w base' ok' v ys) (hE : ∀ q, q ∈ d.E → q ≠ e) : d.M w base (fun k => ok k ∧ some k ≠ v.ownBlock) x cs := by
  refine d.M_mono (fun k hk => ⟨hk.1, fun he => ?_⟩) (d.M_bound h)
  obtain ⟨_, _, _, q, hq, cells, hc⟩ := hk
  obtain ⟨_, inner, ho, _⟩ := hy
  obtain ⟨cells', hc'⟩ := own_typed ho k he.symm
  rw [hc] at hc'
  injection hc' with hc'
  injection hc' with _ h2
  exact hE q hq h2
/-! the callees, told by rules and positions -/
/-- a rules' value in memory that is only read -/
def rulesV (A3 : Option Addr) (c3 : Nat) (A4 : Option Addr) (c4 : Nat) (A7 : Option Addr) (c7 : Nat) (r : S26) : List Value := [.string r.f0, .int .i64 r.f1, .int .i64 r.f2, .slice A3 r.f3.length c3, .slice A4 r.f4.length c4, .bool r.f5, .bool r.f6, .slice A7 r.f7.length c7, .int .i64 r.f8, .int .i64 r.f9, .int .i64 r.f10]
structure RIn (w : World) (A3 : Option Addr) (c3 : Nat) (A4 : Option Addr) (c4 : Nat) (A7 : Option Addr) (c7 : Nat) (r : S26) : Prop where
  l3 : r.f3.length ≤ c3
  g3 : Kd.C k104 w A3 r.f3.length r.f3
  l4 : r.f4.length ≤ c4
  g4 : Kd.C (Kd.int .i64) w A4 r.f4.length r.f4
  l7 : r.f7.length ≤ c7
  g7 : Kd.C k98 w A7 r.f7.length r.f7
theorem RIn.below {w w1 : World} {A3 : Option Addr} {c3 : Nat} {A4 : Option Addr} {c4 : Nat} {A7 : Option Addr} {c7 : Nat} {r : S26} (h : RIn w A3 c3 A4 c4 A7 c7 r) (hb : Below w.heap.size w w1) : RIn w1 A3 c3 A4 c4 A7 c7 r :=
  ⟨h.l3, Kd.C_below h.g3 hb, h.l4, Kd.C_below h.g4 hb, h.l7, Kd.C_below h.g7 hb⟩
structure PIn (w : World) (A0 : Option Addr) (c0 : Nat) (A1 : Option Addr) (c1 : Nat) (A2 : Option Addr) (c2 : Nat) (p : S41) : Prop where
  l0 : p.f0.length ≤ c0
  g0 : Kd.C (Kd.int .i64) w A0 p.f0.length p.f0
  l1 : p.f1.f0.length ≤ c1
  g1 : Kd.C (Kd.int .i64) w A1 p.f1.f0.length p.f1.f0
  l2 : p.f1.f1.length ≤ c2
  g2 : Kd.C (Kd.int .i64) w A2 p.f1.f1.length p.f1.f1
theorem PIn.below {w w1 : World} {A0 : Option Addr} {c0 : Nat} {A1 : Option Addr} {c1 : Nat} {A2 : Option Addr} {c2 : Nat} {p : S41} (h : PIn w A0 c0 A1 c1 A2 c2 p) (hb : Below w.heap.size w w1) : PIn w1 A0 c0 A1 c1 A2 c2 p :=
  ⟨h.l0, Kd.C_below h.g0 hb, h.l1, Kd.C_below h.g1 hb, h.l2, Kd.C_below h.g2 hb⟩
section
variable {w : World} {A3 : Option Addr} {c3 : Nat} {A4 : Option Addr} {c4 : Nat} {A7 : Option Addr} {c7 : Nat} {r : S26} {A0 : Option Addr} {c0 : Nat} {A1 : Option Addr} {c1 : Nat} {A2 : Option Addr} {c2 : Nat} {p : S41}
theorem mkQ {w : World} {base : Nat} {o0 o1 o2 : Nat → Prop} {v0 v1 v2 : Value} {t1 t2 t3 : List Int} {t4 t5 : Int} (h0 : Kd.R (Kd.int .i64) 3 w base o0 v0 t1) (h1 : Kd.R (Kd.int .i64) 3 w base o1 v1 t2) (h2 : Kd.R (Kd.int .i64) 3 w base o2 v2 t3) : k41.M w base (fun _ => True) (posQ t1 t2 t3 t4 t5) [v0, v1, v2, .int .i64 t4, .int .i64 t5] :=
  k41_mkM w base _ (posQ t1 t2 t3 t4 t5) (Kd.R_mono h0 (fun _ _ => trivial)) (Kd.R_mono h1 (fun _ _ => trivial)) (Kd.R_mono h2 (fun _ _ => trivial))
theorem begin_any {k : Nat} {t1 t2 t3 : List Int} {t4 t5 t6 : Int} (hr : RIn w A3 c3 A4 c4 A7 c7 r) (h : place_Begin.f k r.f0 r.f1 r.f2 r.f3 r.f4 r.f5 r.f6 r.f7 r.f8 r.f9 r.f10 = some (t1, t2, t3, t4, t5, t6)) :
    Calls Try.prog 39 #[.agg (rulesV A3 c3 A4 c4 A7 c7 r).toArray] w fun e w' => ∃ B0 d0 B1 d1 B2 d2, e = .returned (.tuple #[.agg #[.slice B0 t1.length d0, .slice B1 t2.length d1, .slice B2 t3.length d2, .int .i64 t4, .int .i64 t5], .int .i64 t6]) ∧ k41.M w' w.heap.size (fun _ => True) (posQ t1 t2 t3 t4 t5) [.slice B0 t1.length d0, .slice B1 t2.length d1, .slice B2 t3.length d2, .int .i64 t4, .int .i64 t5] ∧ Below w.heap.size w w' := by
  refine (place_Begin.calls k _ _ _ A3 c3 _ A4 c4 _ _ _ A7 c7 _ _ _ _ _ _ _ _ _ _ w hr.g3 hr.l3 hr.g4 hr.l4 hr.g7 hr.l7 h).mono ?_
  rintro e w' ⟨v0, v1, v2, rfl, h0, h1, h2, hb⟩
  obtain ⟨B0, d0, rfl⟩ := Kd.R_slice h0
  obtain ⟨B1, d1, rfl⟩ := Kd.R_slice h1
  obtain ⟨B2, d2, rfl⟩ := Kd.R_slice h2
  exact ⟨B0, d0, B1, d1, B2, d2, rfl, mkQ h0 h1 h2, hb⟩
theorem after_any {k : Nat} {m : S38} {t1 t2 t3 : List Int} {t4 t5 t6 : Int} (hr : RIn w A3 c3 A4 c4 A7 c7 r) (hp : PIn w A0 c0 A1 c1 A2 c2 p) (h : moves_After.f k r.f0 r.f1 r.f2 r.f3 r.f4 r.f5 r.f6 r.f7 r.f8 r.f9 r.f10 p.f0 p.f1.f0 p.f1.f1 p.f2 p.f3 m.f0 m.f1 m.f2 = some (t1, t2, t3, t4, t5, t6)) :
    Calls Try.prog 41 #[.agg (rulesV A3 c3 A4 c4 A7 c7 r).toArray, .agg #[.slice A0 p.f0.length c0, .slice A1 p.f1.f0.length c1, .slice A2 p.f1.f1.length c2, .int .i64 p.f2, .int .i64 p.f3], .agg #[.int .i64 m.f0, .int .i64 m.f1, .int .i64 m.f2]] w fun e w' => ∃ B0 d0 B1 d1 B2 d2, e = .returned (.tuple #[.agg #[.slice B0 t1.length d0, .slice B1 t2.length d1, .slice B2 t3.length d2, .int .i64 t4, .int .i64 t5], .int .i64 t6]) ∧ k41.M w' w.heap.size (fun _ => True) (posQ t1 t2 t3 t4 t5) [.slice B0 t1.length d0, .slice B1 t2.length d1, .slice B2 t3.length d2, .int .i64 t4, .int .i64 t5] ∧ Below w.heap.size w w' := by
  refine (moves_After.calls k _ _ _ A3 c3 _ A4 c4 _ _ _ A7 c7 _ _ _ _ A0 c0 _ A1 c1 _ A2 c2 _ _ _ _ _ _ _ _ _ _ _ _ w hr.g3 hr.l3 hr.g4 hr.l4 hr.g7 hr.l7 hp.g0 hp.l0 hp.g1 hp.l1 hp.g2 hp.l2 h).mono ?_
  rintro e w' ⟨v0, v1, v2, rfl, h0, h1, h2, hb⟩
  obtain ⟨B0, d0, rfl⟩ := Kd.R_slice h0
  obtain ⟨B1, d1, rfl⟩ := Kd.R_slice h1
  obtain ⟨B2, d2, rfl⟩ := Kd.R_slice h2
  exact ⟨B0, d0, B1, d1, B2, d2, rfl, mkQ h0 h1 h2, hb⟩
theorem refResult_any {k : Nat} {ps : List S41} {A : Option Addr} {c : Nat} {x : Int} (hr : RIn w A3 c3 A4 c4 A7 c7 r) (hc : Kd.C k41 w A ps.length ps) (hl : ps.length ≤ c) (h : gamehallref3_Result.f k r.f0 r.f1 r.f2 r.f3 r.f4 r.f5 r.f6 r.f7 r.f8 r.f9 r.f10 ps = some x) :
    Calls Try.prog 40 #[.agg (rulesV A3 c3 A4 c4 A7 c7 r).toArray, .slice A ps.length c] w fun e w' => e = .returned (.int .i64 x) ∧ Below w.heap.size w w' :=
  gamehallref3_Result.calls k _ _ _ A3 c3 _ A4 c4 _ _ _ A7 c7 _ _ _ _ A c _ _ w hr.g3 hr.l3 hr.g4 hr.l4 hr.g7 hr.l7 hc hl h
/-- an element of a row of positions: where it lies, and what it leads to -/
theorem elem_at {ps : List S41} {ad : Addr} {i : Int} (hc : Kd.C k41 w (some ad) ps.length ps) (h0 : 0 ≤ i) (h1 : i < (ps.length : Int)) : ∃ A0 c0 A1 c1 A2 c2, PIn w A0 c0 A1 c1 A2 c2 (rd_T41 ps i) ∧ w.cell? (ad.add (i.toNat * 5)) = some (.slice A0 (rd_T41 ps i).f0.length c0) ∧ w.cell? ⟨(ad.add (i.toNat * 5)).block, (ad.add (i.toNat * 5)).off + 1, none⟩ = some (.slice A1 (rd_T41 ps i).f1.f0.length c1) ∧ w.cell? ⟨(ad.add (i.toNat * 5)).block, (ad.add (i.toNat * 5)).off + 2, none⟩ = some (.slice A2 (rd_T41 ps i).f1.f1.length c2) ∧ w.cell? ⟨(ad.add (i.toNat * 5)).block, (ad.add (i.toNat * 5)).off + 3, none⟩ = some (.int .i64 (rd_T41 ps i).f2) ∧ w.cell? ⟨(ad.add (i.toNat * 5)).block, (ad.add (i.toNat * 5)).off + 4, none⟩ = some (.int .i64 (rd_T41 ps i).f3) := by
  obtain ⟨ad', A0, c0, A1, c1, A2, c2, e, x0, x1, x2, x3, x4, l0, g0, l1, g1, l2, g2⟩ := at_T41 hc i h0 h1
  obtain rfl : ad = ad' := Option.some.inj e
  exact ⟨A0, c0, A1, c1, A2, c2, ⟨l0, g0, l1, g1, l2, g2⟩, x0, x1, x2, x3, x4⟩
end
def gamehallref3_Places.T10 : Bool × List (List Nat × List Nat) := (true, [([], []), ([], []), ([], []), ([2], [2]), ([3], [3]), ([1, 4], [1, 4]), ([5], [5]), ([], []), ([0, 6, 7], [0, 6, 7]), ([8], [8]), ([9], [9]), ([9], [9]), ([], []), ([12, 10, 8, 0, 1, 2, 3, 4, 5, 6, 7, 8, 9, 10, 12], [10, 12]), ([11, 13, 0, 1, 2, 3, 4, 5, 6, 7, 8, 9, 10, 11, 12, 13], [11])])
def gamehallref3_Places.B10 : List Nat := [0, 0, 0, 4, 12, 30, 62, 0, 255, 511, 1023, 1023, 0, 6143, 16383]
theorem gamehallref3_Places.tab10 : rtab .any (opsOf Try.f12 10) = gamehallref3_Places.T10 := by kernel_rfl
theorem gamehallref3_Places.bits10 : waitsOk gamehallref3_Places.T10.2 gamehallref3_Places.B10 = true := by kernel_rfl
theorem places_any (k : Nat) (r : S26) {A3 : Option Addr} {c3 : Nat} {A4 : Option Addr} {c4 : Nat} {A7 : Option Addr} {c7 : Nat} {A1 : Option Addr} {c1 : Nat} (l : List S38) (r1 : List S41) (r2 : Int) (w : World)
    (hr : RIn w A3 c3 A4 c4 A7 c7 r) (hm : Kd.C k38 w A1 l.length l) (hl : l.length ≤ c1) (h : places k r l = some (r1, r2)) :
    Calls Try.prog 12 #[.agg (rulesV A3 c3 A4 c4 A7 c7 r).toArray, .slice A1 l.length c1] w fun e w' => ∃ v : Value, e = .returned (.tuple #[v, .int .i64 r2]) ∧ Kd.R k41 41 w' w.heap.size (fun _ => True) v r1 ∧ Below w.heap.size w w' := by
  have hu26 := Try.underlying26
  have hu41 := Try.underlying41
  have hu38 := Try.underlying38
  have HR := xm hr
  have HM := xm hm
  have HL := xm hl
  clear hr hm hl
  have HB := xm (Below.refl w.heap.size w)
  have hss_ := @isSome_setCell
  unfold places at h
  obtain ⟨⟨t1, t2, t3, t4, t5, t6⟩, AB, h⟩ := xH h
  dsimp only at h
  have H := xm h; clear h
  unfold rulesV
  go_enter Try.func12, Try.ntmps12
  go_upto_region 2 with (first
    | ((with_reducible refine gate_dst (N := 2) rfl ?_); refine xG (cs := #[.string r.f0, .int .i64 r.f1, .int .i64 r.f2, .slice A3 r.f3.length c3, .slice A4 r.f4.length c4, .bool r.f5, .bool r.f6, .slice A7 r.f7.length c7, .int .i64 r.f8, .int .i64 r.f9, .int .i64 r.f10]) (t := 26) ?_; intro gb hg w1 hbox hb; have BK := xm hbox; have GW := xZ HB hg; have GE := xZ HB hg; replace HB := xS HB hb; clear hb hbox hg; have hcz := blkc11 BK.out)
    | ((with_reducible refine gate_callee (f := 39) rfl ?_); refine xL (some 15) Try.func39 #[.agg #[.string r.f0, .int .i64 r.f1, .int .i64 r.f2, .slice A3 r.f3.length c3, .slice A4 r.f4.length c4, .bool r.f5, .bool r.f6, .slice A7 r.f7.length c7, .int .i64 r.f8, .int .i64 r.f9, .int .i64 r.f10]] rfl ?_; refine (begin_any (HR.out.below (xW HB)) AB.out).mono ?_; rintro e w2 ⟨B0, d0, B1, d1, B2, d2, rfl, hM, hb⟩; refine ⟨_, rfl, ?_⟩; have HQ := xm (k41.M_lower (below_size (xW HB)) hM); replace BK := xB BK hb; replace HB := xS HB hb; clear hb hM)
    | ((with_reducible refine gate_dst (N := 6) rfl ?_); refine xG (cs := #[.slice none 0 0, .slice none 0 0, .slice none 0 0, .int .i64 0, .int .i64 0]) (t := 41) ?_; intro gp hg w3 hbox hb; have BP := xm hbox; have GW' := xZ HB hg; have GE' := xZ HB hg; have NB1 := xN BK hg; have NB2 := xM BK hg; replace HQ := xm (Kd.M_below HQ.out hb); replace BK := xB BK hb; replace HB := xS HB hb; clear hb hbox hg; have hnb := NB1.out; have hnc := NB2.out; have hcp := blkc5 BP.out))
  by_cases h6 : t6 = 0
  rotate_left
  · have H1 := H.out; rw [if_neg h6] at H1
    have h6a := beq_eq_false_iff_ne.mpr h6
    have h6b := bne_iff_ne.mpr h6
    simp only [Option.some.injEq, Prod.mk.injEq] at H1
    obtain ⟨rfl, rfl⟩ := H1
    clear H
    go_wp2
    go_ret2
    exact ⟨_, rfl, Kd.R_nil _ _ _ _ _, xW HB⟩
  have H1 := H.out; rw [if_pos h6] at H1
  have H2 := xm H1; clear H H1
  have h6a := beq_iff_eq.mpr h6
  have h6b := bne_eq_false_iff_eq.mpr h6
  clear h6
  have HQ2 := xm (Kd.M_types HQ.out BP.out (by decide))
  have BP2 : Aside0 ((((((w3.setCell ⟨gp, 0, none⟩ (.slice B0 t1.length d0)).setCell ⟨gp, 1, none⟩ (.slice B1 t2.length d1)).setCell ⟨gp, 2, none⟩ (.slice B2 t3.length d2)).setCell ⟨gp, 3, none⟩ (.int .i64 t4)).setCell ⟨gp, 4, none⟩ (.int .i64 t5)).heap[gp]? = some (.cells #[.slice B0 t1.length d0, .slice B1 t2.length d1, .slice B2 t3.length d2, .int .i64 t4, .int .i64 t5] 41 (0, 0))) := ⟨xQ BP⟩
  have BK2 : Aside0 ((((((w3.setCell ⟨gp, 0, none⟩ (.slice B0 t1.length d0)).setCell ⟨gp, 1, none⟩ (.slice B1 t2.length d1)).setCell ⟨gp, 2, none⟩ (.slice B2 t3.length d2)).setCell ⟨gp, 3, none⟩ (.int .i64 t4)).setCell ⟨gp, 4, none⟩ (.int .i64 t5)).heap[gb]? = _) := ⟨xK BK⟩
  have HB2 : Aside0 (Below w.heap.size w (((((w3.setCell ⟨gp, 0, none⟩ (.slice B0 t1.length d0)).setCell ⟨gp, 1, none⟩ (.slice B1 t2.length d1)).setCell ⟨gp, 2, none⟩ (.slice B2 t3.length d2)).setCell ⟨gp, 3, none⟩ (.int .i64 t4)).setCell ⟨gp, 4, none⟩ (.int .i64 t5))) := ⟨xW HB⟩
  have HQ3 : Aside0 (k41.M (((((w3.setCell ⟨gp, 0, none⟩ (.slice B0 t1.length d0)).setCell ⟨gp, 1, none⟩ (.slice B1 t2.length d1)).setCell ⟨gp, 2, none⟩ (.slice B2 t3.length d2)).setCell ⟨gp, 3, none⟩ (.int .i64 t4)).setCell ⟨gp, 4, none⟩ (.int .i64 t5)) w.heap.size _ (posQ t1 t2 t3 t4 t5) _) := ⟨Kd.M_far (Kd.M_far (Kd.M_far (Kd.M_far (Kd.M_far HQ2.out (fun _ hk => hk.2) _) (fun _ hk => hk.2) _) (fun _ hk => hk.2) _) (fun _ hk => hk.2) _) (fun _ hk => hk.2) _⟩
  clear HQ HQ2 BP BK HB hcz hcp
  generalize (((((w3.setCell ⟨gp, 0, none⟩ (.slice B0 t1.length d0)).setCell ⟨gp, 1, none⟩ (.slice B1 t2.length d1)).setCell ⟨gp, 2, none⟩ (.slice B2 t3.length d2)).setCell ⟨gp, 3, none⟩ (.int .i64 t4)).setCell ⟨gp, 4, none⟩ (.int .i64 t5)) = w4 at BP2 BK2 HB2 HQ3 ⊢
  have hcp := blkc5 BP2.out
  go_wp2
  have HO : Aside0 (Kd.R k41 41 (w4.alloc (.cells #[.slice B0 t1.length d0, .slice B1 t2.length d1, .slice B2 t3.length d2, .int .i64 t4, .int .i64 t5] 41 (0, 0))) w.heap.size (fun _ => True) (.slice (some ⟨w4.heap.size, 0, none⟩) 1 1) [posQ t1 t2 t3 t4 t5]) := ⟨lit_now k41 w.heap.size 41 (Reps.c5 HQ3.out (Reps.none _ _)) (fun _ _ => trivial) trivial HB2.out.size (by simp)⟩
  have BK3 : Aside0 ((w4.alloc (.cells #[.slice B0 t1.length d0, .slice B1 t2.length d1, .slice B2 t3.length d2, .int .i64 t4, .int .i64 t5] 41 (0, 0))).heap[gb]? = _) := ⟨xK BK2⟩
  have HB3 : Aside0 (Below w.heap.size w (w4.alloc (.cells #[.slice B0 t1.length d0, .slice B1 t2.length d1, .slice B2 t3.length d2, .int .i64 t4, .int .i64 t5] 41 (0, 0)))) := ⟨xW HB2⟩
  clear BK2 HB2 HQ3 BP2 hcp
  generalize (w4.alloc (.cells #[.slice B0 t1.length d0, .slice B1 t2.length d1, .slice B2 t3.length d2, .int .i64 t4, .int .i64 t5] 41 (0, 0))) = w5 at HO BK3 HB3 ⊢
  go_loopg [8, 25] l.length (fun kq v8 v25 w' => ∃ (i : Nat) (j : Int) (ps : List S41), v25 = .int .i64 j ∧ Aside0 (j = (i : Int)) ∧ Aside0 (i + kq = l.length) ∧ Aside0 (pl_loop k r (l.drop i) ps = some (r1, r2)) ∧ Aside0 (0 < ps.length) ∧ Aside0 (ps.length ≤ 401) ∧ Aside0 (Kd.R k41 41 w' w.heap.size (fun _ => True) v8 ps) ∧ Aside0 (w'.heap[gb]? = some (.cells #[.string r.f0, .int .i64 r.f1, .int .i64 r.f2, .slice A3 r.f3.length c3, .slice A4 r.f4.length c4, .bool r.f5, .bool r.f6, .slice A7 r.f7.length c7, .int .i64 r.f8, .int .i64 r.f9, .int .i64 r.f10] 26 (0, 0))) ∧ Aside0 (Below w.heap.size w w'))
  case atStart => exact ⟨0, 0, _, rfl, ⟨rfl⟩, ⟨Nat.zero_add _⟩, by rw [List.drop_zero]; exact H2, ⟨by simp⟩, ⟨by simp⟩, HO, BK3, HB3⟩
  case round =>
    clear HO BK3 HB3 H2
    obtain ⟨i, j, ps, rfl, HJ, HI, H, HP, HP4, HO, BK, HB⟩ := hrel
    obtain ⟨g8, c8, rfl, hg8, hg8', cs8, hcs8⟩ := Kd.R_form HO.out HP.out
    clear hg8 hg8' hcs8
    generalize (⟨g8, 0, none⟩ : Addr) = ad8 at HO ⊢
    have hcz := blkc11 BK.out
    by_cases hlt : i < l.length
    rotate_left
    · have H1 := H.out
      rw [List.drop_of_length_le (by omega), pl_loop] at H1
      simp only [Option.some.injEq, Prod.mk.injEq] at H1
      obtain ⟨rfl, rfl⟩ := H1
      have hlt' : decide (j < (l.length : Int)) = false := decide_eq_false (by have := HJ.out; omega)
      clear H hlt
      go_wp2
      go_ret2
      exact ⟨_, rfl, HO.out, xW HB⟩
    have H1 := H.out
    rw [List.drop_eq_getElem_cons hlt, pl_loop] at H1
    have hmi : rd_T38 l j = l[i] := by rw [HJ.out]; simp [rd_T38, List.getD_eq_getElem?_getD, hlt]
    have hj0 : 0 ≤ j := by have := HJ.out; omega
    have hj1 : j < (l.length : Int) := by have := HJ.out; omega
    obtain ⟨ad, eA, x0, x1, x2⟩ := at_T38 HM.out j hj0 hj1
    subst eA
    rw [hmi] at x0 x1 x2
    clear H
    generalize l[i] = m at H1 x0 x1 x2 hmi
    clear hmi
    obtain ⟨x, AX, H1⟩ := xH H1
    have HLT : Aside0 (i < l.length) := ⟨hlt⟩
    have p0 : (0 ≤ j) = True := eq_true hj0
    have q0 : (j < (l.length : Int)) = True := eq_true hj1
    have q1 : decide (j < (l.length : Int)) = true := decide_eq_true hj1
    have H := xm H1
    obtain ⟨k1, rfl⟩ : ∃ k1, gk = k1 + 1 := ⟨gk - 1, by have := HI.out; omega⟩
    obtain ⟨jn, hjn⟩ : ∃ jn : Int, wrap64 (j + 1) = jn := ⟨_, rfl⟩
    have hjn' : IntKind.i64.wrap (j + 1) = jn := (i64_w _).trans hjn
    have HJN := xm hjn
    clear hjn
    clear H1 hlt hj0 hj1
    have y0 := xR HB x0
    have y1 := xR HB x1
    have y2 := xR HB x2
    clear x0 x1 x2
    go_upto_region 8 with ((with_reducible refine gate_dst (N := 10) rfl ?_); refine xG (cs := #[.int .i64 0, .int .i64 0, .int .i64 0]) (t := 38) ?_; intro gm hg w6 hbox hb; have BM := xm hbox; have GWm := xZ HB hg; have NB3 := xN BK hg; have NB4 := xM BK hg; replace HO := xm (Kd.R_below HO.out hb); replace BK := xB BK hb; replace HB := xS HB hb; clear hb hbox hg; have hnb3 := NB3.out; have hnc4 := NB4.out; have hcm := blkc3 BM.out)
    have HO2 : Aside0 (Kd.R k41 41 (((w6.setCell ⟨gm, 0, none⟩ (.int .i64 m.f0)).setCell ⟨gm, 1, none⟩ (.int .i64 m.f1)).setCell ⟨gm, 2, none⟩ (.int .i64 m.f2)) w.heap.size (fun _ => True) (.slice (some ad8) ps.length c8) ps) := ⟨Kd.R_mono (Kd.R_far (Kd.R_far (Kd.R_far (Kd.R_types HO.out BM.out (by decide)) (fun _ hk => hk.2) _) (fun _ hk => hk.2) _) (fun _ hk => hk.2) _) (fun _ _ => trivial)⟩
    have BM2 : Aside0 ((((w6.setCell ⟨gm, 0, none⟩ (.int .i64 m.f0)).setCell ⟨gm, 1, none⟩ (.int .i64 m.f1)).setCell ⟨gm, 2, none⟩ (.int .i64 m.f2)).heap[gm]? = some (.cells #[.int .i64 m.f0, .int .i64 m.f1, .int .i64 m.f2] 38 (0, 0))) := ⟨xQ BM⟩
    have BK2 : Aside0 ((((w6.setCell ⟨gm, 0, none⟩ (.int .i64 m.f0)).setCell ⟨gm, 1, none⟩ (.int .i64 m.f1)).setCell ⟨gm, 2, none⟩ (.int .i64 m.f2)).heap[gb]? = _) := ⟨xK BK⟩
    have HB2 : Aside0 (Below w.heap.size w (((w6.setCell ⟨gm, 0, none⟩ (.int .i64 m.f0)).setCell ⟨gm, 1, none⟩ (.int .i64 m.f1)).setCell ⟨gm, 2, none⟩ (.int .i64 m.f2))) := ⟨xW HB⟩
    clear HO BM BK HB hcz hcm y0 y1 y2
    generalize (((w6.setCell ⟨gm, 0, none⟩ (.int .i64 m.f0)).setCell ⟨gm, 1, none⟩ (.int .i64 m.f1)).setCell ⟨gm, 2, none⟩ (.int .i64 m.f2)) = w7 at HO2 BM2 BK2 HB2 ⊢
    have HPm := xm (Kd.R_reads' HO2.out)
    have hcz := blkc11 BK2.out
    by_cases hx : x = 0
    rotate_left
    · have H1 := H.out; rw [if_neg hx] at H1
      have hxa := bne_iff_ne.mpr hx
      simp only [Option.some.injEq, Prod.mk.injEq] at H1
      obtain ⟨rfl, rfl⟩ := H1
      clear H
      go_wp2_with ((with_reducible refine gate_callee (f := 40) rfl ?_); refine xL (some 31) Try.func40 #[.agg #[.string r.f0, .int .i64 r.f1, .int .i64 r.f2, .slice A3 r.f3.length c3, .slice A4 r.f4.length c4, .bool r.f5, .bool r.f6, .slice A7 r.f7.length c7, .int .i64 r.f8, .int .i64 r.f9, .int .i64 r.f10], .slice (some ad8) ps.length c8] rfl ?_; refine (refResult_any (HR.out.below (xW HB2)) HPm.out.2.2 HPm.out.2.1 AX.out).mono ?_; rintro e w8 ⟨rfl, hb⟩; refine ⟨_, rfl, ?_⟩; replace HB2 := xS HB2 hb; clear hb)
      go_ret2
      exact ⟨_, rfl, Kd.R_nil _ _ _ _ _, xW HB2⟩
    have H1 := H.out; rw [if_pos hx] at H1
    have hxa := bne_eq_false_iff_eq.mpr hx
    obtain ⟨⟨s1, s2, s3, s4, s5, s6⟩, AQ, H1⟩ := xH H1
    dsimp only at H1
    have H2 := xm H1
    clear H H1 hx
    go_upto_region 10 with ((with_reducible refine gate_callee (f := 40) rfl ?_); refine xL (some 31) Try.func40 #[.agg #[.string r.f0, .int .i64 r.f1, .int .i64 r.f2, .slice A3 r.f3.length c3, .slice A4 r.f4.length c4, .bool r.f5, .bool r.f6, .slice A7 r.f7.length c7, .int .i64 r.f8, .int .i64 r.f9, .int .i64 r.f10], .slice (some ad8) ps.length c8] rfl ?_; refine (refResult_any (HR.out.below (xW HB2)) HPm.out.2.2 HPm.out.2.1 AX.out).mono ?_; rintro e w8 ⟨rfl, hb⟩; refine ⟨_, rfl, ?_⟩; replace HO2 := xm (Kd.R_below HO2.out hb); replace BM2 := xB BM2 hb; replace BK2 := xB BK2 hb; replace HB2 := xS HB2 hb; clear hb)
    obtain ⟨jl, hjl⟩ : ∃ jl : Int, (ps.length : Int) - 1 = jl := ⟨_, rfl⟩
    have hjw : IntKind.i64.wrap ((ps.length : Int) - 1) = jl := by rw [i64_w]; unfold wrap64; have := HP4.out; have := HP.out; omega
    have hl0 : 0 ≤ jl := by have := HP.out; omega
    have hl1 : jl < (ps.length : Int) := by omega
    replace HO2 := xm (Kd.R_drew HO2.out); replace BK2 := xm (blk_drew BK2.out); replace BM2 := xm (blk_drew BM2.out); replace HB2 := xm (below_drew1 HB2.out)
    have HC := xm (Kd.R_reads' HO2.out).2.2
    obtain ⟨E0, f0, E1, f1, E2, f2, hPE, z0, z1, z2, z3, z4⟩ := elem_at HC.out hl0 hl1
    have HPE := xm hPE
    replace AQ := xm (show moves_After.f k r.f0 r.f1 r.f2 r.f3 r.f4 r.f5 r.f6 r.f7 r.f8 r.f9 r.f10 (rd_T41 ps jl).f0 (rd_T41 ps jl).f1.f0 (rd_T41 ps jl).f1.f1 (rd_T41 ps jl).f2 (rd_T41 ps jl).f3 m.f0 m.f1 m.f2 = some (s1, s2, s3, s4, s5, s6) by rw [← hjl]; exact AQ.out)
    replace hl0 := eq_true hl0
    replace hl1 := eq_true hl1
    have HJL := xm hjl
    clear hPE hjl HPm hcz
    refine start_ (n := 15) (S := Cells [(⟨gb, 0, none⟩, .string r.f0), (⟨gb, 1, none⟩, .int .i64 r.f1), (⟨gb, 2, none⟩, .int .i64 r.f2), (⟨gb, 3, none⟩, .slice A3 r.f3.length c3), (⟨gb, 4, none⟩, .slice A4 r.f4.length c4), (⟨gb, 5, none⟩, .bool r.f5), (⟨gb, 6, none⟩, .bool r.f6), (⟨gb, 7, none⟩, .slice A7 r.f7.length c7), (⟨gb, 8, none⟩, .int .i64 r.f8), (⟨gb, 9, none⟩, .int .i64 r.f9), (⟨gb, 10, none⟩, .int .i64 r.f10), (⟨gm, 0, none⟩, .int .i64 m.f0), (⟨gm, 1, none⟩, .int .i64 m.f1), (⟨gm, 2, none⟩, .int .i64 m.f2), (ad8.add (jl.toNat * 5), .slice E0 (rd_T41 ps jl).f0.length f0), (⟨(ad8.add (jl.toNat * 5)).block, (ad8.add (jl.toNat * 5)).off + 1, none⟩, .slice E1 (rd_T41 ps jl).f1.f0.length f1), (⟨(ad8.add (jl.toNat * 5)).block, (ad8.add (jl.toNat * 5)).off + 2, none⟩, .slice E2 (rd_T41 ps jl).f1.f1.length f2), (⟨(ad8.add (jl.toNat * 5)).block, (ad8.add (jl.toNat * 5)).off + 3, none⟩, .int .i64 (rd_T41 ps jl).f2), (⟨(ad8.add (jl.toNat * 5)).block, (ad8.add (jl.toNat * 5)).off + 4, none⟩, .int .i64 (rd_T41 ps jl).f3)]) (ds := [13]) (mk 15 0) (by kernel_rfl) rfl rfl ⟨xc BK2 0, xc BK2 1, xc BK2 2, xc BK2 3, xc BK2 4, xc BK2 5, xc BK2 6, xc BK2 7, xc BK2 8, xc BK2 9, xc BK2 10, xc BM2 0, xc BM2 1, xc BM2 2, z0, z1, z2, z3, z4, trivial⟩ (fun hHeld => ?_)
    refine with_tabW gamehallref3_Places.tab10 gamehallref3_Places.bits10 (fun HT_ HW_ => ?_)
    clear z0 z1 z2 z3 z4
    generalize w8.drew = w9 at HO2 BK2 BM2 HB2 HC HPE hHeld ⊢
    refine tc_ 0 34 HT_ HW_ hHeld ?_
    refine pu_ 1 35 HT_ ?_; refine pu_ 2 36 HT_ ?_; refine pu_ 3 37 HT_ ?_; refine pu_ 4 38 HT_ ?_; refine pu_ 5 39 HT_ ?_
    refine tc_ 6 40 HT_ HW_ hHeld ?_; refine tc_ 7 41 HT_ HW_ hHeld ?_
    refine join_ (σ := Option Addr × Nat × Option Addr × Nat × Option Addr × Nat × Nat) 2 (mk 15 8191)
      (fun s => [(42, .tuple #[.agg #[.slice s.1 s1.length s.2.1, .slice s.2.2.1 s2.length s.2.2.2.1, .slice s.2.2.2.2.1 s3.length s.2.2.2.2.2.1, .int .i64 s4, .int .i64 s5], .int .i64 s6]), (33, .tuple #[.agg #[.slice s.1 s1.length s.2.1, .slice s.2.2.1 s2.length s.2.2.2.1, .slice s.2.2.2.2.1 s3.length s.2.2.2.2.2.1, .int .i64 s4, .int .i64 s5], .int .i64 s6]), (43, .agg #[.slice s.1 s1.length s.2.1, .slice s.2.2.1 s2.length s.2.2.2.1, .slice s.2.2.2.2.1 s3.length s.2.2.2.2.2.1, .int .i64 s4, .int .i64 s5]), (44, .int .i64 s6), (11, .pointer (some ⟨s.2.2.2.2.2.2, 0, none⟩))])
      (fun s w' => Kd.R k41 41 w' w.heap.size (fun k_ => True ∧ k_ ≠ s.2.2.2.2.2.2) (.slice (some ad8) ps.length c8) ps ∧ w'.heap[gb]? = some (.cells #[.string r.f0, .int .i64 r.f1, .int .i64 r.f2, .slice A3 r.f3.length c3, .slice A4 r.f4.length c4, .bool r.f5, .bool r.f6, .slice A7 r.f7.length c7, .int .i64 r.f8, .int .i64 r.f9, .int .i64 r.f10] 26 (0, 0)) ∧ Below w.heap.size w w' ∧ k41.M w' w.heap.size (fun _ => True) (posQ s1 s2 s3 s4 s5) [.slice s.1 s1.length s.2.1, .slice s.2.2.1 s2.length s.2.2.2.1, .slice s.2.2.2.2.1 s3.length s.2.2.2.2.2.1, .int .i64 s4, .int .i64 s5] ∧ w'.heap[s.2.2.2.2.2.2]? = some (.cells #[.slice none 0 0, .slice none 0 0, .slice none 0 0, .int .i64 0, .int .i64 0] 41 (0, 0)) ∧ w.heap.size ≤ s.2.2.2.2.2.2 ∧ gb ≠ s.2.2.2.2.2.2) ?cont ?both
    case both =>
      intro hc
      refine two_ (i := 8) (j := 12) (Ni := some 42) (Nj := some 11) (mk 15 511) (mk 15 4351) rfl rfl rfl rfl (two_of HT_.out (by kernel_rfl)) (by decide) (by decide) (fun K hK => ?_) (fun K hK => ?_)
      · refine goes_ Try.func41 (by kernel_rfl) rfl #[.agg #[.string r.f0, .int .i64 r.f1, .int .i64 r.f2, .slice A3 r.f3.length c3, .slice A4 r.f4.length c4, .bool r.f5, .bool r.f6, .slice A7 r.f7.length c7, .int .i64 r.f8, .int .i64 r.f9, .int .i64 r.f10], .agg #[.slice E0 (rd_T41 ps jl).f0.length f0, .slice E1 (rd_T41 ps jl).f1.f0.length f1, .slice E2 (rd_T41 ps jl).f1.f1.length f2, .int .i64 (rd_T41 ps jl).f2, .int .i64 (rd_T41 ps jl).f3], .agg #[.int .i64 m.f0, .int .i64 m.f1, .int .i64 m.f2]] (by rfl) rfl rfl (by (try simp only [List.map_toArray, List.map_cons, List.map_nil]); rfl) ?_
        refine (after_any (HR.out.below (xW HB2)) HPE.out AQ.out).mono ?_
        rintro e wa ⟨b0, e0, b1, e1, b2, e2, rfl, hM, hb⟩
        refine ⟨_, rfl, ?_⟩
        have hO := Kd.R_below HO2.out hb
        have hK' := (xB BK2 hb).out
        have hB := (xS HB2 hb).out
        have hM' := k41.M_lower HB2.out.size hM
        have hlt := blk_lt hK'
        refine hK.out _ _ (hHeld.below hb) (fun hHeld => ?_); clear hK K
        refine nr_ ?_
        refine pu_ 9 33 HT_ ?_; refine pu_ 10 43 HT_ ?_; refine pu_ 11 44 HT_ ?_
        refine one_ (i := 12) (N := some 11) (mk 15 8191) rfl rfl (one_of HT_.out (by kernel_rfl)) (by decide) (fun K hK => ?_)
        refine value_ (w1 := wa.alloc (.cells #[.slice none 0 0, .slice none 0 0, .slice none 0 0, .int .i64 0, .int .i64 0] 41 (0, 0))) (v := .pointer (some ⟨wa.heap.size, 0, none⟩)) (by rfl) rfl (by first | (go_simp; done) | (go_simp; rfl)) ?_
        have hb2 := below_alloc (Below.refl wa.heap.size wa) (.cells #[.slice none 0 0, .slice none 0 0, .slice none 0 0, .int .i64 0, .int .i64 0] 41 (0, 0))
        refine hK.out _ _ (hHeld.below hb2) (fun hHeld => ?_); clear hK K
        exact hc (b0, e0, b1, e1, b2, e2, wa.heap.size) _ ⟨Kd.R_below (Kd.R_elderB hO _ (Nat.le_refl _)) hb2, blk_alloc hK' _, below_alloc hB _, Kd.M_below hM' hb2, blk_new _ _, hB.size, Nat.ne_of_lt hlt⟩
      · have hb2 := below_alloc (Below.refl w9.heap.size w9) (.cells #[.slice none 0 0, .slice none 0 0, .slice none 0 0, .int .i64 0, .int .i64 0] 41 (0, 0))
        refine value_ (w1 := w9.alloc (.cells #[.slice none 0 0, .slice none 0 0, .slice none 0 0, .int .i64 0, .int .i64 0] 41 (0, 0))) (v := .pointer (some ⟨w9.heap.size, 0, none⟩)) (by rfl) rfl (by first | (go_simp; done) | (go_simp; rfl)) ?_
        refine hK.out _ _ (hHeld.below hb2) (fun hHeld => ?_); clear hK K
        refine nr_ ?_
        refine one_ (i := 8) (N := some 42) (mk 15 4607) rfl rfl (one_of HT_.out (by kernel_rfl)) (by decide) (fun K hK => ?_)
        refine goes_ Try.func41 (by kernel_rfl) rfl #[.agg #[.string r.f0, .int .i64 r.f1, .int .i64 r.f2, .slice A3 r.f3.length c3, .slice A4 r.f4.length c4, .bool r.f5, .bool r.f6, .slice A7 r.f7.length c7, .int .i64 r.f8, .int .i64 r.f9, .int .i64 r.f10], .agg #[.slice E0 (rd_T41 ps jl).f0.length f0, .slice E1 (rd_T41 ps jl).f1.f0.length f1, .slice E2 (rd_T41 ps jl).f1.f1.length f2, .int .i64 (rd_T41 ps jl).f2, .int .i64 (rd_T41 ps jl).f3], .agg #[.int .i64 m.f0, .int .i64 m.f1, .int .i64 m.f2]] (by rfl) rfl rfl (by (try simp only [List.map_toArray, List.map_cons, List.map_nil]); rfl) ?_
        refine (after_any ((HR.out.below (xW HB2)).below hb2) (HPE.out.below hb2) AQ.out).mono ?_
        rintro e wa ⟨b0, e0, b1, e1, b2, e2, rfl, hM, hb⟩
        refine ⟨_, rfl, ?_⟩
        have hO := Kd.R_below (Kd.R_below (Kd.R_elderB HO2.out _ (Nat.le_refl _)) hb2) hb
        have hK' := (hb.block _ (blk_lt (blk_alloc BK2.out _))).trans (blk_alloc BK2.out (.cells #[.slice none 0 0, .slice none 0 0, .slice none 0 0, .int .i64 0, .int .i64 0] 41 (0, 0)))
        have hB := (below_alloc HB2.out (.cells #[.slice none 0 0, .slice none 0 0, .slice none 0 0, .int .i64 0, .int .i64 0] 41 (0, 0))).trans (hb.mono (by have := HB2.out.size; simp; omega))
        have hM' := k41.M_lower (Nat.le_trans HB2.out.size hb2.size) hM
        have hG := (hb.block _ (blk_lt (blk_new w9 _))).trans (blk_new w9 (.cells #[.slice none 0 0, .slice none 0 0, .slice none 0 0, .int .i64 0, .int .i64 0] 41 (0, 0)))
        have hlt := blk_lt BK2.out
        refine hK.out _ _ (hHeld.below hb) (fun hHeld => ?_); clear hK K
        refine nr_ ?_
        refine pu_ 9 33 HT_ ?_; refine pu_ 10 43 HT_ ?_; refine pu_ 11 44 HT_ ?_
        exact hc (b0, e0, b1, e1, b2, e2, w9.heap.size) _ ⟨hO, hK', hB, hM', hG, HB2.out.size, Nat.ne_of_lt hlt⟩
    case cont =>
      rintro ⟨b0, e0, b1, e1, b2, e2, g⟩ wc ⟨hO, hK', hB, hM', hG, hge, hne⟩
      dsimp only at hO hM' hG hge hne
      refine nr_ ?_
      clear HO2 BK2 BM2 HB2 HC HPE hHeld
      have HO := xm hO; have BK := xm hK'; have HB := xm hB; have HQ := xm hM'; have BG := xm hG; have GWg := xm hge; have NBg := xm hne; have NBg' := xm (Ne.symm hne)
      clear hO hK' hB hM' hG hge hne
      have hcg := blkc5 BG.out
      have hng := NBg.out
      have hng' := NBg'.out
      refine last_ (i := 13) (N := none) (mk 15 16383) rfl rfl (one_of HT_.out (by kernel_rfl)) (by decide) (fun K hK => ?_)
      refine skip_ (w1 := ((((wc.setCell ⟨g, 0, none⟩ (.slice b0 s1.length e0)).setCell ⟨g, 1, none⟩ (.slice b1 s2.length e1)).setCell ⟨g, 2, none⟩ (.slice b2 s3.length e2)).setCell ⟨g, 3, none⟩ (.int .i64 s4)).setCell ⟨g, 4, none⟩ (.int .i64 s5)) (by rfl) rfl (by first | (go_simp; done) | (go_simp; rfl)) ?_
      refine hK.out _ _ ?_; clear hK K
      refine norm_ (a' := ?_) ?_ ?_; rotate_left; (· rfl)
      refine pu_ 14 12 HT_ ?_
      refine done_ (done_of HT_.out (by kernel_rfl)) ?_
      have HO2 : Aside0 (Kd.R k41 41 (((((wc.setCell ⟨g, 0, none⟩ (.slice b0 s1.length e0)).setCell ⟨g, 1, none⟩ (.slice b1 s2.length e1)).setCell ⟨g, 2, none⟩ (.slice b2 s3.length e2)).setCell ⟨g, 3, none⟩ (.int .i64 s4)).setCell ⟨g, 4, none⟩ (.int .i64 s5)) w.heap.size (fun _ => True) (.slice (some ad8) ps.length c8) ps) := ⟨Kd.R_mono (Kd.R_far (Kd.R_far (Kd.R_far (Kd.R_far (Kd.R_far HO.out (fun _ hk => hk.2) _) (fun _ hk => hk.2) _) (fun _ hk => hk.2) _) (fun _ hk => hk.2) _) (fun _ hk => hk.2) _) (fun _ _ => trivial)⟩
      have BK2 : Aside0 ((((((wc.setCell ⟨g, 0, none⟩ (.slice b0 s1.length e0)).setCell ⟨g, 1, none⟩ (.slice b1 s2.length e1)).setCell ⟨g, 2, none⟩ (.slice b2 s3.length e2)).setCell ⟨g, 3, none⟩ (.int .i64 s4)).setCell ⟨g, 4, none⟩ (.int .i64 s5)).heap[gb]? = _) := ⟨xK BK⟩
      have BG2 : Aside0 ((((((wc.setCell ⟨g, 0, none⟩ (.slice b0 s1.length e0)).setCell ⟨g, 1, none⟩ (.slice b1 s2.length e1)).setCell ⟨g, 2, none⟩ (.slice b2 s3.length e2)).setCell ⟨g, 3, none⟩ (.int .i64 s4)).setCell ⟨g, 4, none⟩ (.int .i64 s5)).heap[g]? = some (.cells ⟨[.slice b0 s1.length e0, .slice b1 s2.length e1, .slice b2 s3.length e2, .int .i64 s4, .int .i64 s5]⟩ 41 (0, 0))) := ⟨xQ BG⟩
      have HB2 : Aside0 (Below w.heap.size w (((((wc.setCell ⟨g, 0, none⟩ (.slice b0 s1.length e0)).setCell ⟨g, 1, none⟩ (.slice b1 s2.length e1)).setCell ⟨g, 2, none⟩ (.slice b2 s3.length e2)).setCell ⟨g, 3, none⟩ (.int .i64 s4)).setCell ⟨g, 4, none⟩ (.int .i64 s5))) := ⟨xW HB⟩
      have HQ2 : Aside0 (k41.M (((((wc.setCell ⟨g, 0, none⟩ (.slice b0 s1.length e0)).setCell ⟨g, 1, none⟩ (.slice b1 s2.length e1)).setCell ⟨g, 2, none⟩ (.slice b2 s3.length e2)).setCell ⟨g, 3, none⟩ (.int .i64 s4)).setCell ⟨g, 4, none⟩ (.int .i64 s5)) w.heap.size _ (posQ s1 s2 s3 s4 s5) [.slice b0 s1.length e0, .slice b1 s2.length e1, .slice b2 s3.length e2, .int .i64 s4, .int .i64 s5]) := ⟨Kd.M_far (Kd.M_far (Kd.M_far (Kd.M_far (Kd.M_far (Kd.M_types HQ.out BG.out (by decide)) (fun _ hk => hk.2) _) (fun _ hk => hk.2) _) (fun _ hk => hk.2) _) (fun _ hk => hk.2) _) (fun _ hk => hk.2) _⟩
      clear HO BK BG HB HQ hcg
      generalize (((((wc.setCell ⟨g, 0, none⟩ (.slice b0 s1.length e0)).setCell ⟨g, 1, none⟩ (.slice b1 s2.length e1)).setCell ⟨g, 2, none⟩ (.slice b2 s3.length e2)).setCell ⟨g, 3, none⟩ (.int .i64 s4)).setCell ⟨g, 4, none⟩ (.int .i64 s5)) = wd at HO2 BK2 BG2 HB2 HQ2 ⊢
      have hcg := blkc5 BG2.out
      by_cases hs : s6 = 0
      rotate_left
      · have H1 := H2.out; rw [if_neg hs] at H1
        have hsa := beq_eq_false_iff_ne.mpr hs
        have hsb := bne_iff_ne.mpr hs
        simp only [Option.some.injEq, Prod.mk.injEq] at H1
        obtain ⟨rfl, rfl⟩ := H1
        clear H2
        go_wp2
        go_ret2
        exact ⟨_, rfl, Kd.R_nil _ _ _ _ _, xW HB2⟩
      have H1 := H2.out; rw [if_pos hs] at H1
      have hsa := beq_iff_eq.mpr hs
      have hsb := bne_eq_false_iff_eq.mpr hs
      clear H2 hs
      by_cases h4 : ps.length ≤ 400
      rotate_left
      · rw [if_neg h4] at H1
        simp only [Option.some.injEq, Prod.mk.injEq] at H1
        obtain ⟨rfl, rfl⟩ := H1
        have h4a : decide ((ps.length : Int) > 400) = true := decide_eq_true (by omega)
        go_wp2
        go_ret2
        exact ⟨_, rfl, Kd.R_nil _ _ _ _ _, xW HB2⟩
      rw [if_pos h4] at H1
      have H2 := xm H1
      have h4a : decide ((ps.length : Int) > 400) = false := decide_eq_false (by omega)
      have H400 := xm h4
      clear H1 h4
      have HQ3 := xm (made_apart HQ2.out HO2.out (by decide))
      go_wp2_with ((with_reducible refine gate_builtin (b := .append) (xs := #[.tmp 50, .tmp 52]) rfl ?_); at_builtin; refine Kd.R_append k41 (w0 := w) w.heap.size rfl (.tmp 50) (.tmp 52) 34 41 (.agg #[(.slice none 0 0), (.slice none 0 0), (.slice none 0 0), (.int .i64 0), (.int .i64 0)]) 88 rfl Try.underlying34 info41 rfl (by decide) (by omega) (.slice (some ad8) ps.length c8) ps (posQ s1 s2 s3 s4 s5) [.slice b0 s1.length e0, .slice b1 s2.length e1, .slice b2 s3.length e2, .int .i64 s4, .int .i64 s5] (fun _ => True) _ rfl rfl HQ3.out (fun _ hk => ⟨trivial, hk.2⟩) (fun _ _ => trivial) HO2.out (xW HB2) HB2.out.size (by have := H400.out; omega) ?_; intro v9 w9 HO hb hg_ hnew_; replace HO := xm HO; replace BK2 := xm (blk_grown BK2.out hg_ (Kd.R_ne HO2.out BK2.out (by decide))); replace HB2 := xm hb; clear hb hg_ hnew_ HO2 BG2 HQ2 HQ3 hcg)
      go_roundg k1
      case measure => omega
      case rel =>
        have hlm := HM.out.2.1
        have hj2 : jn = ((i + 1 : Nat) : Int) := by rw [← HJN.out, HJ.out]; unfold wrap64; have := HLT.out; omega
        exact ⟨i + 1, jn, _, (xrf), ⟨hj2⟩, ⟨by have := HI.out; omega⟩, H2, ⟨by simp⟩, ⟨by rw [List.length_append, List.length_singleton]; have := H400.out; omega⟩, HO, BK2, HB2⟩
/-- the printed form -/
theorem gamehallref3_Places.calls (k : Nat) (a0_0 : ByteArray) (a0_1 : Int) (a0_2 : Int) (A0_3 : Option Addr) (c0_3 : Nat) (l0_3 : List S104) (A0_4 : Option Addr) (c0_4 : Nat) (l0_4 : List Int) (a0_5 : Bool) (a0_6 : Bool) (A0_7 : Option Addr) (c0_7 : Nat) (l0_7 : List S98) (a0_8 : Int) (a0_9 : Int) (a0_10 : Int) (A1 : Option Addr) (c1 : Nat) (l1 : List S38) (r1 : List S41) (r2 : Int) (w : World) (hr0_3 : Kd.C k104 w A0_3 l0_3.length l0_3) (hc0_3 : l0_3.length ≤ c0_3) (hr0_4 : Kd.C (Kd.int .i64) w A0_4 l0_4.length l0_4) (hc0_4 : l0_4.length ≤ c0_4) (hr0_7 : Kd.C k98 w A0_7 l0_7.length l0_7) (hc0_7 : l0_7.length ≤ c0_7) (hr1 : Kd.C k38 w A1 l1.length l1) (hc1 : l1.length ≤ c1) (h : gamehallref3_Places.f k a0_0 a0_1 a0_2 l0_3 l0_4 a0_5 a0_6 l0_7 a0_8 a0_9 a0_10 l1 = some (r1, r2)) :
    Calls Try.prog 12 #[.agg #[.string a0_0, .int .i64 a0_1, .int .i64 a0_2, .slice A0_3 l0_3.length c0_3, .slice A0_4 l0_4.length c0_4, .bool a0_5, .bool a0_6, .slice A0_7 l0_7.length c0_7, .int .i64 a0_8, .int .i64 a0_9, .int .i64 a0_10], .slice A1 l1.length c1] w fun e w' => ∃ v0_ : Value, e = .returned (.tuple #[v0_, .int .i64 r2]) ∧ Kd.R k41 41 w' w.heap.size (fun _ => True) v0_ r1 ∧ Below w.heap.size w w' :=
  places_any k ⟨a0_0, a0_1, a0_2, l0_3, l0_4, a0_5, a0_6, l0_7, a0_8, a0_9, a0_10⟩ l1 r1 r2 w ⟨hc0_3, hr0_3, hc0_4, hr0_4, hc0_7, hr0_7⟩ hr1 hc1 h
def pl_count (k : Nat) (q : S41) : List S41 → Int → Option Int
  | [], n => some n
  | p :: xs, n => (place_Same.f k p.f0 p.f1.f0 p.f1.f1 p.f2 p.f3 q.f0 q.f1.f0 q.f1.f1 q.f2 q.f3).bind fun b => if b = true then pl_count k q xs (wrap64 (n + 1)) else pl_count k q xs n
def pl_result (k : Nat) (r : S26) (ps : List S41) : Option Int := (ends_Result.f k r.f0 r.f1 r.f2 r.f3 r.f4 r.f5 r.f6 r.f7 r.f8 r.f9 r.f10 (lastP ps).f0 (lastP ps).f1.f0 (lastP ps).f1.f1 (lastP ps).f2 (lastP ps).f3).bind fun x =>
  if x = 0 then (if r.f10 > 0 then (pl_count k (lastP ps) ps 0).bind fun n => (if n ≥ r.f10 then some 3 else some x) else some x) else some x
theorem pl_count.mono (q : S41) (k : Nat) : ∀ (xs : List S41) (n : Int), LeO (pl_count k q xs n) (pl_count (k + 1) q xs n)
  | [], n => LeO.refl _
  | p :: xs, n => by
    unfold pl_count
    exact LeO.bind (place_Same.mono _ _ _ _ _ _ _ _ _ _ _) (fun b => LeO.ite (pl_count.mono q k xs _) (pl_count.mono q k xs _))
theorem pl_result.mono (r : S26) (ps : List S41) (k : Nat) : LeO (pl_result k r ps) (pl_result (k + 1) r ps) := by
  unfold pl_result
  refine LeO.bind (ends_Result.mono _ _ _ _ _ _ _ _ _ _ _ _ _ _ _ _ _) (fun x => LeO.ite (LeO.ite ?_ (LeO.refl _)) (LeO.refl _))
  exact LeO.bind (pl_count.mono _ k _ _) (fun n => LeO.refl _)
/-- a game at block g: copied rules, the positions, the moves; all of it above base -/
structure GameIn (W : World) (base g : Nat) (A3 : Option Addr) (c3 : Nat) (A4 : Option Addr) (c4 : Nat) (A7 : Option Addr) (c7 : Nat) (A8 : Option Addr) (c8 : Nat) (A9 : Option Addr) (c9 : Nat) (r : S26) (ps : List S41) (ms : List S38) : Prop where
  ge : base ≤ g
  bx : W.heap[g]? = some (.cells #[.string r.f0, .int .i64 r.f1, .int .i64 r.f2, .slice A3 r.f3.length c3, .slice A4 r.f4.length c4, .bool r.f5, .bool r.f6, .slice A7 r.f7.length c7, .int .i64 r.f8, .int .i64 r.f9, .int .i64 r.f10, .slice A8 ps.length c8, .slice A9 ms.length c9] 133 (0, 0))
  r3 : Kd.R k104 104 W base (fun _ => True) (.slice A3 r.f3.length c3) r.f3
  r4 : Kd.R (Kd.int .i64) 3 W base (fun _ => True) (.slice A4 r.f4.length c4) r.f4
  r7 : Kd.R k98 98 W base (fun _ => True) (.slice A7 r.f7.length c7) r.f7
  rp : Kd.R k41 41 W base (fun _ => True) (.slice A8 ps.length c8) ps
  rm : Kd.R k38 38 W base (fun _ => True) (.slice A9 ms.length c9) ms
section
variable {W W1 : World} {base g : Nat} {A3 : Option Addr} {c3 : Nat} {A4 : Option Addr} {c4 : Nat} {A7 : Option Addr} {c7 : Nat} {A8 : Option Addr} {c8 : Nat} {A9 : Option Addr} {c9 : Nat} {r : S26} {ps : List S41} {ms : List S38}
theorem GameIn.below (h : GameIn W base g A3 c3 A4 c4 A7 c7 A8 c8 A9 c9 r ps ms) (hb : Below W.heap.size W W1) : GameIn W1 base g A3 c3 A4 c4 A7 c7 A8 c8 A9 c9 r ps ms :=
  ⟨h.ge, (hb.block _ (blk_lt h.bx)).trans h.bx, Kd.R_below h.r3 hb, Kd.R_below h.r4 hb, Kd.R_below h.r7 hb, Kd.R_below h.rp hb, Kd.R_below h.rm hb⟩
theorem GameIn.rin (h : GameIn W base g A3 c3 A4 c4 A7 c7 A8 c8 A9 c9 r ps ms) : RIn W A3 c3 A4 c4 A7 c7 r :=
  ⟨(Kd.R_reads' h.r3).2.1, (Kd.R_reads' h.r3).2.2, (Kd.R_reads' h.r4).2.1, (Kd.R_reads' h.r4).2.2, (Kd.R_reads' h.r7).2.1, (Kd.R_reads' h.r7).2.2⟩
theorem GameIn.addr (h : GameIn W base g A3 c3 A4 c4 A7 c7 A8 c8 A9 c9 r ps ms) (h0 : 0 < ps.length) : ∃ ad8 : Addr, A8 = some ad8 := by
  obtain ⟨q, cap, e, _⟩ := Kd.R_form h.rp h0
  injection e with e1 _ _
  exact ⟨_, e1⟩
end
theorem result_any {w : World} {A3 : Option Addr} {c3 : Nat} {A4 : Option Addr} {c4 : Nat} {A7 : Option Addr} {c7 : Nat} {r : S26} {A0 : Option Addr} {c0 : Nat} {A1 : Option Addr} {c1 : Nat} {A2 : Option Addr} {c2 : Nat} {p : S41} {k : Nat} {x : Int} (hr : RIn w A3 c3 A4 c4 A7 c7 r) (hp : PIn w A0 c0 A1 c1 A2 c2 p) (h : ends_Result.f k r.f0 r.f1 r.f2 r.f3 r.f4 r.f5 r.f6 r.f7 r.f8 r.f9 r.f10 p.f0 p.f1.f0 p.f1.f1 p.f2 p.f3 = some x) :
    Calls Try.prog 63 #[.agg (rulesV A3 c3 A4 c4 A7 c7 r).toArray, .agg #[.slice A0 p.f0.length c0, .slice A1 p.f1.f0.length c1, .slice A2 p.f1.f1.length c2, .int .i64 p.f2, .int .i64 p.f3]] w fun e w' => e = .returned (.int .i64 x) ∧ Below w.heap.size w w' :=
  ends_Result.calls k _ _ _ A3 c3 _ A4 c4 _ _ _ A7 c7 _ _ _ _ A0 c0 _ A1 c1 _ A2 c2 _ _ _ _ w hr.g3 hr.l3 hr.g4 hr.l4 hr.g7 hr.l7 hp.g0 hp.l0 hp.g1 hp.l1 hp.g2 hp.l2 h
theorem same_any {w : World} {A0 : Option Addr} {c0 : Nat} {A1 : Option Addr} {c1 : Nat} {A2 : Option Addr} {c2 : Nat} {p : S41} {B0 : Option Addr} {d0 : Nat} {B1 : Option Addr} {d1 : Nat} {B2 : Option Addr} {d2 : Nat} {q : S41} {k : Nat} {x : Bool} (hp : PIn w A0 c0 A1 c1 A2 c2 p) (hq : PIn w B0 d0 B1 d1 B2 d2 q) (h : place_Same.f k p.f0 p.f1.f0 p.f1.f1 p.f2 p.f3 q.f0 q.f1.f0 q.f1.f1 q.f2 q.f3 = some x) :
    Calls Try.prog 38 #[.agg #[.slice A0 p.f0.length c0, .slice A1 p.f1.f0.length c1, .slice A2 p.f1.f1.length c2, .int .i64 p.f2, .int .i64 p.f3], .agg #[.slice B0 q.f0.length d0, .slice B1 q.f1.f0.length d1, .slice B2 q.f1.f1.length d2, .int .i64 q.f2, .int .i64 q.f3]] w fun e w' => e = .returned (.bool x) ∧ Below w.heap.size w w' :=
  place_Same.calls k A0 c0 _ A1 c1 _ A2 c2 _ _ _ B0 d0 _ B1 d1 _ B2 d2 _ _ _ _ w hp.g0 hp.l0 hp.g1 hp.l1 hp.g2 hp.l2 hq.g0 hq.l0 hq.g1 hq.l1 hq.g2 hq.l2 h
def plain_now.T1 : Bool × List (List Nat × List Nat) := (true, [([], []), ([0], [0]), ([1], [1]), ([2], [2]), ([], []), ([4], [4]), ([5], [5]), ([6], [6]), ([7], [7]), ([8], [8]), ([3, 9], [3, 9]), ([10], [10]), ([11, 0, 1, 2, 3, 4, 5, 6, 7, 8, 9, 10, 11], [11])])
def plain_now.B1 : List Nat := [0, 1, 3, 7, 0, 16, 48, 112, 240, 496, 1023, 2047, 4095]
theorem plain_now.tab1 : rtab .any (opsOf Try.f75 1) = plain_now.T1 := by kernel_rfl
theorem plain_now.bits1 : waitsOk plain_now.T1.2 plain_now.B1 = true := by kernel_rfl
theorem now_any {W : World} {base g : Nat} {A3 : Option Addr} {c3 : Nat} {A4 : Option Addr} {c4 : Nat} {A7 : Option Addr} {c7 : Nat} {A8 : Option Addr} {c8 : Nat} {A9 : Option Addr} {c9 : Nat} {r : S26} {ps : List S41} {ms : List S38} (hG : GameIn W base g A3 c3 A4 c4 A7 c7 A8 c8 A9 c9 r ps ms) (hp0 : 0 < ps.length) (hp4 : ps.length ≤ 401) :
    Calls Try.prog 75 #[.pointer (some ⟨g, 0, none⟩)] W fun e W' => ∃ E0 f0 E1 f1 E2 f2, e = .returned (.agg #[.slice E0 (lastP ps).f0.length f0, .slice E1 (lastP ps).f1.f0.length f1, .slice E2 (lastP ps).f1.f1.length f2, .int .i64 (lastP ps).f2, .int .i64 (lastP ps).f3]) ∧ PIn W' E0 f0 E1 f1 E2 f2 (lastP ps) ∧ Below W.heap.size W W' := by
  have hu133 := Try.underlying133
  have hu41 := Try.underlying41
  have hss_ := @isSome_setCell
  obtain ⟨ad8, rfl⟩ := hG.addr hp0
  have HG := xm hG
  have HB := xm (Below.refl W.heap.size W)
  obtain ⟨jl, hjl⟩ : ∃ jl : Int, (ps.length : Int) - 1 = jl := ⟨_, rfl⟩
  have hjw : IntKind.i64.wrap ((ps.length : Int) - 1) = jl := by rw [i64_w]; unfold wrap64; omega
  have hl0 : 0 ≤ jl := by omega
  have hl1 : jl < (ps.length : Int) := by omega
  have hlast : lastP ps = rd_T41 ps jl := by unfold lastP; rw [hjl]
  rw [hlast]
  obtain ⟨E0, f0, E1, f1, E2, f2, hPE, z0, z1, z2, z3, z4⟩ := elem_at (Kd.R_reads' hG.rp).2.2 hl0 hl1
  have HPE := xm hPE
  clear hG hp0 hp4 hjl hlast hPE
  go_enter Try.func75, Try.ntmps75
  go_upto_region 1 with ((with_reducible refine gate_dst (N := 2) rfl ?_); refine xG (cs := #[.slice none 0 0, .slice none 0 0, .slice none 0 0, .int .i64 0, .int .i64 0]) (t := 41) ?_; intro gq hg w1 hbox hb; have BQ := xm hbox; have GW := xm (show W.heap.size ≤ gq from by omega); replace HG := xm (HG.out.below hb); replace HB := xS HB hb; clear hb hbox hg)
  replace HG := xm (HG.out.below (below_drew1 (Below.refl _ _))); replace BQ := xm (blk_drew BQ.out); replace HB := xm (below_drew1 HB.out)
  have BG := xm HG.out.bx
  replace z0 := xR HB z0; replace z1 := xR HB z1; replace z2 := xR HB z2; replace z3 := xR HB z3; replace z4 := xR HB z4
  replace hl0 := eq_true hl0
  replace hl1 := eq_true hl1
  refine start_ (n := 13) (S := Cells [(⟨g, 11, none⟩, .slice (some ad8) ps.length c8), (ad8.add (jl.toNat * 5), .slice E0 (rd_T41 ps jl).f0.length f0), (⟨(ad8.add (jl.toNat * 5)).block, (ad8.add (jl.toNat * 5)).off + 1, none⟩, .slice E1 (rd_T41 ps jl).f1.f0.length f1), (⟨(ad8.add (jl.toNat * 5)).block, (ad8.add (jl.toNat * 5)).off + 2, none⟩, .slice E2 (rd_T41 ps jl).f1.f1.length f2), (⟨(ad8.add (jl.toNat * 5)).block, (ad8.add (jl.toNat * 5)).off + 3, none⟩, .int .i64 (rd_T41 ps jl).f2), (⟨(ad8.add (jl.toNat * 5)).block, (ad8.add (jl.toNat * 5)).off + 4, none⟩, .int .i64 (rd_T41 ps jl).f3)]) (ds := [12]) (mk 13 0) (by kernel_rfl) rfl rfl ⟨xc BG 11, z0, z1, z2, z3, z4, trivial⟩ (fun hHeld => ?_)
  refine with_tabW plain_now.tab1 plain_now.bits1 (fun HT_ HW_ => ?_)
  clear z0 z1 z2 z3 z4
  generalize w1.drew = w2 at HG BQ HB BG hHeld ⊢
  refine pu_ 0 3 HT_ ?_; refine pu_ 1 4 HT_ ?_; refine pu_ 2 5 HT_ ?_; refine tc_ 3 6 HT_ HW_ hHeld ?_
  refine pu_ 4 7 HT_ ?_; refine pu_ 5 8 HT_ ?_; refine pu_ 6 9 HT_ ?_; refine tc_ 7 10 HT_ HW_ hHeld ?_
  refine pu_ 8 11 HT_ ?_; refine pu_ 9 12 HT_ ?_; refine pu_ 10 13 HT_ ?_; refine tc_ 11 14 HT_ HW_ hHeld ?_
  have hcq := blkc5 BQ.out
  refine last_ (i := 12) (N := none) (mk 13 8191) rfl rfl (one_of HT_.out (by kernel_rfl)) (by decide) (fun K hK => ?_)
  refine skip_ (w1 := ((((w2.setCell ⟨gq, 0, none⟩ (.slice E0 (rd_T41 ps jl).f0.length f0)).setCell ⟨gq, 1, none⟩ (.slice E1 (rd_T41 ps jl).f1.f0.length f1)).setCell ⟨gq, 2, none⟩ (.slice E2 (rd_T41 ps jl).f1.f1.length f2)).setCell ⟨gq, 3, none⟩ (.int .i64 (rd_T41 ps jl).f2)).setCell ⟨gq, 4, none⟩ (.int .i64 (rd_T41 ps jl).f3)) (by rfl) rfl (by first | (go_simp; done) | (go_simp; rfl)) ?_
  refine hK.out _ _ ?_; clear hK K
  refine norm_ (a' := ?_) ?_ ?_; rotate_left; (· rfl)
  refine done_ (done_of HT_.out (by kernel_rfl)) ?_
  have BQ2 : Aside0 ((((((w2.setCell ⟨gq, 0, none⟩ (.slice E0 (rd_T41 ps jl).f0.length f0)).setCell ⟨gq, 1, none⟩ (.slice E1 (rd_T41 ps jl).f1.f0.length f1)).setCell ⟨gq, 2, none⟩ (.slice E2 (rd_T41 ps jl).f1.f1.length f2)).setCell ⟨gq, 3, none⟩ (.int .i64 (rd_T41 ps jl).f2)).setCell ⟨gq, 4, none⟩ (.int .i64 (rd_T41 ps jl).f3)).heap[gq]? = some (.cells #[.slice E0 (rd_T41 ps jl).f0.length f0, .slice E1 (rd_T41 ps jl).f1.f0.length f1, .slice E2 (rd_T41 ps jl).f1.f1.length f2, .int .i64 (rd_T41 ps jl).f2, .int .i64 (rd_T41 ps jl).f3] 41 (0, 0))) := ⟨xQ BQ⟩
  have HB2 : Aside0 (Below W.heap.size W (((((w2.setCell ⟨gq, 0, none⟩ (.slice E0 (rd_T41 ps jl).f0.length f0)).setCell ⟨gq, 1, none⟩ (.slice E1 (rd_T41 ps jl).f1.f0.length f1)).setCell ⟨gq, 2, none⟩ (.slice E2 (rd_T41 ps jl).f1.f1.length f2)).setCell ⟨gq, 3, none⟩ (.int .i64 (rd_T41 ps jl).f2)).setCell ⟨gq, 4, none⟩ (.int .i64 (rd_T41 ps jl).f3))) := ⟨xW HB⟩
  clear BQ HB HG BG hHeld hcq
  generalize (((((w2.setCell ⟨gq, 0, none⟩ (.slice E0 (rd_T41 ps jl).f0.length f0)).setCell ⟨gq, 1, none⟩ (.slice E1 (rd_T41 ps jl).f1.f0.length f1)).setCell ⟨gq, 2, none⟩ (.slice E2 (rd_T41 ps jl).f1.f1.length f2)).setCell ⟨gq, 3, none⟩ (.int .i64 (rd_T41 ps jl).f2)).setCell ⟨gq, 4, none⟩ (.int .i64 (rd_T41 ps jl).f3)) = w3 at BQ2 HB2 ⊢
  have hcq := blkc5 BQ2.out
  go_wp2
  exact bodyPost_ret (v := .agg #[.slice E0 (rd_T41 ps jl).f0.length f0, .slice E1 (rd_T41 ps jl).f1.f0.length f1, .slice E2 (rd_T41 ps jl).f1.f1.length f2, .int .i64 (rd_T41 ps jl).f2, .int .i64 (rd_T41 ps jl).f3]) (by simp [results, Try.results75, go_sem, hcq, hu41]) rfl ⟨E0, f0, E1, f1, E2, f2, rfl, HPE.out.below HB2.out, HB2.out⟩
def plain_Count.T5 : Bool × List (List Nat × List Nat) := (true, [([], []), ([], []), ([1], [1]), ([0, 2, 2], [0, 2])])
def plain_Count.B5 : List Nat := [0, 0, 2, 7]
theorem plain_Count.tab5 : rtab .any (opsOf Try.f76 5) = plain_Count.T5 := by kernel_rfl
theorem plain_Count.bits5 : waitsOk plain_Count.T5.2 plain_Count.B5 = true := by kernel_rfl
theorem count_any (k : Nat) {W : World} {base g : Nat} {A3 : Option Addr} {c3 : Nat} {A4 : Option Addr} {c4 : Nat} {A7 : Option Addr} {c7 : Nat} {A8 : Option Addr} {c8 : Nat} {A9 : Option Addr} {c9 : Nat} {r : S26} {ps : List S41} {ms : List S38} {x : Int} (hG : GameIn W base g A3 c3 A4 c4 A7 c7 A8 c8 A9 c9 r ps ms) (hp0 : 0 < ps.length) (hp4 : ps.length ≤ 401) (h : pl_count k (lastP ps) ps 0 = some x) :
    Calls Try.prog 76 #[.pointer (some ⟨g, 0, none⟩)] W fun e W' => e = .returned (.int .i64 x) ∧ Below W.heap.size W W' := by
  have hu133 := Try.underlying133
  have hu41 := Try.underlying41
  have hss_ := @isSome_setCell
  obtain ⟨ad8, rfl⟩ := hG.addr hp0
  have HG := xm hG
  have HB := xm (Below.refl W.heap.size W)
  have HP0 := xm hp0
  have HP4 := xm hp4
  have H := xm h
  have hcg := blkc13 HG.out.bx
  clear hG hp0 hp4 h
  go_enter Try.func76, Try.ntmps76
  go_wp2
  clear hcg
  go_loopg [3, 11] ps.length (fun kq v3 v11 w' => ∃ (i : Nat) (j n : Int), v3 = .int .i64 n ∧ v11 = .int .i64 j ∧ Aside0 (j = (i : Int)) ∧ Aside0 (i + kq = ps.length) ∧ Aside0 (pl_count k (lastP ps) (ps.drop i) n = some x) ∧ Aside0 (Below W.heap.size W w'))
  case atStart => exact ⟨0, 0, 0, rfl, rfl, ⟨rfl⟩, ⟨Nat.zero_add _⟩, by rw [List.drop_zero]; exact H, HB⟩
  case round =>
    clear H HB
    obtain ⟨i, j, n, rfl, rfl, HJ, HI, H, HB⟩ := hrel
    by_cases hlt : i < ps.length
    rotate_left
    · have H1 := H.out
      rw [List.drop_of_length_le (by omega), pl_count] at H1
      obtain rfl := Option.some.inj H1
      have hlt' : decide (j < (ps.length : Int)) = false := decide_eq_false (by have := HJ.out; omega)
      clear H hlt
      go_wp2
      go_ret
      exact ⟨rfl, xW HB⟩
    have H1 := H.out
    rw [List.drop_eq_getElem_cons hlt, pl_count] at H1
    have hmi : rd_T41 ps j = ps[i] := by rw [HJ.out]; simp [rd_T41, List.getD_eq_getElem?_getD, hlt]
    have hj0 : 0 ≤ j := by have := HJ.out; omega
    have hj1 : j < (ps.length : Int) := by have := HJ.out; omega
    obtain ⟨E0, f0, E1, f1, E2, f2, hPE, z0, z1, z2, z3, z4⟩ := elem_at (Kd.R_reads' HG.out.rp).2.2 hj0 hj1
    rw [← hmi] at H1
    obtain ⟨b, AX, H1⟩ := xH H1
    have HPE := xm hPE
    have HLT : Aside0 (i < ps.length) := ⟨hlt⟩
    have p0 : (0 ≤ j) = True := eq_true hj0
    have q0 : (j < (ps.length : Int)) = True := eq_true hj1
    have q1 : decide (j < (ps.length : Int)) = true := decide_eq_true hj1
    have H2 := xm H1
    obtain ⟨k1, rfl⟩ : ∃ k1, gk = k1 + 1 := ⟨gk - 1, by have := HI.out; omega⟩
    obtain ⟨jn, hjn⟩ : ∃ jn : Int, wrap64 (j + 1) = jn := ⟨_, rfl⟩
    have hjn' : IntKind.i64.wrap (j + 1) = jn := (i64_w _).trans hjn
    have HJN := xm hjn
    obtain ⟨nn, hnn⟩ : ∃ nn : Int, wrap64 (n + 1) = nn := ⟨_, rfl⟩
    have hnn' : IntKind.i64.wrap (n + 1) = nn := (i64_w _).trans hnn
    have HNN := xm hnn
    clear H1 hlt hj0 hj1 hPE hjn hnn hmi H
    replace z0 := xR HB z0; replace z1 := xR HB z1; replace z2 := xR HB z2; replace z3 := xR HB z3; replace z4 := xR HB z4
    go_upto_region 5 with ((with_reducible refine gate_dst (N := 5) rfl ?_); refine xG (cs := #[.slice none 0 0, .slice none 0 0, .slice none 0 0, .int .i64 0, .int .i64 0]) (t := 41) ?_; intro gq hg w1 hbox hb; have BQ := xm hbox; have GW := xZ HB hg; replace z0 := (hb.cell (World.block_lt_of_cell? _ _ z0)).trans z0; replace z1 := (hb.cell (World.block_lt_of_cell? _ _ z1)).trans z1; replace z2 := (hb.cell (World.block_lt_of_cell? _ _ z2)).trans z2; replace z3 := (hb.cell (World.block_lt_of_cell? _ _ z3)).trans z3; replace z4 := (hb.cell (World.block_lt_of_cell? _ _ z4)).trans z4; replace HB := xS HB hb; clear hb hbox hg; have hcq := blkc5 BQ.out)
    have BQ2 : Aside0 ((((((w1.setCell ⟨gq, 0, none⟩ (.slice E0 (rd_T41 ps j).f0.length f0)).setCell ⟨gq, 1, none⟩ (.slice E1 (rd_T41 ps j).f1.f0.length f1)).setCell ⟨gq, 2, none⟩ (.slice E2 (rd_T41 ps j).f1.f1.length f2)).setCell ⟨gq, 3, none⟩ (.int .i64 (rd_T41 ps j).f2)).setCell ⟨gq, 4, none⟩ (.int .i64 (rd_T41 ps j).f3)).heap[gq]? = some (.cells #[.slice E0 (rd_T41 ps j).f0.length f0, .slice E1 (rd_T41 ps j).f1.f0.length f1, .slice E2 (rd_T41 ps j).f1.f1.length f2, .int .i64 (rd_T41 ps j).f2, .int .i64 (rd_T41 ps j).f3] 41 (0, 0))) := ⟨xQ BQ⟩
    have HB2 : Aside0 (Below W.heap.size W (((((w1.setCell ⟨gq, 0, none⟩ (.slice E0 (rd_T41 ps j).f0.length f0)).setCell ⟨gq, 1, none⟩ (.slice E1 (rd_T41 ps j).f1.f0.length f1)).setCell ⟨gq, 2, none⟩ (.slice E2 (rd_T41 ps j).f1.f1.length f2)).setCell ⟨gq, 3, none⟩ (.int .i64 (rd_T41 ps j).f2)).setCell ⟨gq, 4, none⟩ (.int .i64 (rd_T41 ps j).f3))) := ⟨xW HB⟩
    clear BQ HB hcq z0 z1 z2 z3 z4
    generalize (((((w1.setCell ⟨gq, 0, none⟩ (.slice E0 (rd_T41 ps j).f0.length f0)).setCell ⟨gq, 1, none⟩ (.slice E1 (rd_T41 ps j).f1.f0.length f1)).setCell ⟨gq, 2, none⟩ (.slice E2 (rd_T41 ps j).f1.f1.length f2)).setCell ⟨gq, 3, none⟩ (.int .i64 (rd_T41 ps j).f2)).setCell ⟨gq, 4, none⟩ (.int .i64 (rd_T41 ps j).f3)) = w2 at BQ2 HB2 ⊢
    replace BQ2 := xm (blk_drew BQ2.out); replace HB2 := xm (below_drew1 HB2.out)
    refine start_ (n := 4) (S := Cells [(⟨gq, 0, none⟩, .slice E0 (rd_T41 ps j).f0.length f0), (⟨gq, 1, none⟩, .slice E1 (rd_T41 ps j).f1.f0.length f1), (⟨gq, 2, none⟩, .slice E2 (rd_T41 ps j).f1.f1.length f2), (⟨gq, 3, none⟩, .int .i64 (rd_T41 ps j).f2), (⟨gq, 4, none⟩, .int .i64 (rd_T41 ps j).f3)]) (ds := []) (mk 4 0) (by kernel_rfl) rfl rfl ⟨xc BQ2 0, xc BQ2 1, xc BQ2 2, xc BQ2 3, xc BQ2 4, trivial⟩ (fun hHeld => ?_)
    refine with_tabW plain_Count.tab5 plain_Count.bits5 (fun HT_ HW_ => ?_)
    generalize w2.drew = w3 at BQ2 HB2 hHeld ⊢
    refine pu_ 1 16 HT_ ?_; refine tc_ 0 15 HT_ HW_ hHeld ?_
    refine one_ (i := 2) (N := some 17) (mk 4 7) rfl rfl (one_of HT_.out (by kernel_rfl)) (by decide) (fun K hK => ?_)
    refine goes_ Try.func75 (by kernel_rfl) rfl #[.pointer (some ⟨g, 0, none⟩)] (by rfl) rfl rfl (by (try simp only [List.map_toArray, List.map_cons, List.map_nil]); rfl) ?_
    refine (now_any (HG.out.below HB2.out) HP0.out HP4.out).mono ?_
    rintro e w4 ⟨D0, h0, D1, h1, D2, h2, rfl, hPL, hb⟩
    refine ⟨_, rfl, ?_⟩
    have HPL := xm hPL
    replace HB2 := xS HB2 hb
    refine hK.out _ _ (hHeld.below hb) (fun hHeld => ?_); clear hK K hPL hb
    refine nr_ ?_
    refine one_ (i := 3) (N := some 18) (mk 4 15) rfl rfl (one_of HT_.out (by kernel_rfl)) (by decide) (fun K hK => ?_)
    refine goes_ Try.func38 (by kernel_rfl) rfl #[.agg #[.slice E0 (rd_T41 ps j).f0.length f0, .slice E1 (rd_T41 ps j).f1.f0.length f1, .slice E2 (rd_T41 ps j).f1.f1.length f2, .int .i64 (rd_T41 ps j).f2, .int .i64 (rd_T41 ps j).f3], .agg #[.slice D0 (lastP ps).f0.length h0, .slice D1 (lastP ps).f1.f0.length h1, .slice D2 (lastP ps).f1.f1.length h2, .int .i64 (lastP ps).f2, .int .i64 (lastP ps).f3]] (by rfl) rfl rfl (by (try simp only [List.map_toArray, List.map_cons, List.map_nil]); rfl) ?_
    refine (same_any (HPE.out.below HB2.out) HPL.out AX.out).mono ?_
    rintro e w5 ⟨rfl, hb⟩
    refine ⟨_, rfl, ?_⟩
    replace HB2 := xS HB2 hb
    refine hK.out _ _ (hHeld.below hb) (fun hHeld => ?_); clear hK K hb
    refine nr_ ?_
    refine done_ (done_of HT_.out (by kernel_rfl)) ?_
    clear hHeld BQ2
    by_cases hb : b = true
    · subst hb
      have H1 := H2.out; rw [if_pos rfl] at H1
      have H3 := xm H1
      clear H1 H2
      go_wp2
      go_roundg k1
      case measure => omega
      case rel =>
        have hlm := HP4.out
        have hj2 : jn = ((i + 1 : Nat) : Int) := by rw [← HJN.out, HJ.out]; unfold wrap64; have := HLT.out; omega
        exact ⟨i + 1, jn, nn, (xrf), (xrf), ⟨hj2⟩, ⟨by have := HI.out; omega⟩, by rw [← HNN.out]; exact H3, xm (xW HB2)⟩
    · obtain rfl := Bool.eq_false_iff.mpr hb
      have H1 := H2.out; rw [if_neg xF] at H1
      have H3 := xm H1
      clear H1 H2 hb
      go_wp2
      go_roundg k1
      case measure => omega
      case rel =>
        have hlm := HP4.out
        have hj2 : jn = ((i + 1 : Nat) : Int) := by rw [← HJN.out, HJ.out]; unfold wrap64; have := HLT.out; omega
        exact ⟨i + 1, jn, n, (xrf), (xrf), ⟨hj2⟩, ⟨by have := HI.out; omega⟩, H3, xm (xW HB2)⟩
def plain_Result.T1 : Bool × List (List Nat × List Nat) := (true, [([], []), ([0], [0]), ([1], [1]), ([2], [2]), ([], []), ([4], [4]), ([3, 5, 5], [3, 5]), ([6, 6, 0, 1, 2, 3, 4, 5, 6], [6])])
def plain_Result.B1 : List Nat := [0, 1, 3, 7, 0, 16, 63, 127]
theorem plain_Result.tab1 : rtab .any (opsOf Try.f55 1) = plain_Result.T1 := by kernel_rfl
theorem plain_Result.bits1 : waitsOk plain_Result.T1.2 plain_Result.B1 = true := by kernel_rfl
def plain_Result.T2 : Bool × List (List Nat × List Nat) := (true, [([], []), ([0], [0]), ([1], [1]), ([2], [2]), ([3, 2], [2, 3]), ([4, 2], [2, 4]), ([5, 2], [2, 5]), ([6, 2], [2, 6]), ([7, 2], [2, 7]), ([2, 8], [2, 8]), ([9, 2], [9]), ([10], [10]), ([11, 10, 10], [10, 11]), ([10], [10]), ([13, 10], [10, 13]), ([14, 10], [10, 14]), ([15, 10], [10, 15]), ([16, 10], [10, 16]), ([12, 17, 10], [10, 12, 17]), ([10, 18], [10, 18])])
def plain_Result.B2 : List Nat := [0, 1, 3, 7, 15, 31, 63, 127, 255, 511, 1023, 2047, 4095, 2047, 10239, 26623, 59391, 124927, 262143, 524287]
theorem plain_Result.tab2 : rtab .any (opsOf Try.f55 2) = plain_Result.T2 := by kernel_rfl
theorem plain_Result.bits2 : waitsOk plain_Result.T2.2 plain_Result.B2 = true := by kernel_rfl
theorem gres_any (k : Nat) {W : World} {base g : Nat} {A3 : Option Addr} {c3 : Nat} {A4 : Option Addr} {c4 : Nat} {A7 : Option Addr} {c7 : Nat} {A8 : Option Addr} {c8 : Nat} {A9 : Option Addr} {c9 : Nat} {r : S26} {ps : List S41} {ms : List S38} {x : Int} (hG : GameIn W base g A3 c3 A4 c4 A7 c7 A8 c8 A9 c9 r ps ms) (hp0 : 0 < ps.length) (hp4 : ps.length ≤ 401) (h : pl_result k r ps = some x) :
    Calls Try.prog 55 #[.pointer (some ⟨g, 0, none⟩)] W fun e W' => e = .returned (.int .i64 x) ∧ Below W.heap.size W W' := by
  have hu133 := Try.underlying133
  have hu26 := Try.underlying26
  have hu41 := Try.underlying41
  have hss_ := @isSome_setCell
  have HB := xm (Below.refl W.heap.size W)
  have HP0 := xm hp0
  have HP4 := xm hp4
  unfold pl_result at h
  obtain ⟨y, AY, h⟩ := xH h
  have H := xm h
  replace hG := hG.below (below_drew1 (Below.refl _ _))
  have HG := xm hG
  clear hG hp0 hp4 h
  go_enter Try.func55, Try.ntmps55
  go_wp2
  replace HB := xm (below_drew1 HB.out)
  have BG := xm HG.out.bx
  refine start_ (n := 8) (S := Cells [(⟨g, 0, none⟩, .string r.f0), (⟨g, 1, none⟩, .int .i64 r.f1), (⟨g, 2, none⟩, .int .i64 r.f2), (⟨g, 3, none⟩, .slice A3 r.f3.length c3), (⟨g, 4, none⟩, .slice A4 r.f4.length c4), (⟨g, 5, none⟩, .bool r.f5), (⟨g, 6, none⟩, .bool r.f6), (⟨g, 7, none⟩, .slice A7 r.f7.length c7), (⟨g, 8, none⟩, .int .i64 r.f8), (⟨g, 9, none⟩, .int .i64 r.f9), (⟨g, 10, none⟩, .int .i64 r.f10)]) (ds := []) (mk 8 0) (by kernel_rfl) rfl rfl ⟨xc BG 0, xc BG 1, xc BG 2, xc BG 3, xc BG 4, xc BG 5, xc BG 6, xc BG 7, xc BG 8, xc BG 9, xc BG 10, trivial⟩ (fun hHeld => ?_)
  refine with_tabW plain_Result.tab1 plain_Result.bits1 (fun HT_ HW_ => ?_)
  generalize W.drew = w1 at HG HB BG hHeld ⊢
  refine pu_ 0 4 HT_ ?_; refine pu_ 1 5 HT_ ?_; refine pu_ 2 6 HT_ ?_; refine tc_ 3 7 HT_ HW_ hHeld ?_; refine pu_ 4 8 HT_ ?_
  refine one_ (i := 5) (N := some 9) (mk 8 63) rfl rfl (one_of HT_.out (by kernel_rfl)) (by decide) (fun K hK => ?_)
  refine goes_ Try.func75 (by kernel_rfl) rfl #[.pointer (some ⟨g, 0, none⟩)] (by rfl) rfl rfl (by (try simp only [List.map_toArray, List.map_cons, List.map_nil]); rfl) ?_
  refine (now_any HG.out HP0.out HP4.out).mono ?_
  rintro e w2 ⟨D0, h0, D1, h1, D2, h2, rfl, hPL, hb⟩
  refine ⟨_, rfl, ?_⟩
  have HPL := xm hPL
  replace HB := xS HB hb
  replace HG := xm (HG.out.below hb)
  refine hK.out _ _ (hHeld.below hb) (fun hHeld => ?_); clear hK K hPL hb BG
  refine nr_ ?_
  refine one_ (i := 6) (N := some 10) (mk 8 127) rfl rfl (one_of HT_.out (by kernel_rfl)) (by decide) (fun K hK => ?_)
  refine goes_ Try.func63 (by kernel_rfl) rfl #[.agg #[.string r.f0, .int .i64 r.f1, .int .i64 r.f2, .slice A3 r.f3.length c3, .slice A4 r.f4.length c4, .bool r.f5, .bool r.f6, .slice A7 r.f7.length c7, .int .i64 r.f8, .int .i64 r.f9, .int .i64 r.f10], .agg #[.slice D0 (lastP ps).f0.length h0, .slice D1 (lastP ps).f1.f0.length h1, .slice D2 (lastP ps).f1.f1.length h2, .int .i64 (lastP ps).f2, .int .i64 (lastP ps).f3]] (by rfl) rfl rfl (by (try simp only [List.map_toArray, List.map_cons, List.map_nil]); rfl) ?_
  refine (result_any HG.out.rin HPL.out AY.out).mono ?_
  rintro e w3 ⟨rfl, hb⟩
  refine ⟨_, rfl, ?_⟩
  replace HB := xS HB hb
  replace HG := xm (HG.out.below hb)
  refine hK.out _ _ (hHeld.below hb) (fun hHeld => ?_); clear hK K hb HPL
  refine nr_ ?_
  refine pu_ 7 3 HT_ ?_
  refine done_ (done_of HT_.out (by kernel_rfl)) ?_
  clear hHeld HT_ HW_
  by_cases hy : y = 0
  rotate_left
  · have H1 := H.out; rw [if_neg hy] at H1
    obtain rfl := Option.some.inj H1
    have hya := beq_eq_false_iff_ne.mpr hy
    clear H1 H hy
    go_wp2
    replace HB := xm (below_drew1 HB.out)
    replace HG := xm (HG.out.below (below_drew1 (Below.refl _ _)))
    have BG := xm HG.out.bx
    refine start_ (n := 20) (S := Cells [(⟨g, 10, none⟩, .int .i64 r.f10)]) (ds := []) (mk 20 0) (by kernel_rfl) rfl rfl ⟨xc BG 10, trivial⟩ (fun hHeld => ?_)
    refine with_tabW plain_Result.tab2 plain_Result.bits2 (fun HT_ HW_ => ?_)
    generalize w3.drew = w4 at HB HG BG hHeld ⊢
    refine pu_ 0 11 HT_ ?_; refine pu_ 1 12 HT_ ?_; refine pu_ 2 13 HT_ ?_
    refine pn_ 3 14 HT_ ?_; refine pn_ 4 15 HT_ ?_; refine pn_ 5 16 HT_ ?_; refine pn_ 6 17 HT_ ?_; refine pn_ 7 18 HT_ ?_; refine pn_ 8 19 HT_ ?_
    refine pu_ 9 20 HT_ ?_; refine pu_ 10 21 HT_ ?_
    refine pn_ 11 22 HT_ ?_; refine pn_ 12 23 HT_ ?_; refine pn_ 13 24 HT_ ?_; refine pn_ 14 25 HT_ ?_; refine pn_ 15 26 HT_ ?_; refine pn_ 16 27 HT_ ?_; refine pn_ 17 28 HT_ ?_; refine pn_ 18 29 HT_ ?_
    refine pu_ 19 30 HT_ ?_
    refine done_ (done_of HT_.out (by kernel_rfl)) ?_
    go_wp2
    go_ret
    exact ⟨rfl, xW HB⟩
  have H1 := H.out; rw [if_pos hy] at H1
  have hya := beq_iff_eq.mpr hy
  by_cases hr : r.f10 > 0
  rotate_left
  · rw [if_neg hr] at H1
    obtain rfl := Option.some.inj H1
    have hra : decide (r.f10 > 0) = false := decide_eq_false hr
    clear H1 H hr hy
    go_wp2
    replace HB := xm (below_drew1 HB.out)
    replace HG := xm (HG.out.below (below_drew1 (Below.refl _ _)))
    have BG := xm HG.out.bx
    refine start_ (n := 20) (S := Cells [(⟨g, 10, none⟩, .int .i64 r.f10)]) (ds := []) (mk 20 0) (by kernel_rfl) rfl rfl ⟨xc BG 10, trivial⟩ (fun hHeld => ?_)
    refine with_tabW plain_Result.tab2 plain_Result.bits2 (fun HT_ HW_ => ?_)
    generalize w3.drew = w4 at HB HG BG hHeld ⊢
    refine pu_ 0 11 HT_ ?_; refine pu_ 1 12 HT_ ?_; refine pu_ 2 13 HT_ ?_
    refine pu_ 3 14 HT_ ?_; refine pu_ 4 15 HT_ ?_; refine pu_ 5 16 HT_ ?_; refine pu_ 6 17 HT_ ?_; refine tc_ 7 18 HT_ HW_ hHeld ?_; refine pu_ 8 19 HT_ ?_
    refine pu_ 9 20 HT_ ?_; refine pu_ 10 21 HT_ ?_
    refine pn_ 11 22 HT_ ?_; refine pn_ 12 23 HT_ ?_; refine pn_ 13 24 HT_ ?_; refine pn_ 14 25 HT_ ?_; refine pn_ 15 26 HT_ ?_; refine pn_ 16 27 HT_ ?_; refine pn_ 17 28 HT_ ?_; refine pn_ 18 29 HT_ ?_
    refine pu_ 19 30 HT_ ?_
    refine done_ (done_of HT_.out (by kernel_rfl)) ?_
    go_wp2
    go_ret
    exact ⟨rfl, xW HB⟩
  rw [if_pos hr] at H1
  have hra : decide (r.f10 > 0) = true := decide_eq_true hr
  obtain ⟨n, AN, H1⟩ := xH H1
  by_cases hn : n ≥ r.f10
  · rw [if_pos hn] at H1
    obtain rfl := Option.some.inj H1
    have hna : decide (n ≥ r.f10) = true := decide_eq_true hn
    clear H1 H hr hn hy
    go_wp2
    replace HB := xm (below_drew1 HB.out)
    replace HG := xm (HG.out.below (below_drew1 (Below.refl _ _)))
    have BG := xm HG.out.bx
    refine start_ (n := 20) (S := Cells [(⟨g, 10, none⟩, .int .i64 r.f10)]) (ds := []) (mk 20 0) (by kernel_rfl) rfl rfl ⟨xc BG 10, trivial⟩ (fun hHeld => ?_)
    refine with_tabW plain_Result.tab2 plain_Result.bits2 (fun HT_ HW_ => ?_)
    generalize w3.drew = w4 at HB HG BG hHeld ⊢
    refine pu_ 0 11 HT_ ?_; refine pu_ 1 12 HT_ ?_; refine pu_ 2 13 HT_ ?_
    refine pu_ 3 14 HT_ ?_; refine pu_ 4 15 HT_ ?_; refine pu_ 5 16 HT_ ?_; refine pu_ 6 17 HT_ ?_; refine tc_ 7 18 HT_ HW_ hHeld ?_; refine pu_ 8 19 HT_ ?_
    refine pu_ 9 20 HT_ ?_; refine pu_ 10 21 HT_ ?_
    refine pu_ 11 22 HT_ ?_; refine pu_ 13 24 HT_ ?_; refine pu_ 14 25 HT_ ?_; refine pu_ 15 26 HT_ ?_; refine pu_ 16 27 HT_ ?_; refine tc_ 17 28 HT_ HW_ hHeld ?_
    refine one_ (i := 12) (N := some 23) (mk 20 262143) rfl rfl (one_of HT_.out (by kernel_rfl)) (by decide) (fun K hK => ?_)
    refine goes_ Try.func76 (by kernel_rfl) rfl #[.pointer (some ⟨g, 0, none⟩)] (by rfl) rfl rfl (by (try simp only [List.map_toArray, List.map_cons, List.map_nil]); rfl) ?_
    refine (count_any k HG.out HP0.out HP4.out AN.out).mono ?_
    rintro e w5 ⟨rfl, hb⟩
    refine ⟨_, rfl, ?_⟩
    replace HB := xS HB hb
    refine hK.out _ _ (hHeld.below hb) (fun hHeld => ?_); clear hK K hb
    refine nr_ ?_
    refine pu_ 18 29 HT_ ?_
    refine pu_ 19 30 HT_ ?_
    refine done_ (done_of HT_.out (by kernel_rfl)) ?_
    go_wp2
    go_ret
    exact ⟨rfl, xW HB⟩
  · rw [if_neg hn] at H1
    obtain rfl := Option.some.inj H1
    have hna : decide (n ≥ r.f10) = false := decide_eq_false hn
    clear H1 H hr hn hy
    go_wp2
    replace HB := xm (below_drew1 HB.out)
    replace HG := xm (HG.out.below (below_drew1 (Below.refl _ _)))
    have BG := xm HG.out.bx
    refine start_ (n := 20) (S := Cells [(⟨g, 10, none⟩, .int .i64 r.f10)]) (ds := []) (mk 20 0) (by kernel_rfl) rfl rfl ⟨xc BG 10, trivial⟩ (fun hHeld => ?_)
    refine with_tabW plain_Result.tab2 plain_Result.bits2 (fun HT_ HW_ => ?_)
    generalize w3.drew = w4 at HB HG BG hHeld ⊢
    refine pu_ 0 11 HT_ ?_; refine pu_ 1 12 HT_ ?_; refine pu_ 2 13 HT_ ?_
    refine pu_ 3 14 HT_ ?_; refine pu_ 4 15 HT_ ?_; refine pu_ 5 16 HT_ ?_; refine pu_ 6 17 HT_ ?_; refine tc_ 7 18 HT_ HW_ hHeld ?_; refine pu_ 8 19 HT_ ?_
    refine pu_ 9 20 HT_ ?_; refine pu_ 10 21 HT_ ?_
    refine pu_ 11 22 HT_ ?_; refine pu_ 13 24 HT_ ?_; refine pu_ 14 25 HT_ ?_; refine pu_ 15 26 HT_ ?_; refine pu_ 16 27 HT_ ?_; refine tc_ 17 28 HT_ HW_ hHeld ?_
    refine one_ (i := 12) (N := some 23) (mk 20 262143) rfl rfl (one_of HT_.out (by kernel_rfl)) (by decide) (fun K hK => ?_)
    refine goes_ Try.func76 (by kernel_rfl) rfl #[.pointer (some ⟨g, 0, none⟩)] (by rfl) rfl rfl (by (try simp only [List.map_toArray, List.map_cons, List.map_nil]); rfl) ?_
    refine (count_any k HG.out HP0.out HP4.out AN.out).mono ?_
    rintro e w5 ⟨rfl, hb⟩
    refine ⟨_, rfl, ?_⟩
    replace HB := xS HB hb
    refine hK.out _ _ (hHeld.below hb) (fun hHeld => ?_); clear hK K hb
    refine nr_ ?_
    refine pu_ 18 29 HT_ ?_
    refine pu_ 19 30 HT_ ?_
    refine done_ (done_of HT_.out (by kernel_rfl)) ?_
    go_wp2
    go_ret
    exact ⟨rfl, xW HB⟩
/-- three rows of a copied position -/
structure PosR (W : World) (base : Nat) (v0 v1 v2 : Value) (r1 r2 r3 : List Int) : Prop where
  h0 : Kd.R (Kd.int .i64) 3 W base (fun k_ => some k_ ≠ v1.ownBlock ∧ some k_ ≠ v2.ownBlock) v0 r1
  h1 : Kd.R (Kd.int .i64) 3 W base (fun k_ => some k_ ≠ v0.ownBlock ∧ some k_ ≠ v2.ownBlock) v1 r2
  h2 : Kd.R (Kd.int .i64) 3 W base (fun k_ => some k_ ≠ v0.ownBlock ∧ some k_ ≠ v1.ownBlock) v2 r3
section
variable {W W1 : World} {base base' : Nat} {v0 v1 v2 : Value} {r1 r2 r3 : List Int}
theorem PosR.below (h : PosR W base v0 v1 v2 r1 r2 r3) (hb : Below W.heap.size W W1) : PosR W1 base v0 v1 v2 r1 r2 r3 := ⟨Kd.R_below h.h0 hb, Kd.R_below h.h1 hb, Kd.R_below h.h2 hb⟩
theorem PosR.lower (h : PosR W base v0 v1 v2 r1 r2 r3) (hb : base' ≤ base) : PosR W base' v0 v1 v2 r1 r2 r3 := ⟨Kd.R_lower h.h0 hb, Kd.R_lower h.h1 hb, Kd.R_lower h.h2 hb⟩
theorem row_far5 {ok : Nat → Prop} {v : Value} {xs : List Int} {g : Nat} {cells : Array Value} (h : Kd.R (Kd.int .i64) 3 W base ok v xs) (hb : W.heap[g]? = some (.cells cells 41 (0, 0))) (u0 u1 u2 u3 u4 : Value) : Kd.R (Kd.int .i64) 3 (((((W.setCell ⟨g, 0, none⟩ (u0)).setCell ⟨g, 1, none⟩ (u1)).setCell ⟨g, 2, none⟩ (u2)).setCell ⟨g, 3, none⟩ (u3)).setCell ⟨g, 4, none⟩ (u4)) base ok v xs :=
  Kd.R_mono (Kd.R_far (Kd.R_far (Kd.R_far (Kd.R_far (Kd.R_far (Kd.R_types h hb (by decide)) (fun _ hk => hk.2) _) (fun _ hk => hk.2) _) (fun _ hk => hk.2) _) (fun _ hk => hk.2) _) (fun _ hk => hk.2) _) (fun _ hk => hk.1)
theorem PosR.far5 (h : PosR W base v0 v1 v2 r1 r2 r3) {g : Nat} {cells : Array Value} (hb : W.heap[g]? = some (.cells cells 41 (0, 0))) (u0 u1 u2 u3 u4 : Value) : PosR (((((W.setCell ⟨g, 0, none⟩ (u0)).setCell ⟨g, 1, none⟩ (u1)).setCell ⟨g, 2, none⟩ (u2)).setCell ⟨g, 3, none⟩ (u3)).setCell ⟨g, 4, none⟩ (u4)) base v0 v1 v2 r1 r2 r3 :=
  ⟨row_far5 h.h0 hb _ _ _ _ _, row_far5 h.h1 hb _ _ _ _ _, row_far5 h.h2 hb _ _ _ _ _⟩
end
theorem pos_any {W : World} {base g : Nat} {A3 : Option Addr} {c3 : Nat} {A4 : Option Addr} {c4 : Nat} {A7 : Option Addr} {c7 : Nat} {A8 : Option Addr} {c8 : Nat} {A9 : Option Addr} {c9 : Nat} {r : S26} {ps : List S41} {ms : List S38} {r1 r2 r3 : List Int} {r4 r5 : Int} (hG : GameIn W base g A3 c3 A4 c4 A7 c7 A8 c8 A9 c9 r ps ms) (hp0 : 0 < ps.length) (hp4 : ps.length ≤ 401) (h : place_Copy.f (lastP ps).f0 (lastP ps).f1.f0 (lastP ps).f1.f1 (lastP ps).f2 (lastP ps).f3 = some (r1, r2, r3, r4, r5)) :
    Calls Try.prog 54 #[.pointer (some ⟨g, 0, none⟩)] W fun e W' => ∃ G0 g0 G1 g1 G2 g2, e = .returned (.agg #[.slice G0 r1.length g0, .slice G1 r2.length g1, .slice G2 r3.length g2, .int .i64 r4, .int .i64 r5]) ∧ PosR W' W.heap.size (.slice G0 r1.length g0) (.slice G1 r2.length g1) (.slice G2 r3.length g2) r1 r2 r3 ∧ Below W.heap.size W W' := by
  have hu133 := Try.underlying133
  have hu41 := Try.underlying41
  have hss_ := @isSome_setCell
  have HG := xm hG
  have HB := xm (Below.refl W.heap.size W)
  have HP0 := xm hp0
  have HP4 := xm hp4
  have H := xm h
  clear hG hp0 hp4 h
  go_enter Try.func54, Try.ntmps54
  go_wp2_with (first
    | ((with_reducible refine gate_dst (N := 2) rfl ?_); refine xG (cs := #[.slice none 0 0, .slice none 0 0, .slice none 0 0, .int .i64 0, .int .i64 0]) (t := 41) ?_; intro gq hg w1 hbox hb; have BQ := xm hbox; have GW := xZ HB hg; replace HG := xm (HG.out.below hb); replace HB := xS HB hb; clear hb hbox hg)
    | ((with_reducible refine gate_callee (f := 75) rfl ?_); refine xL (some 4) Try.func75 #[.pointer (some ⟨g, 0, none⟩)] rfl ?_; refine (now_any HG.out HP0.out HP4.out).mono ?_; rintro e w2 ⟨D0, h0, D1, h1, D2, h2, rfl, hPL, hb⟩; refine ⟨_, rfl, ?_⟩; have HPL := xm hPL; replace BQ := xB BQ hb; replace HB := xS HB hb; clear hb hPL)
    | ((with_reducible refine gate_callee (f := 47) rfl ?_); refine xL (some 5) Try.func47 #[.agg #[.slice D0 (lastP ps).f0.length h0, .slice D1 (lastP ps).f1.f0.length h1, .slice D2 (lastP ps).f1.f1.length h2, .int .i64 (lastP ps).f2, .int .i64 (lastP ps).f3]] rfl ?_; refine (place_Copy.calls _ _ _ _ _ _ _ _ _ _ _ _ _ _ _ _ _ HPL.out.g0 HPL.out.l0 HPL.out.g1 HPL.out.l1 HPL.out.g2 HPL.out.l2 H.out).mono ?_; rintro e w3 ⟨v0, v1, v2, rfl, k0, k1, k2, hb⟩; obtain ⟨G0, g0, rfl⟩ := Kd.R_slice k0; obtain ⟨G1, g1, rfl⟩ := Kd.R_slice k1; obtain ⟨G2, g2, rfl⟩ := Kd.R_slice k2; refine ⟨_, rfl, ?_⟩; have HR := xm (PosR.lower ⟨k0, k1, k2⟩ HB.out.size); replace BQ := xB BQ hb; replace HB := xS HB hb; clear hb k0 k1 k2; have hcq := blkc5 BQ.out))
  have BQ2 : Aside0 ((((((w3.setCell ⟨gq, 0, none⟩ (.slice G0 r1.length g0)).setCell ⟨gq, 1, none⟩ (.slice G1 r2.length g1)).setCell ⟨gq, 2, none⟩ (.slice G2 r3.length g2)).setCell ⟨gq, 3, none⟩ (.int .i64 r4)).setCell ⟨gq, 4, none⟩ (.int .i64 r5)).heap[gq]? = some (.cells #[.slice G0 r1.length g0, .slice G1 r2.length g1, .slice G2 r3.length g2, .int .i64 r4, .int .i64 r5] 41 (0, 0))) := ⟨xQ BQ⟩
  have HB2 : Aside0 (Below W.heap.size W (((((w3.setCell ⟨gq, 0, none⟩ (.slice G0 r1.length g0)).setCell ⟨gq, 1, none⟩ (.slice G1 r2.length g1)).setCell ⟨gq, 2, none⟩ (.slice G2 r3.length g2)).setCell ⟨gq, 3, none⟩ (.int .i64 r4)).setCell ⟨gq, 4, none⟩ (.int .i64 r5))) := ⟨xW HB⟩
  have HR2 := xm (HR.out.far5 BQ.out (.slice G0 r1.length g0) (.slice G1 r2.length g1) (.slice G2 r3.length g2) (.int .i64 r4) (.int .i64 r5))
  clear BQ HB HG HPL HR hcq
  generalize (((((w3.setCell ⟨gq, 0, none⟩ (.slice G0 r1.length g0)).setCell ⟨gq, 1, none⟩ (.slice G1 r2.length g1)).setCell ⟨gq, 2, none⟩ (.slice G2 r3.length g2)).setCell ⟨gq, 3, none⟩ (.int .i64 r4)).setCell ⟨gq, 4, none⟩ (.int .i64 r5)) = w4 at BQ2 HB2 HR2 ⊢
  have hcq := blkc5 BQ2.out
  exact bodyPost_ret (v := .agg #[.slice G0 r1.length g0, .slice G1 r2.length g1, .slice G2 r3.length g2, .int .i64 r4, .int .i64 r5]) (by simp [results, Try.results54, go_sem, hcq, hu41]) rfl ⟨G0, g0, G1, g1, G2, g2, rfl, HR2.out, HB2.out⟩
def plain_New.T4 : Bool × List (List Nat × List Nat) := (true, [([], []), ([0], [0]), ([], []), ([2], [2]), ([1, 3], [1, 3]), ([4], [4]), ([5, 1, 0, 1, 2, 3, 4, 5], [5]), ([6, 0, 1, 2, 3, 4, 5, 6], [])])
def plain_New.B4 : List Nat := [0, 1, 0, 4, 15, 31, 63, 127]
theorem plain_New.tab4 : rtab .any (opsOf Try.f52 4) = plain_New.T4 := by kernel_rfl
theorem plain_New.bits4 : waitsOk plain_New.T4.2 plain_New.B4 = true := by kernel_rfl
/-- rules, copied -/
def copied (k : Nat) (r : S26) : Option S26 := (rules_Copy.f k r.f0 r.f1 r.f2 r.f3 r.f4 r.f5 r.f6 r.f7 r.f8 r.f9 r.f10).bind fun q => some ⟨q.1, q.2.1, q.2.2.1, q.2.2.2.1, q.2.2.2.2.1, q.2.2.2.2.2.1, q.2.2.2.2.2.2.1, q.2.2.2.2.2.2.2.1, q.2.2.2.2.2.2.2.2.1, q.2.2.2.2.2.2.2.2.2.1, q.2.2.2.2.2.2.2.2.2.2⟩
theorem copy_any {w : World} {A3 : Option Addr} {c3 : Nat} {A4 : Option Addr} {c4 : Nat} {A7 : Option Addr} {c7 : Nat} {r c : S26} {k : Nat} (hr : RIn w A3 c3 A4 c4 A7 c7 r) (h : copied k r = some c) :
    Calls Try.prog 74 #[.agg (rulesV A3 c3 A4 c4 A7 c7 r).toArray] w fun e w' => ∃ B3 b3 B4 b4 B7 b7, e = .returned (.agg #[.string c.f0, .int .i64 c.f1, .int .i64 c.f2, .slice B3 c.f3.length b3, .slice B4 c.f4.length b4, .bool c.f5, .bool c.f6, .slice B7 c.f7.length b7, .int .i64 c.f8, .int .i64 c.f9, .int .i64 c.f10]) ∧ (Kd.R k104 104 w' w.heap.size (fun _ => True) (.slice B3 c.f3.length b3) c.f3 ∧ Kd.R (Kd.int .i64) 3 w' w.heap.size (fun _ => True) (.slice B4 c.f4.length b4) c.f4 ∧ Kd.R k98 98 w' w.heap.size (fun _ => True) (.slice B7 c.f7.length b7) c.f7) ∧ Below w.heap.size w w' := by
  unfold copied at h
  obtain ⟨⟨q0, q1, q2, q3, q4, q5, q6, q7, q8, q9, q10⟩, AC, h⟩ := xH h
  obtain rfl := Option.some.inj h
  refine (rules_Copy.calls k _ _ _ A3 c3 _ A4 c4 _ _ _ A7 c7 _ _ _ _ _ _ _ _ _ _ _ _ _ _ _ w hr.g3 hr.l3 hr.g4 hr.l4 hr.g7 hr.l7 AC.out).mono ?_
  rintro e w' ⟨v3, v4, v7, rfl, h3, h4, h7, hb⟩
  replace h3 := Kd.S_R h3
  obtain ⟨B3, b3, rfl⟩ := Kd.R_slice h3
  obtain ⟨B4, b4, rfl⟩ := Kd.R_slice h4
  obtain ⟨B7, b7, rfl⟩ := Kd.R_slice h7
  exact ⟨B3, b3, B4, b4, B7, b7, rfl, ⟨h3, h4, h7⟩, hb⟩
theorem new_any (k : Nat) {W : World} {A3 : Option Addr} {c3 : Nat} {A4 : Option Addr} {c4 : Nat} {A7 : Option Addr} {c7 : Nat} {r c : S26} {t1 t2 t3 : List Int} {t4 t5 t6 : Int} (hr : RIn W A3 c3 A4 c4 A7 c7 r) (h : place_Begin.f k r.f0 r.f1 r.f2 r.f3 r.f4 r.f5 r.f6 r.f7 r.f8 r.f9 r.f10 = some (t1, t2, t3, t4, t5, t6)) (hc : t6 = 0 → copied k r = some c) :
    Calls Try.prog 52 #[.agg (rulesV A3 c3 A4 c4 A7 c7 r).toArray] W fun e W' => ∃ v : Value, e = .returned (.tuple #[v, .int .i64 t6]) ∧ (t6 ≠ 0 → v = .pointer none) ∧ (t6 = 0 → ∃ g, v = .pointer (some ⟨g, 0, none⟩) ∧ ∃ B3 b3 B4 b4 B7 b7 A8 c8, GameIn W' W.heap.size g B3 b3 B4 b4 B7 b7 A8 c8 none 0 c [posQ t1 t2 t3 t4 t5] []) ∧ Below W.heap.size W W' := by
  have hu26 := Try.underlying26
  have hu41 := Try.underlying41
  have hu133 := Try.underlying133
  have hu34 := Try.underlying34
  have hss_ := @isSome_setCell
  have HR := xm hr
  have HB := xm (Below.refl W.heap.size W)
  have AB := xm h
  have HC := xm hc
  clear hr h hc
  unfold rulesV
  go_enter Try.func52, Try.ntmps52
  go_upto_region 2 with (first
    | ((with_reducible refine gate_dst (N := 1) rfl ?_); refine xG (cs := #[.string r.f0, .int .i64 r.f1, .int .i64 r.f2, .slice A3 r.f3.length c3, .slice A4 r.f4.length c4, .bool r.f5, .bool r.f6, .slice A7 r.f7.length c7, .int .i64 r.f8, .int .i64 r.f9, .int .i64 r.f10]) (t := 26) ?_; intro gb hg w1 hbox hb; have BK := xm hbox; have GW := xZ HB hg; have GE := xZ HB hg; replace HB := xS HB hb; clear hb hbox hg; have hcz := blkc11 BK.out)
    | ((with_reducible refine gate_callee (f := 39) rfl ?_); refine xL (some 8) Try.func39 #[.agg #[.string r.f0, .int .i64 r.f1, .int .i64 r.f2, .slice A3 r.f3.length c3, .slice A4 r.f4.length c4, .bool r.f5, .bool r.f6, .slice A7 r.f7.length c7, .int .i64 r.f8, .int .i64 r.f9, .int .i64 r.f10]] rfl ?_; refine (begin_any (HR.out.below (xW HB)) AB.out).mono ?_; rintro e w2 ⟨B0, d0, B1, d1, B2, d2, rfl, hM, hb⟩; refine ⟨_, rfl, ?_⟩; have HQ := xm (k41.M_lower (below_size (xW HB)) hM); replace BK := xB BK hb; replace HB := xS HB hb; clear hb hM)
    | ((with_reducible refine gate_dst (N := 4) rfl ?_); refine xG (cs := #[.slice none 0 0, .slice none 0 0, .slice none 0 0, .int .i64 0, .int .i64 0]) (t := 41) ?_; intro gp hg w3 hbox hb; have BP := xm hbox; have GW' := xZ HB hg; have GE' := xZ HB hg; have NB1 := xN BK hg; have NB2 := xM BK hg; replace HQ := xm (Kd.M_below HQ.out hb); replace BK := xB BK hb; replace HB := xS HB hb; clear hb hbox hg; have hnb := NB1.out; have hnc := NB2.out; have hcp := blkc5 BP.out))
  by_cases h6 : t6 = 0
  rotate_left
  · have h6a := beq_eq_false_iff_ne.mpr h6
    have h6b := bne_iff_ne.mpr h6
    clear HC
    go_wp2
    go_ret2
    exact ⟨_, rfl, fun _ => rfl, fun e => absurd e h6, xW HB⟩
  replace HC := xm (HC.out h6)
  subst h6
  have HQ2 := xm (Kd.M_types HQ.out BP.out (by decide))
  have BP2 : Aside0 ((((((w3.setCell ⟨gp, 0, none⟩ (.slice B0 t1.length d0)).setCell ⟨gp, 1, none⟩ (.slice B1 t2.length d1)).setCell ⟨gp, 2, none⟩ (.slice B2 t3.length d2)).setCell ⟨gp, 3, none⟩ (.int .i64 t4)).setCell ⟨gp, 4, none⟩ (.int .i64 t5)).heap[gp]? = some (.cells #[.slice B0 t1.length d0, .slice B1 t2.length d1, .slice B2 t3.length d2, .int .i64 t4, .int .i64 t5] 41 (0, 0))) := ⟨xQ BP⟩
  have BK2 : Aside0 ((((((w3.setCell ⟨gp, 0, none⟩ (.slice B0 t1.length d0)).setCell ⟨gp, 1, none⟩ (.slice B1 t2.length d1)).setCell ⟨gp, 2, none⟩ (.slice B2 t3.length d2)).setCell ⟨gp, 3, none⟩ (.int .i64 t4)).setCell ⟨gp, 4, none⟩ (.int .i64 t5)).heap[gb]? = _) := ⟨xK BK⟩
  have HB2 : Aside0 (Below W.heap.size W (((((w3.setCell ⟨gp, 0, none⟩ (.slice B0 t1.length d0)).setCell ⟨gp, 1, none⟩ (.slice B1 t2.length d1)).setCell ⟨gp, 2, none⟩ (.slice B2 t3.length d2)).setCell ⟨gp, 3, none⟩ (.int .i64 t4)).setCell ⟨gp, 4, none⟩ (.int .i64 t5))) := ⟨xW HB⟩
  have HQ3 : Aside0 (k41.M (((((w3.setCell ⟨gp, 0, none⟩ (.slice B0 t1.length d0)).setCell ⟨gp, 1, none⟩ (.slice B1 t2.length d1)).setCell ⟨gp, 2, none⟩ (.slice B2 t3.length d2)).setCell ⟨gp, 3, none⟩ (.int .i64 t4)).setCell ⟨gp, 4, none⟩ (.int .i64 t5)) W.heap.size _ (posQ t1 t2 t3 t4 t5) _) := ⟨Kd.M_far (Kd.M_far (Kd.M_far (Kd.M_far (Kd.M_far HQ2.out (fun _ hk => hk.2) _) (fun _ hk => hk.2) _) (fun _ hk => hk.2) _) (fun _ hk => hk.2) _) (fun _ hk => hk.2) _⟩
  clear HQ HQ2 BP BK HB hcz hcp
  generalize (((((w3.setCell ⟨gp, 0, none⟩ (.slice B0 t1.length d0)).setCell ⟨gp, 1, none⟩ (.slice B1 t2.length d1)).setCell ⟨gp, 2, none⟩ (.slice B2 t3.length d2)).setCell ⟨gp, 3, none⟩ (.int .i64 t4)).setCell ⟨gp, 4, none⟩ (.int .i64 t5)) = w4 at BP2 BK2 HB2 HQ3 ⊢
  have hcz := blkc11 BK2.out
  have hcp := blkc5 BP2.out
  go_wp2
  clear hcz hcp
  replace HB2 := xm (below_drew1 HB2.out); replace BP2 := xm (blk_drew BP2.out); replace BK2 := xm (blk_drew BK2.out); replace HQ3 := xm (Kd.M_below HQ3.out (below_drew1 (Below.refl _ _)))
  refine start_ (n := 8) (S := Cells [(⟨gb, 0, none⟩, .string r.f0), (⟨gb, 1, none⟩, .int .i64 r.f1), (⟨gb, 2, none⟩, .int .i64 r.f2), (⟨gb, 3, none⟩, .slice A3 r.f3.length c3), (⟨gb, 4, none⟩, .slice A4 r.f4.length c4), (⟨gb, 5, none⟩, .bool r.f5), (⟨gb, 6, none⟩, .bool r.f6), (⟨gb, 7, none⟩, .slice A7 r.f7.length c7), (⟨gb, 8, none⟩, .int .i64 r.f8), (⟨gb, 9, none⟩, .int .i64 r.f9), (⟨gb, 10, none⟩, .int .i64 r.f10), (⟨gp, 0, none⟩, .slice B0 t1.length d0), (⟨gp, 1, none⟩, .slice B1 t2.length d1), (⟨gp, 2, none⟩, .slice B2 t3.length d2), (⟨gp, 3, none⟩, .int .i64 t4), (⟨gp, 4, none⟩, .int .i64 t5)]) (ds := [5]) (mk 8 0) (by kernel_rfl) rfl rfl ⟨xc BK2 0, xc BK2 1, xc BK2 2, xc BK2 3, xc BK2 4, xc BK2 5, xc BK2 6, xc BK2 7, xc BK2 8, xc BK2 9, xc BK2 10, xc BP2 0, xc BP2 1, xc BP2 2, xc BP2 3, xc BP2 4, trivial⟩ (fun hHeld => ?_)
  refine with_tabW plain_New.tab4 plain_New.bits4 (fun HT_ HW_ => ?_)
  generalize w4.drew = w5 at HB2 BP2 BK2 HQ3 hHeld ⊢
  refine tc_ 0 14 HT_ HW_ hHeld ?_; refine tc_ 2 16 HT_ HW_ hHeld ?_
  refine join_ (σ := Option Addr × Nat × Option Addr × Nat × Option Addr × Nat × Nat) 4 (mk 8 15)
    (fun s => [(15, .agg #[.string c.f0, .int .i64 c.f1, .int .i64 c.f2, .slice s.1 c.f3.length s.2.1, .slice s.2.2.1 c.f4.length s.2.2.2.1, .bool c.f5, .bool c.f6, .slice s.2.2.2.2.1 c.f7.length s.2.2.2.2.2.1, .int .i64 c.f8, .int .i64 c.f9, .int .i64 c.f10]), (17, .slice (some ⟨s.2.2.2.2.2.2, 0, none⟩) 1 1)])
    (fun s w' => (Kd.R k104 104 w' W.heap.size (fun _ => True) (.slice s.1 c.f3.length s.2.1) c.f3 ∧ Kd.R (Kd.int .i64) 3 w' W.heap.size (fun _ => True) (.slice s.2.2.1 c.f4.length s.2.2.2.1) c.f4 ∧ Kd.R k98 98 w' W.heap.size (fun _ => True) (.slice s.2.2.2.2.1 c.f7.length s.2.2.2.2.2.1) c.f7) ∧ Kd.R k41 41 w' W.heap.size (fun _ => True) (.slice (some ⟨s.2.2.2.2.2.2, 0, none⟩) 1 1) [posQ t1 t2 t3 t4 t5] ∧ Below W.heap.size W w') ?cont ?both
  case both =>
    intro hc
    refine two_ (i := 1) (j := 3) (Ni := some 15) (Nj := some 17) (mk 8 7) (mk 8 13) rfl rfl rfl rfl (two_of HT_.out (by kernel_rfl)) (by decide) (by decide) (fun K hK => ?_) (fun K hK => ?_)
    · refine goes_ Try.func74 (by kernel_rfl) rfl #[.agg #[.string r.f0, .int .i64 r.f1, .int .i64 r.f2, .slice A3 r.f3.length c3, .slice A4 r.f4.length c4, .bool r.f5, .bool r.f6, .slice A7 r.f7.length c7, .int .i64 r.f8, .int .i64 r.f9, .int .i64 r.f10]] (by rfl) rfl rfl (by (try simp only [List.map_toArray, List.map_cons, List.map_nil]); rfl) ?_
      refine (copy_any (HR.out.below (xW HB2)) HC.out).mono ?_
      rintro e wa ⟨B3, b3, B4, b4, B7, b7, rfl, ⟨h3, h4, h7⟩, hb⟩
      refine ⟨_, rfl, ?_⟩
      have hs := HB2.out.size
      have hQ := Kd.M_below HQ3.out hb
      have hB := (xS HB2 hb).out
      refine hK.out _ _ (hHeld.below hb) (fun hHeld => ?_); clear hK K
      refine nr_ ?_
      refine one_ (i := 3) (N := some 17) (mk 8 15) rfl rfl (one_of HT_.out (by kernel_rfl)) (by decide) (fun K hK => ?_)
      refine value_ (w1 := wa.alloc (.cells #[.slice B0 t1.length d0, .slice B1 t2.length d1, .slice B2 t3.length d2, .int .i64 t4, .int .i64 t5] 41 (0, 0))) (v := .slice (some ⟨wa.heap.size, 0, none⟩) 1 1) (by rfl) rfl (by first | (go_simp; done) | (go_simp; rfl)) ?_
      have hb2 := below_alloc (Below.refl wa.heap.size wa) (.cells #[.slice B0 t1.length d0, .slice B1 t2.length d1, .slice B2 t3.length d2, .int .i64 t4, .int .i64 t5] 41 (0, 0))
      refine hK.out _ _ (hHeld.below hb2) (fun hHeld => ?_); clear hK K
      exact hc (B3, b3, B4, b4, B7, b7, wa.heap.size) _ ⟨⟨Kd.R_below (Kd.R_lower h3 hs) hb2, Kd.R_below (Kd.R_lower h4 hs) hb2, Kd.R_below (Kd.R_lower h7 hs) hb2⟩, lit_now k41 W.heap.size 41 (Reps.c5 hQ (Reps.none _ _)) (fun _ _ => trivial) trivial hB.size (by simp), below_alloc hB _⟩
    · have hb2 := below_alloc (Below.refl w5.heap.size w5) (.cells #[.slice B0 t1.length d0, .slice B1 t2.length d1, .slice B2 t3.length d2, .int .i64 t4, .int .i64 t5] 41 (0, 0))
      refine value_ (w1 := w5.alloc (.cells #[.slice B0 t1.length d0, .slice B1 t2.length d1, .slice B2 t3.length d2, .int .i64 t4, .int .i64 t5] 41 (0, 0))) (v := .slice (some ⟨w5.heap.size, 0, none⟩) 1 1) (by rfl) rfl (by first | (go_simp; done) | (go_simp; rfl)) ?_
      refine hK.out _ _ (hHeld.below hb2) (fun hHeld => ?_); clear hK K
      refine nr_ ?_
      have hO : Kd.R k41 41 (w5.alloc (.cells #[.slice B0 t1.length d0, .slice B1 t2.length d1, .slice B2 t3.length d2, .int .i64 t4, .int .i64 t5] 41 (0, 0))) W.heap.size (fun _ => True) (.slice (some ⟨w5.heap.size, 0, none⟩) 1 1) [posQ t1 t2 t3 t4 t5] := lit_now k41 W.heap.size 41 (Reps.c5 HQ3.out (Reps.none _ _)) (fun _ _ => trivial) trivial HB2.out.size (by simp)
      have HB3 : Aside0 (Below W.heap.size W (w5.alloc (.cells #[.slice B0 t1.length d0, .slice B1 t2.length d1, .slice B2 t3.length d2, .int .i64 t4, .int .i64 t5] 41 (0, 0)))) := ⟨xW HB2⟩
      have hs := HB3.out.size
      refine one_ (i := 1) (N := some 15) (mk 8 15) rfl rfl (one_of HT_.out (by kernel_rfl)) (by decide) (fun K hK => ?_)
      refine goes_ Try.func74 (by kernel_rfl) rfl #[.agg #[.string r.f0, .int .i64 r.f1, .int .i64 r.f2, .slice A3 r.f3.length c3, .slice A4 r.f4.length c4, .bool r.f5, .bool r.f6, .slice A7 r.f7.length c7, .int .i64 r.f8, .int .i64 r.f9, .int .i64 r.f10]] (by rfl) rfl rfl (by (try simp only [List.map_toArray, List.map_cons, List.map_nil]); rfl) ?_
      refine (copy_any (HR.out.below HB3.out) HC.out).mono ?_
      rintro e wa ⟨B3, b3, B4, b4, B7, b7, rfl, ⟨h3, h4, h7⟩, hb⟩
      refine ⟨_, rfl, ?_⟩
      refine hK.out _ _ (hHeld.below hb) (fun hHeld => ?_); clear hK K
      exact hc (B3, b3, B4, b4, B7, b7, w5.heap.size) _ ⟨⟨Kd.R_lower h3 hs, Kd.R_lower h4 hs, Kd.R_lower h7 hs⟩, Kd.R_below hO hb, (xS HB3 hb).out⟩
  case cont =>
    rintro ⟨B3, b3, B4, b4, B7, b7, g8⟩ wc ⟨⟨h3, h4, h7⟩, hO, hB⟩
    dsimp only at h3 h4 h7 hO hB
    refine nr_ ?_
    clear HQ3 BK2 BP2 HB2
    have HO := xm hO; have H3 := xm h3; have H4 := xm h4; have H7 := xm h7; have HB := xm hB
    clear hO h3 h4 h7 hB
    refine pu_ 4 18 HT_ ?_
    refine last_ (i := 5) (N := some 19) (mk 8 63) rfl rfl (one_of HT_.out (by kernel_rfl)) (by decide) (fun K hK => ?_)
    refine value_ (w1 := wc.alloc (.cells #[.string c.f0, .int .i64 c.f1, .int .i64 c.f2, .slice B3 c.f3.length b3, .slice B4 c.f4.length b4, .bool c.f5, .bool c.f6, .slice B7 c.f7.length b7, .int .i64 c.f8, .int .i64 c.f9, .int .i64 c.f10, .slice (some ⟨g8, 0, none⟩) 1 1, .slice none 0 0] 133 (0, 0))) (v := .pointer (some ⟨wc.heap.size, 0, none⟩)) (by rfl) rfl (by first | (go_simp; done) | (go_simp; rfl)) ?_
    have hb2 := below_alloc (Below.refl wc.heap.size wc) (.cells #[.string c.f0, .int .i64 c.f1, .int .i64 c.f2, .slice B3 c.f3.length b3, .slice B4 c.f4.length b4, .bool c.f5, .bool c.f6, .slice B7 c.f7.length b7, .int .i64 c.f8, .int .i64 c.f9, .int .i64 c.f10, .slice (some ⟨g8, 0, none⟩) 1 1, .slice none 0 0] 133 (0, 0))
    refine hK.out _ _ ?_; clear hK K
    refine nr_ ?_
    refine pu_ 6 2 HT_ ?_; refine pu_ 7 3 HT_ ?_
    refine done_ (done_of HT_.out (by kernel_rfl)) ?_
    have hG : GameIn _ W.heap.size wc.heap.size B3 b3 B4 b4 B7 b7 (some ⟨g8, 0, none⟩) 1 none 0 c [posQ t1 t2 t3 t4 t5] [] := ⟨HB.out.size, blk_new wc _, Kd.R_below H3.out hb2, Kd.R_below H4.out hb2, Kd.R_below H7.out hb2, Kd.R_below HO.out hb2, Kd.R_nil _ _ _ _ _⟩
    have HG := xm hG
    clear hG hb2
    go_wp2
    go_ret2
    exact ⟨_, rfl, ⟨_, rfl, B3, b3, B4, b4, B7, b7, _, _, HG.out⟩, xW HB⟩
/-- all blocks of other types stay -/
def Moves (t : Nat) (W W1 : World) : Prop := ∀ (k : Nat) (cells : Array Value) (q : Nat), W.heap[k]? = some (.cells cells q (0, 0)) → q ≠ t → W1.heap[k]? = W.heap[k]?
theorem Moves.below {t : Nat} {W W1 : World} (hb : Below W.heap.size W W1) : Moves t W W1 := fun k _ _ h _ => hb.block k (blk_lt h)
theorem Moves.trans {t : Nat} {W W1 W2 : World} (h1 : Moves t W W1) (h2 : Moves t W1 W2) : Moves t W W2 := fun k c q h hq => (h2 k c q ((h1 k c q h hq).trans h) hq).trans (h1 k c q h hq)
theorem Moves.at {t g q : Nat} {W W1 : World} {c : Array Value} (h : Moves t W W1) (hb : W.heap[g]? = some (.cells c q (0, 0))) (hq : q ≠ t) : W1.heap[g]? = some (.cells c q (0, 0)) := (h g c q hb hq).trans hb
theorem Moves.set {t g : Nat} {W : World} {c : Array Value} (hb : W.heap[g]? = some (.cells c t (0, 0))) (n : Nat) (u : Value) : Moves t W (W.setCell ⟨g, n, none⟩ u) := fun k c' q h hq => Below.heap_setCell W ⟨g, n, none⟩ u k (fun he => by
  have he' : k = g := he
  subst he'
  rw [hb] at h
  injection h with h
  injection h with _ h2
  exact hq h2.symm)
section
variable {α β : Type} {d : Kd α} {e base : Nat} {ok : Nat → Prop} {v : Value} {xs ys : List α} {W W1 : World}
theorem R_moves {t : Nat} (h : d.R e W base ok v xs) (hm : Moves t W W1) (hE : ∀ q, q ∈ e :: d.E → q ≠ t) : d.R e W1 base ok v xs :=
  Kd.R_mono (Kd.R_step (Kd.R_bound h) (fun k ho _ => by
    obtain ⟨_, _, _, q, hq, cells, hc⟩ := ho
    exact hm k cells q hc (hE q hq))) (fun _ hk => hk.1)
theorem M_moves {t : Nat} {x : α} {cs : List Value} (h : d.M W base ok x cs) (hm : Moves t W W1) (hE : ∀ q, q ∈ d.E → q ≠ t) : d.M W1 base ok x cs :=
  d.M_mono (fun _ hk => hk.1) (Kd.M_step (d.M_bound h) (fun k ho _ => by
    obtain ⟨_, _, _, q, hq, cells, hc⟩ := ho
    exact hm k cells q hc (hE q hq)))
theorem Moves.grown (h : d.R e W base ok v xs) (hg : W.grownBy W1 v.ownBlock) : Moves e W W1 := fun k c q hk hq => hg.block k (blk_lt hk) (fun he => by
  obtain ⟨_, inner, ho, _⟩ := h
  obtain ⟨c', hc'⟩ := own_typed ho k he.symm
  rw [hk] at hc'
  injection hc' with hc'
  injection hc' with _ h2
  exact hq h2)
theorem Cells.grown {W W1 : World} {row : Option Nat} (hg : W.grownBy W1 row) : ∀ {L : List (Addr × Value)}, (∀ x ∈ L, some x.1.block ≠ row) → Cells L W → Cells L W1
  | [], _, _ => trivial
  | (a, v) :: cs, hL, h => ⟨hg.cell h.1 (hL (a, v) List.mem_cons_self), Cells.grown hg (fun x hx => hL x (List.mem_cons_of_mem _ hx)) h.2⟩
/-- append(a row of one's own, another row ...) in a region that draws -/
theorem app_step {P : Program} {ops : Array Oper} {o : Oper} {a : Act} {Q : Exit → Act → World → Prop} {Kc : Act → World → Prop} (d : Kd α) {w0 W : World} (base : Nat) (hw : Region.wanted o (yielded ops a.tmps) = true) (s x : Operand) (t e : TypeId) (z : Value) (bytes : Nat)
    (ho : o.op = .call { callee := .builtin .append, args := #[s, x], argTypes := #[t, t] })
    (ht : P.underlying t = some (.slice e)) (hinfo : (P.info? e).map (fun i => (i.zero, i.size, i.bytes)) = some (some z, d.sz, bytes)) (hz : z.cells.size = d.sz) (hs0 : 0 < d.sz) (hb0 : 0 < bytes) (hE : ∀ q, q ∈ d.E → q ≠ e)
    (v : Value) (xs ys : List α) (A : Option Addr) (m c : Nat) (hs : a.eval s = v) (hx : a.eval x = .slice A m c)
    (HO : d.R e W base (fun _ => True) v xs) (HS : d.R e W base (fun _ => True) (.slice A m c) ys) (HB : Below base w0 W) (hbase : base ≤ W.heap.size) (hl : (xs.length + m) * bytes ≤ 140737488355328)
    (h : ∀ v1 w1, d.R e w1 base (fun _ => True) v1 (xs ++ ys) → Below base w0 w1 → W.grownBy w1 v.ownBlock → Kc (a.put o.dst v1) w1) :
    if Region.wanted o (yielded ops a.tmps) = true then Oper.wp P o a W Kc Q else Kc (a.put o.dst undef) W := by
  obtain ⟨A', c', he, _, hr⟩ := OwnRow.reads HS.2
  injection he with e1 e2 e3
  subst e1; subst e2
  refine Kd.R_append_rows_step d base hw s x t e z bytes ho ht hinfo hz hs0 hb0 v xs ys A _ c (fun _ => True) (fun k => True ∧ some k ≠ v.ownBlock) hs hx HO hr (fun x cs hp => made_apart (d.M_mono (fun _ _ => trivial) hp) HO hE) (fun _ hk => hk) (fun _ _ => trivial) HB hbase hl (fun v1 w1 h1 hb hg _ => h v1 w1 h1 hb hg)
end
/-- one move of a game: the errno, and the new position -/
def pl_play (k : Nat) (r : S26) (ps : List S41) (m : S38) : Option (Int × S41) := (pl_result k r ps).bind fun x => if x = 0 then
    ((moves_After.f k r.f0 r.f1 r.f2 r.f3 r.f4 r.f5 r.f6 r.f7 r.f8 r.f9 r.f10 (lastP ps).f0 (lastP ps).f1.f0 (lastP ps).f1.f1 (lastP ps).f2 (lastP ps).f3 m.f0 m.f1 m.f2).bind fun q => if q.2.2.2.2.2 = 0 then (if ps.length = 401 then some (9, posQ [] [] [] 0 0) else some (0, posQ q.1 q.2.1 q.2.2.1 q.2.2.2.1 q.2.2.2.2.1)) else some (13, posQ [] [] [] 0 0))
    else some (14, posQ [] [] [] 0 0)
theorem pl_play.mono (r : S26) (ps : List S41) (m : S38) (k : Nat) : LeO (pl_play k r ps m) (pl_play (k + 1) r ps m) := by
  unfold pl_play
  refine LeO.bind (pl_result.mono _ _ _) (fun x => LeO.ite ?_ (LeO.refl _))
  exact LeO.bind (moves_After.mono _ _ _ _ _ _ _ _ _ _ _ _ _ _ _ _ _ _ _ _) (fun q => LeO.refl _)
def plain_Play.T3 : Bool × List (List Nat × List Nat) := (true, [([], []), ([0], [0]), ([1], [1]), ([2], [2]), ([], []), ([4], [4]), ([], []), ([3, 5, 6, 5], [3, 5, 6]), ([7], [7]), ([8], [8]), ([8], [8]), ([], []), ([11, 9, 7, 0, 1, 2, 3, 4, 5, 6, 7, 8, 9, 11], [9, 11]), ([10, 12, 0, 1, 2, 3, 4, 5, 6, 7, 8, 9, 10, 11, 12], [10])])
def plain_Play.B3 : List Nat := [0, 1, 3, 7, 0, 16, 0, 127, 255, 511, 511, 0, 3071, 8191]
theorem plain_Play.tab3 : rtab .any (opsOf Try.f53 3) = plain_Play.T3 := by kernel_rfl
theorem plain_Play.bits3 : waitsOk plain_Play.T3.2 plain_Play.B3 = true := by kernel_rfl
def plain_Play.T8 : Bool × List (List Nat × List Nat) := (true, [([], []), ([], []), ([], []), ([2], [2]), ([3], [3]), ([4], [4]), ([], []), ([6], [6]), ([5, 7], [5, 7]), ([], []), ([9], [9]), ([10], [10]), ([11], [11]), ([], []), ([13], [13]), ([12, 14, 8], [12, 14]), ([0, 0, 2, 3, 4, 5, 6, 7, 8, 12, 15], [0]), ([16, 0, 2, 3, 4, 5, 6, 7, 8, 12, 15], [16]), ([17, 8, 15, 0, 2, 3, 4, 5, 6, 7, 8, 12, 15], [8, 17]), ([1, 0, 1, 2, 3, 4, 5, 6, 7, 8, 9, 10, 11, 12, 13, 14, 15, 16, 17, 18], [1]), ([19, 0, 1, 2, 3, 4, 5, 6, 7, 8, 9, 10, 11, 12, 13, 14, 15, 16, 17, 18], [19]), ([20, 15, 18, 0, 1, 2, 3, 4, 5, 6, 7, 8, 9, 10, 11, 12, 13, 14, 15, 16, 17, 18], [15, 20])])
def plain_Play.B8 : List Nat := [0, 0, 0, 4, 12, 28, 0, 64, 252, 0, 512, 1536, 3584, 0, 8192, 32764, 65533, 131069, 262141, 524287, 1048575, 2097151]
theorem plain_Play.tab8 : rtab .any (opsOf Try.f53 8) = plain_Play.T8 := by kernel_rfl
theorem plain_Play.bits8 : waitsOk plain_Play.T8.2 plain_Play.B8 = true := by kernel_rfl
theorem play_any (k : Nat) {W : World} {base g : Nat} {A3 : Option Addr} {c3 : Nat} {A4 : Option Addr} {c4 : Nat} {A7 : Option Addr} {c7 : Nat} {A8 : Option Addr} {c8 : Nat} {A9 : Option Addr} {c9 : Nat} {r : S26} {ps : List S41} {ms : List S38} {m : S38} {y : Int} {p : S41} (hG : GameIn W base g A3 c3 A4 c4 A7 c7 A8 c8 A9 c9 r ps ms) (hps : ps.length = ms.length + 1) (hp4 : ps.length ≤ 401) (h : pl_play k r ps m = some (y, p)) :
    Calls Try.prog 53 #[.pointer (some ⟨g, 0, none⟩), .agg #[.int .i64 m.f0, .int .i64 m.f1, .int .i64 m.f2]] W fun e W' => e = .returned (.int .i64 y) ∧ (y = 0 → ps.length ≤ 400 ∧ ∃ A8 c8 A9 c9, GameIn W' base g A3 c3 A4 c4 A7 c7 A8 c8 A9 c9 r (ps ++ [p]) (ms ++ [m])) ∧ Below base W W' := by
  have hu133 := Try.underlying133
  have hu41 := Try.underlying41
  have hu38 := Try.underlying38
  have hu26 := Try.underlying26
  have hss_ := @isSome_setCell
  have HBW := xm (Nat.le_of_lt (Nat.lt_of_le_of_lt hG.ge (blk_lt hG.bx)))
  have HPS := xm hps
  have HP0 := xm (show 0 < ps.length from by omega)
  have HP4 := xm hp4
  have HG := xm hG
  have HB := xm (Below.refl W.heap.size W)
  unfold pl_play at h
  obtain ⟨x, AX, h⟩ := xH h
  clear hG hps hp4
  by_cases hx : x = 0
  rotate_left
  · rw [if_neg hx] at h
    simp only [Option.some.injEq, Prod.mk.injEq] at h
    obtain ⟨rfl, rfl⟩ := h
    have hxa := beq_eq_false_iff_ne.mpr hx
    have hxb := bne_iff_ne.mpr hx
    go_enter Try.func53, Try.ntmps53
    go_wp2_with (first
      | ((with_reducible refine gate_dst (N := 3) rfl ?_); refine xG (cs := #[.int .i64 m.f0, .int .i64 m.f1, .int .i64 m.f2]) (t := 38) ?_; intro gm hg w1 hbox hb; replace HG := xm (HG.out.below hb); replace HB := xS HB hb; clear hb hbox hg)
      | ((with_reducible refine gate_callee (f := 55) rfl ?_); refine xL (some 8) Try.func55 #[.pointer (some ⟨g, 0, none⟩)] rfl ?_; refine (gres_any k HG.out HP0.out HP4.out AX.out).mono ?_; rintro e w2 ⟨rfl, hb⟩; refine ⟨_, rfl, ?_⟩; replace HB := xS HB hb; clear hb))
    go_ret
    exact ⟨rfl, fun e => absurd e (by decide), HB.out.mono HBW.out⟩
  subst hx
  rw [if_pos rfl] at h
  obtain ⟨⟨s1, s2, s3, s4, s5, s6⟩, AQ, h⟩ := xH h
  dsimp only at h
  have H := xm h
  clear h
  go_enter Try.func53, Try.ntmps53
  go_upto_region 3 with (first
    | ((with_reducible refine gate_dst (N := 3) rfl ?_); refine xG (cs := #[.int .i64 m.f0, .int .i64 m.f1, .int .i64 m.f2]) (t := 38) ?_; intro gm hg w1 hbox hb; have BM := xm hbox; replace HG := xm (HG.out.below hb); replace HB := xS HB hb; clear hb hbox hg)
    | ((with_reducible refine gate_callee (f := 55) rfl ?_); refine xL (some 8) Try.func55 #[.pointer (some ⟨g, 0, none⟩)] rfl ?_; refine (gres_any k HG.out HP0.out HP4.out AX.out).mono ?_; rintro e w2 ⟨rfl, hb⟩; refine ⟨_, rfl, ?_⟩; replace HG := xm (HG.out.below hb); replace BM := xB BM hb; replace HB := xS HB hb; clear hb))
  replace HG := xm (HG.out.below (below_drew1 (Below.refl _ _))); replace BM := xm (blk_drew BM.out); replace HB := xm (below_drew1 HB.out)
  have BG := xm HG.out.bx
  refine start_ (n := 14) (S := Cells [(⟨g, 0, none⟩, .string r.f0), (⟨g, 1, none⟩, .int .i64 r.f1), (⟨g, 2, none⟩, .int .i64 r.f2), (⟨g, 3, none⟩, .slice A3 r.f3.length c3), (⟨g, 4, none⟩, .slice A4 r.f4.length c4), (⟨g, 5, none⟩, .bool r.f5), (⟨g, 6, none⟩, .bool r.f6), (⟨g, 7, none⟩, .slice A7 r.f7.length c7), (⟨g, 8, none⟩, .int .i64 r.f8), (⟨g, 9, none⟩, .int .i64 r.f9), (⟨g, 10, none⟩, .int .i64 r.f10), (⟨gm, 0, none⟩, .int .i64 m.f0), (⟨gm, 1, none⟩, .int .i64 m.f1), (⟨gm, 2, none⟩, .int .i64 m.f2)]) (ds := [12]) (mk 14 0) (by kernel_rfl) rfl rfl ⟨xc BG 0, xc BG 1, xc BG 2, xc BG 3, xc BG 4, xc BG 5, xc BG 6, xc BG 7, xc BG 8, xc BG 9, xc BG 10, xc BM 0, xc BM 1, xc BM 2, trivial⟩ (fun hHeld => ?_)
  refine with_tabW plain_Play.tab3 plain_Play.bits3 (fun HT_ HW_ => ?_)
  generalize w2.drew = w3 at HG BM HB BG hHeld ⊢
  have HB0 := HB
  replace HB := xm (Below.refl w3.heap.size w3)
  refine pu_ 0 11 HT_ ?_; refine pu_ 1 12 HT_ ?_; refine pu_ 2 13 HT_ ?_; refine tc_ 3 14 HT_ HW_ hHeld ?_; refine pu_ 4 15 HT_ ?_; refine tc_ 6 17 HT_ HW_ hHeld ?_
  have HH := xm hHeld
  clear BG
  refine join_ (σ := (Option Addr × Nat × Option Addr × Nat × Option Addr × Nat × Nat) × (Option Addr × Nat × Option Addr × Nat × Option Addr × Nat)) 2 (mk 14 4095)
    (fun s => [(16, .agg #[.slice s.2.1 (lastP ps).f0.length s.2.2.1, .slice s.2.2.2.1 (lastP ps).f1.f0.length s.2.2.2.2.1, .slice s.2.2.2.2.2.1 (lastP ps).f1.f1.length s.2.2.2.2.2.2, .int .i64 (lastP ps).f2, .int .i64 (lastP ps).f3]), (18, .tuple #[.agg #[.slice s.1.1 s1.length s.1.2.1, .slice s.1.2.2.1 s2.length s.1.2.2.2.1, .slice s.1.2.2.2.2.1 s3.length s.1.2.2.2.2.2.1, .int .i64 s4, .int .i64 s5], .int .i64 s6]), (10, .tuple #[.agg #[.slice s.1.1 s1.length s.1.2.1, .slice s.1.2.2.1 s2.length s.1.2.2.2.1, .slice s.1.2.2.2.2.1 s3.length s.1.2.2.2.2.2.1, .int .i64 s4, .int .i64 s5], .int .i64 s6]), (19, .agg #[.slice s.1.1 s1.length s.1.2.1, .slice s.1.2.2.1 s2.length s.1.2.2.2.1, .slice s.1.2.2.2.2.1 s3.length s.1.2.2.2.2.2.1, .int .i64 s4, .int .i64 s5]), (20, .int .i64 s6), (5, .pointer (some ⟨s.1.2.2.2.2.2.2, 0, none⟩))])
    (fun s w' => Below w3.heap.size w3 w' ∧ k41.M w' base (fun _ => True) (posQ s1 s2 s3 s4 s5) [.slice s.1.1 s1.length s.1.2.1, .slice s.1.2.2.1 s2.length s.1.2.2.2.1, .slice s.1.2.2.2.2.1 s3.length s.1.2.2.2.2.2.1, .int .i64 s4, .int .i64 s5] ∧ w'.heap[s.1.2.2.2.2.2.2]? = some (.cells #[.slice none 0 0, .slice none 0 0, .slice none 0 0, .int .i64 0, .int .i64 0] 41 (0, 0)) ∧ w3.heap.size ≤ s.1.2.2.2.2.2.2) ?cont ?both
  case both =>
    intro hc
    refine join_ (σ := Option Addr × Nat × Option Addr × Nat × Option Addr × Nat × Nat) 6 (mk 14 2175)
      (fun s => [(16, .agg #[.slice s.1 (lastP ps).f0.length s.2.1, .slice s.2.2.1 (lastP ps).f1.f0.length s.2.2.2.1, .slice s.2.2.2.2.1 (lastP ps).f1.f1.length s.2.2.2.2.2.1, .int .i64 (lastP ps).f2, .int .i64 (lastP ps).f3]), (5, .pointer (some ⟨s.2.2.2.2.2.2, 0, none⟩))])
      (fun s w' => Below w3.heap.size w3 w' ∧ PIn w' s.1 s.2.1 s.2.2.1 s.2.2.2.1 s.2.2.2.2.1 s.2.2.2.2.2.1 (lastP ps) ∧ w'.heap[s.2.2.2.2.2.2]? = some (.cells #[.slice none 0 0, .slice none 0 0, .slice none 0 0, .int .i64 0, .int .i64 0] 41 (0, 0)) ∧ w3.heap.size ≤ s.2.2.2.2.2.2) ?cont2 ?both2
    case both2 =>
      intro hc2
      refine two_ (i := 5) (j := 11) (Ni := some 16) (Nj := some 5) (mk 14 127) (mk 14 2143) rfl rfl rfl rfl (two_of HT_.out (by kernel_rfl)) (by decide) (by decide) (fun K hK => ?_) (fun K hK => ?_)
      · refine goes_ Try.func75 (by kernel_rfl) rfl #[.pointer (some ⟨g, 0, none⟩)] (by rfl) rfl rfl (by (try simp only [List.map_toArray, List.map_cons, List.map_nil]); rfl) ?_
        refine (now_any HG.out HP0.out HP4.out).mono ?_
        rintro e wa ⟨D0, h0, D1, h1, D2, h2, rfl, hPL, hb⟩
        refine ⟨_, rfl, ?_⟩
        have HPL := xm hPL
        replace HB := xS HB hb
        refine hK.out _ _ (hHeld.below hb) (fun hHeld => ?_); clear hK K hPL hb
        refine nr_ ?_
        refine two_ (i := 7) (j := 11) (Ni := some 18) (Nj := some 5) (mk 14 255) (mk 14 2175) rfl rfl rfl rfl (two_of HT_.out (by kernel_rfl)) (by decide) (by decide) (fun K hK => ?_) (fun K hK => ?_)
        · refine goes_ Try.func41 (by kernel_rfl) rfl #[.agg #[.string r.f0, .int .i64 r.f1, .int .i64 r.f2, .slice A3 r.f3.length c3, .slice A4 r.f4.length c4, .bool r.f5, .bool r.f6, .slice A7 r.f7.length c7, .int .i64 r.f8, .int .i64 r.f9, .int .i64 r.f10], .agg #[.slice D0 (lastP ps).f0.length h0, .slice D1 (lastP ps).f1.f0.length h1, .slice D2 (lastP ps).f1.f1.length h2, .int .i64 (lastP ps).f2, .int .i64 (lastP ps).f3], .agg #[.int .i64 m.f0, .int .i64 m.f1, .int .i64 m.f2]] (by rfl) rfl rfl (by (try simp only [List.map_toArray, List.map_cons, List.map_nil]); rfl) ?_
          refine (after_any (HG.out.below HB.out).rin HPL.out AQ.out).mono ?_
          rintro e wb ⟨b0, e0, b1, e1, b2, e2, rfl, hM, hb⟩
          refine ⟨_, rfl, ?_⟩
          have hB := (xS HB hb).out
          have hM' := k41.M_lower (Nat.le_trans (Nat.le_trans HBW.out HB0.out.size) HB.out.size) hM
          refine hK.out _ _ (hHeld.below hb) (fun hHeld => ?_); clear hK K
          refine nr_ ?_
          refine pu_ 8 10 HT_ ?_; refine pu_ 9 19 HT_ ?_; refine pu_ 10 20 HT_ ?_
          refine one_ (i := 11) (N := some 5) (mk 14 4095) rfl rfl (one_of HT_.out (by kernel_rfl)) (by decide) (fun K hK => ?_)
          refine value_ (w1 := wb.alloc (.cells #[.slice none 0 0, .slice none 0 0, .slice none 0 0, .int .i64 0, .int .i64 0] 41 (0, 0))) (v := .pointer (some ⟨wb.heap.size, 0, none⟩)) (by rfl) rfl (by first | (go_simp; done) | (go_simp; rfl)) ?_
          have hb2 := below_alloc (Below.refl wb.heap.size wb) (.cells #[.slice none 0 0, .slice none 0 0, .slice none 0 0, .int .i64 0, .int .i64 0] 41 (0, 0))
          refine hK.out _ _ (hHeld.below hb2) (fun hHeld => ?_); clear hK K
          exact hc ((b0, e0, b1, e1, b2, e2, wb.heap.size), (D0, h0, D1, h1, D2, h2)) _ ⟨below_alloc hB _, Kd.M_below hM' hb2, blk_new _ _, hB.size⟩
        · refine value_ (w1 := wa.alloc (.cells #[.slice none 0 0, .slice none 0 0, .slice none 0 0, .int .i64 0, .int .i64 0] 41 (0, 0))) (v := .pointer (some ⟨wa.heap.size, 0, none⟩)) (by rfl) rfl (by first | (go_simp; done) | (go_simp; rfl)) ?_
          have hb2 := below_alloc (Below.refl wa.heap.size wa) (.cells #[.slice none 0 0, .slice none 0 0, .slice none 0 0, .int .i64 0, .int .i64 0] 41 (0, 0))
          refine hK.out _ _ (hHeld.below hb2) (fun hHeld => ?_); clear hK K
          exact hc2 (D0, h0, D1, h1, D2, h2, wa.heap.size) _ ⟨below_alloc HB.out _, HPL.out.below hb2, blk_new _ _, HB.out.size⟩
      · refine value_ (w1 := w3.alloc (.cells #[.slice none 0 0, .slice none 0 0, .slice none 0 0, .int .i64 0, .int .i64 0] 41 (0, 0))) (v := .pointer (some ⟨w3.heap.size, 0, none⟩)) (by rfl) rfl (by first | (go_simp; done) | (go_simp; rfl)) ?_
        have hb2 := below_alloc (Below.refl w3.heap.size w3) (.cells #[.slice none 0 0, .slice none 0 0, .slice none 0 0, .int .i64 0, .int .i64 0] 41 (0, 0))
        refine hK.out _ _ (hHeld.below hb2) (fun hHeld => ?_); clear hK K
        refine nr_ ?_
        refine one_ (i := 5) (N := some 16) (mk 14 2175) rfl rfl (one_of HT_.out (by kernel_rfl)) (by decide) (fun K hK => ?_)
        refine goes_ Try.func75 (by kernel_rfl) rfl #[.pointer (some ⟨g, 0, none⟩)] (by rfl) rfl rfl (by (try simp only [List.map_toArray, List.map_cons, List.map_nil]); rfl) ?_
        refine (now_any (HG.out.below hb2) HP0.out HP4.out).mono ?_
        rintro e wa ⟨D0, h0, D1, h1, D2, h2, rfl, hPL, hb⟩
        refine ⟨_, rfl, ?_⟩
        refine hK.out _ _ (hHeld.below hb) (fun hHeld => ?_); clear hK K
        exact hc2 (D0, h0, D1, h1, D2, h2, w3.heap.size) _ ⟨hb2.trans (hb.mono hb2.size), hPL, (hb.block _ (blk_lt (blk_new w3 (.cells #[.slice none 0 0, .slice none 0 0, .slice none 0 0, .int .i64 0, .int .i64 0] 41 (0, 0))))).trans (blk_new w3 (.cells #[.slice none 0 0, .slice none 0 0, .slice none 0 0, .int .i64 0, .int .i64 0] 41 (0, 0))), Nat.le_refl _⟩
    case cont2 =>
      rintro ⟨D0, h0, D1, h1, D2, h2, gp⟩ wa ⟨hB, hPL, hP, hge⟩
      dsimp only at hPL hP hge
      refine nr_ ?_
      have HB := xm hB
      have hHeld := HH.out.below hB
      refine one_ (i := 7) (N := some 18) (mk 14 2303) rfl rfl (one_of HT_.out (by kernel_rfl)) (by decide) (fun K hK => ?_)
      refine goes_ Try.func41 (by kernel_rfl) rfl #[.agg #[.string r.f0, .int .i64 r.f1, .int .i64 r.f2, .slice A3 r.f3.length c3, .slice A4 r.f4.length c4, .bool r.f5, .bool r.f6, .slice A7 r.f7.length c7, .int .i64 r.f8, .int .i64 r.f9, .int .i64 r.f10], .agg #[.slice D0 (lastP ps).f0.length h0, .slice D1 (lastP ps).f1.f0.length h1, .slice D2 (lastP ps).f1.f1.length h2, .int .i64 (lastP ps).f2, .int .i64 (lastP ps).f3], .agg #[.int .i64 m.f0, .int .i64 m.f1, .int .i64 m.f2]] (by rfl) rfl rfl (by (try simp only [List.map_toArray, List.map_cons, List.map_nil]); rfl) ?_
      refine (after_any (HG.out.below hB).rin hPL AQ.out).mono ?_
      rintro e wb ⟨b0, e0, b1, e1, b2, e2, rfl, hM, hb⟩
      refine ⟨_, rfl, ?_⟩
      refine hK.out _ _ (hHeld.below hb) (fun hHeld => ?_); clear hK K
      refine nr_ ?_
      refine pu_ 8 10 HT_ ?_; refine pu_ 9 19 HT_ ?_; refine pu_ 10 20 HT_ ?_
      exact hc ((b0, e0, b1, e1, b2, e2, gp), (D0, h0, D1, h1, D2, h2)) _ ⟨(xS HB hb).out, k41.M_lower (Nat.le_trans (Nat.le_trans HBW.out HB0.out.size) hB.size) hM, (hb.block _ (blk_lt hP)).trans hP, hge⟩
  case cont =>
    rintro ⟨⟨b0, e0, b1, e1, b2, e2, gp⟩, ⟨D0, h0, D1, h1, D2, h2⟩⟩ wc ⟨hB, hM, hP, hge⟩
    dsimp only at hM hP hge
    refine nr_ ?_
    clear hHeld HB
    have HB := xm hB; have HQ := xm hM; have BP := xm hP; have GW := xm hge
    clear hB hM hP hge HH
    have hcp := blkc5 BP.out
    refine last_ (i := 12) (N := none) (mk 14 8191) rfl rfl (one_of HT_.out (by kernel_rfl)) (by decide) (fun K hK => ?_)
    refine skip_ (w1 := ((((wc.setCell ⟨gp, 0, none⟩ (.slice b0 s1.length e0)).setCell ⟨gp, 1, none⟩ (.slice b1 s2.length e1)).setCell ⟨gp, 2, none⟩ (.slice b2 s3.length e2)).setCell ⟨gp, 3, none⟩ (.int .i64 s4)).setCell ⟨gp, 4, none⟩ (.int .i64 s5)) (by rfl) rfl (by first | (go_simp; done) | (go_simp; rfl)) ?_
    refine hK.out _ _ ?_; clear hK K
    refine norm_ (a' := ?_) ?_ ?_; rotate_left; (· rfl)
    refine pu_ 13 6 HT_ ?_
    refine done_ (done_of HT_.out (by kernel_rfl)) ?_
    have BP2 : Aside0 ((((((wc.setCell ⟨gp, 0, none⟩ (.slice b0 s1.length e0)).setCell ⟨gp, 1, none⟩ (.slice b1 s2.length e1)).setCell ⟨gp, 2, none⟩ (.slice b2 s3.length e2)).setCell ⟨gp, 3, none⟩ (.int .i64 s4)).setCell ⟨gp, 4, none⟩ (.int .i64 s5)).heap[gp]? = some (.cells #[.slice b0 s1.length e0, .slice b1 s2.length e1, .slice b2 s3.length e2, .int .i64 s4, .int .i64 s5] 41 (0, 0))) := ⟨xQ BP⟩
    have HB2 : Aside0 (Below w3.heap.size w3 (((((wc.setCell ⟨gp, 0, none⟩ (.slice b0 s1.length e0)).setCell ⟨gp, 1, none⟩ (.slice b1 s2.length e1)).setCell ⟨gp, 2, none⟩ (.slice b2 s3.length e2)).setCell ⟨gp, 3, none⟩ (.int .i64 s4)).setCell ⟨gp, 4, none⟩ (.int .i64 s5))) := ⟨xW HB⟩
    have HQ2 : Aside0 (k41.M (((((wc.setCell ⟨gp, 0, none⟩ (.slice b0 s1.length e0)).setCell ⟨gp, 1, none⟩ (.slice b1 s2.length e1)).setCell ⟨gp, 2, none⟩ (.slice b2 s3.length e2)).setCell ⟨gp, 3, none⟩ (.int .i64 s4)).setCell ⟨gp, 4, none⟩ (.int .i64 s5)) base _ (posQ s1 s2 s3 s4 s5) [.slice b0 s1.length e0, .slice b1 s2.length e1, .slice b2 s3.length e2, .int .i64 s4, .int .i64 s5]) := ⟨Kd.M_far (Kd.M_far (Kd.M_far (Kd.M_far (Kd.M_far (Kd.M_types HQ.out BP.out (by decide)) (fun _ hk => hk.2) _) (fun _ hk => hk.2) _) (fun _ hk => hk.2) _) (fun _ hk => hk.2) _) (fun _ hk => hk.2) _⟩
    have NP : Aside0 (some gp ≠ (Value.slice A8 ps.length c8).ownBlock) := ⟨fun he => by have := Kd.R_lt HG.out.rp gp he.symm; have := GW.out; omega⟩
    clear HB HQ BP hcp GW
    generalize (((((wc.setCell ⟨gp, 0, none⟩ (.slice b0 s1.length e0)).setCell ⟨gp, 1, none⟩ (.slice b1 s2.length e1)).setCell ⟨gp, 2, none⟩ (.slice b2 s3.length e2)).setCell ⟨gp, 3, none⟩ (.int .i64 s4)).setCell ⟨gp, 4, none⟩ (.int .i64 s5)) = w4 at BP2 HB2 HQ2 ⊢
    replace HG := xm (HG.out.below HB2.out)
    replace BM := xm (blk_below BM.out HB2.out)
    replace HB := xm (below_step HB0.out HB2.out)
    clear HB2 HB0
    by_cases hs : s6 = 0
    rotate_left
    · have H1 := H.out; rw [if_neg hs] at H1
      have hsa := beq_eq_false_iff_ne.mpr hs
      have hsb := bne_iff_ne.mpr hs
      simp only [Option.some.injEq, Prod.mk.injEq] at H1
      obtain ⟨rfl, rfl⟩ := H1
      clear H
      go_wp2
      go_ret
      exact ⟨rfl, fun e => absurd e (by decide), HB.out.mono HBW.out⟩
    subst hs
    have H1 := H.out; rw [if_pos rfl] at H1
    clear H
    have hcg := blkc13 HG.out.bx
    by_cases h4 : ps.length = 401
    · rw [if_pos h4] at H1
      simp only [Option.some.injEq, Prod.mk.injEq] at H1
      obtain ⟨rfl, rfl⟩ := H1
      have h4a : ((ms.length : Int) == 400) = true := beq_iff_eq.mpr (by have := HPS.out; omega)
      have h4b : (ms.length : Int) = 400 := by have := HPS.out; omega
      go_wp2
      go_ret
      exact ⟨rfl, fun e => absurd e (by decide), HB.out.mono HBW.out⟩
    rw [if_neg h4] at H1
    simp only [Option.some.injEq, Prod.mk.injEq] at H1
    obtain ⟨rfl, rfl⟩ := H1
    have h4a : ((ms.length : Int) == 400) = false := beq_eq_false_iff_ne.mpr (by have := HPS.out; omega)
    have H400 := xm (show ps.length ≤ 400 from by have := HP4.out; omega)
    clear h4
    go_wp2
    clear h4a hcg
    replace HG := xm (HG.out.below (below_drew1 (Below.refl _ _))); replace BM := xm (blk_drew BM.out); replace HB := xm (below_drew1 HB.out); replace BP2 := xm (blk_drew BP2.out); replace HQ2 := xm (Kd.M_below HQ2.out (below_drew1 (Below.refl _ _)))
    have BG := xm HG.out.bx
    refine start_ (n := 22) (S := Cells [(⟨g, 11, none⟩, .slice A8 ps.length c8), (⟨g, 12, none⟩, .slice A9 ms.length c9), (⟨gp, 0, none⟩, .slice b0 s1.length e0), (⟨gp, 1, none⟩, .slice b1 s2.length e1), (⟨gp, 2, none⟩, .slice b2 s3.length e2), (⟨gp, 3, none⟩, .int .i64 s4), (⟨gp, 4, none⟩, .int .i64 s5), (⟨gm, 0, none⟩, .int .i64 m.f0), (⟨gm, 1, none⟩, .int .i64 m.f1), (⟨gm, 2, none⟩, .int .i64 m.f2)]) (ds := [15, 18, 21]) (mk 22 0) (by kernel_rfl) rfl rfl ⟨xc BG 11, xc BG 12, xc BP2 0, xc BP2 1, xc BP2 2, xc BP2 3, xc BP2 4, xc BM 0, xc BM 1, xc BM 2, trivial⟩ (fun hHeld => ?_)
    refine with_tabW plain_Play.tab8 plain_Play.bits8 (fun HT_ HW_ => ?_)
    generalize w4.drew = w5 at HG BM HB BP2 HQ2 BG hHeld ⊢
    have NG : Aside0 (some g ≠ (Value.slice A8 ps.length c8).ownBlock) := ⟨Kd.R_ne HG.out.rp BG.out (by decide)⟩
    have NM : Aside0 (some gm ≠ (Value.slice A8 ps.length c8).ownBlock) := ⟨Kd.R_ne HG.out.rp BM.out (by decide)⟩
    have NL : Aside0 (∀ x ∈ [(⟨g, 11, none⟩, .slice A8 ps.length c8), (⟨g, 12, none⟩, .slice A9 ms.length c9), (⟨gp, 0, none⟩, .slice b0 s1.length e0), (⟨gp, 1, none⟩, .slice b1 s2.length e1), (⟨gp, 2, none⟩, .slice b2 s3.length e2), (⟨gp, 3, none⟩, .int .i64 s4), (⟨gp, 4, none⟩, .int .i64 s5), (⟨gm, 0, none⟩, .int .i64 m.f0), (⟨gm, 1, none⟩, .int .i64 m.f1), (⟨gm, 2, none⟩, .int .i64 m.f2)], some (x : Addr × Value).1.block ≠ (Value.slice A8 ps.length c8).ownBlock) := ⟨List.forall_mem_cons.2 ⟨NG.out, List.forall_mem_cons.2 ⟨NG.out, List.forall_mem_cons.2 ⟨NP.out, List.forall_mem_cons.2 ⟨NP.out, List.forall_mem_cons.2 ⟨NP.out, List.forall_mem_cons.2 ⟨NP.out, List.forall_mem_cons.2 ⟨NP.out, List.forall_mem_cons.2 ⟨NM.out, List.forall_mem_cons.2 ⟨NM.out, List.forall_mem_cons.2 ⟨NM.out, List.forall_mem_nil _⟩⟩⟩⟩⟩⟩⟩⟩⟩⟩⟩
    clear BM BP2
    have HH := xm hHeld
    refine pu_ 0 31 HT_ ?_; refine pu_ 1 32 HT_ ?_; refine pu_ 2 33 HT_ ?_; refine pu_ 3 34 HT_ ?_; refine pu_ 4 35 HT_ ?_; refine tc_ 5 36 HT_ HW_ hHeld ?_; refine tc_ 6 37 HT_ HW_ hHeld ?_
    refine pu_ 9 40 HT_ ?_; refine pu_ 10 41 HT_ ?_; refine pu_ 11 42 HT_ ?_; refine tc_ 12 43 HT_ HW_ hHeld ?_; refine tc_ 13 44 HT_ HW_ hHeld ?_
    have HBB := xm (Nat.le_trans HBW.out HB.out.size)
    refine join_ (σ := Option Addr × Nat × Nat × Nat) 7 (mk 22 32767)
      (fun s => [(38, .slice (some ⟨s.2.2.1, 0, none⟩) 1 1), (39, .slice s.1 (ps ++ [posQ s1 s2 s3 s4 s5]).length s.2.1), (45, .slice (some ⟨s.2.2.2, 0, none⟩) 1 1)])
      (fun s w' => Kd.R k41 41 w' base (fun _ => True) (.slice s.1 (ps ++ [posQ s1 s2 s3 s4 s5]).length s.2.1) (ps ++ [posQ s1 s2 s3 s4 s5]) ∧ Kd.R k38 38 w' base (fun _ => True) (.slice (some ⟨s.2.2.2, 0, none⟩) 1 1) [m] ∧ Moves 41 w5 w' ∧ Below base w5 w') ?cont ?both
    case both =>
      intro hc
      refine join_ (σ := Nat × Nat) 8 (mk 22 32511)
        (fun s => [(38, .slice (some ⟨s.1, 0, none⟩) 1 1), (45, .slice (some ⟨s.2, 0, none⟩) 1 1)])
        (fun s w' => Kd.R k41 41 w' base (fun _ => True) (.slice (some ⟨s.1, 0, none⟩) 1 1) [posQ s1 s2 s3 s4 s5] ∧ Kd.R k38 38 w' base (fun _ => True) (.slice (some ⟨s.2, 0, none⟩) 1 1) [m] ∧ Below w5.heap.size w5 w') ?cont2 ?both2
      case both2 =>
        intro hc2
        have hb1 := below_alloc (Below.refl w5.heap.size w5) (.cells #[.slice b0 s1.length e0, .slice b1 s2.length e1, .slice b2 s3.length e2, .int .i64 s4, .int .i64 s5] 41 (0, 0))
        have hb2 := below_alloc (Below.refl w5.heap.size w5) (.cells #[.int .i64 m.f0, .int .i64 m.f1, .int .i64 m.f2] 38 (0, 0))
        have hb3 := below_alloc (Below.refl (w5.alloc (.cells #[.slice b0 s1.length e0, .slice b1 s2.length e1, .slice b2 s3.length e2, .int .i64 s4, .int .i64 s5] 41 (0, 0))).heap.size (w5.alloc (.cells #[.slice b0 s1.length e0, .slice b1 s2.length e1, .slice b2 s3.length e2, .int .i64 s4, .int .i64 s5] 41 (0, 0)))) (.cells #[.int .i64 m.f0, .int .i64 m.f1, .int .i64 m.f2] 38 (0, 0))
        have hb4 := below_alloc (Below.refl (w5.alloc (.cells #[.int .i64 m.f0, .int .i64 m.f1, .int .i64 m.f2] 38 (0, 0))).heap.size (w5.alloc (.cells #[.int .i64 m.f0, .int .i64 m.f1, .int .i64 m.f2] 38 (0, 0)))) (.cells #[.slice b0 s1.length e0, .slice b1 s2.length e1, .slice b2 s3.length e2, .int .i64 s4, .int .i64 s5] 41 (0, 0))
        have hP1 : Kd.R k41 41 (w5.alloc (.cells #[.slice b0 s1.length e0, .slice b1 s2.length e1, .slice b2 s3.length e2, .int .i64 s4, .int .i64 s5] 41 (0, 0))) base (fun _ => True) (.slice (some ⟨w5.heap.size, 0, none⟩) 1 1) [posQ s1 s2 s3 s4 s5] := lit_now k41 base 41 (Reps.c5 HQ2.out (Reps.none _ _)) (fun _ _ => trivial) trivial HBB.out (by simp)
        refine two_ (i := 7) (j := 14) (Ni := some 38) (Nj := some 45) (mk 22 16127) (mk 22 32383) rfl rfl rfl rfl (two_of HT_.out (by kernel_rfl)) (by decide) (by decide) (fun K hK => ?_) (fun K hK => ?_)
        · refine value_ (w1 := w5.alloc (.cells #[.slice b0 s1.length e0, .slice b1 s2.length e1, .slice b2 s3.length e2, .int .i64 s4, .int .i64 s5] 41 (0, 0))) (v := .slice (some ⟨w5.heap.size, 0, none⟩) 1 1) (by rfl) rfl (by first | (go_simp; done) | (go_simp; rfl)) ?_
          refine hK.out _ _ (hHeld.below hb1) (fun hHeld => ?_); clear hK K
          refine nr_ ?_
          refine two_ (i := 8) (j := 14) (Ni := some 39) (Nj := some 45) (mk 22 16383) (mk 22 32511) rfl rfl rfl rfl (two_of HT_.out (by kernel_rfl)) (by decide) (by decide) (fun K hK => ?_) (fun K hK => ?_)
          · refine app_step k41 (w0 := w5) base (by rfl) (.tmp 36) (.tmp 38) 34 41 (.agg #[.slice none 0 0, .slice none 0 0, .slice none 0 0, .int .i64 0, .int .i64 0]) 88 rfl Try.underlying34 info41 rfl (by decide) (by omega) (by decide) (.slice A8 ps.length c8) ps [posQ s1 s2 s3 s4 s5] _ _ _ rfl rfl (Kd.R_below HG.out.rp hb1) hP1 (hb1.mono HBB.out) (Nat.le_trans HBB.out hb1.size) (by have := H400.out; omega) ?_; intro v8 wb hO hb hg
            obtain ⟨A8', c8', rfl⟩ := Kd.R_slice hO
            refine hK.out _ _ (Cells.grown hg NL.out hHeld) (fun hHeld => ?_); clear hK K
            refine nr_ ?_
            refine one_ (i := 14) (N := some 45) (mk 22 32767) rfl rfl (one_of HT_.out (by kernel_rfl)) (by decide) (fun K hK => ?_)
            refine value_ (w1 := wb.alloc (.cells #[.int .i64 m.f0, .int .i64 m.f1, .int .i64 m.f2] 38 (0, 0))) (v := .slice (some ⟨wb.heap.size, 0, none⟩) 1 1) (by rfl) rfl (by first | (go_simp; done) | (go_simp; rfl)) ?_
            have hb5 := below_alloc (Below.refl wb.heap.size wb) (.cells #[.int .i64 m.f0, .int .i64 m.f1, .int .i64 m.f2] 38 (0, 0))
            refine hK.out _ _ (hHeld.below hb5) (fun hHeld => ?_); clear hK K
            exact hc (A8', c8', w5.heap.size, wb.heap.size) _ ⟨Kd.R_below hO hb5, lit_now k38 base 38 (Reps.c3 (k38_mkM _ _ (fun _ => True) m) (Reps.none _ _)) (fun _ _ => trivial) trivial (Nat.le_trans HBB.out hb.size) (by simp), ((Moves.below hb1).trans (Moves.grown (Kd.R_below HG.out.rp hb1) hg)).trans (Moves.below hb5), hb.trans (hb5.mono (Nat.le_trans HBB.out hb.size))⟩
          · refine value_ (w1 := (w5.alloc (.cells #[.slice b0 s1.length e0, .slice b1 s2.length e1, .slice b2 s3.length e2, .int .i64 s4, .int .i64 s5] 41 (0, 0))).alloc (.cells #[.int .i64 m.f0, .int .i64 m.f1, .int .i64 m.f2] 38 (0, 0))) (v := .slice (some ⟨(w5.alloc (.cells #[.slice b0 s1.length e0, .slice b1 s2.length e1, .slice b2 s3.length e2, .int .i64 s4, .int .i64 s5] 41 (0, 0))).heap.size, 0, none⟩) 1 1) (by rfl) rfl (by first | (go_simp; done) | (go_simp; rfl)) ?_
            refine hK.out _ _ (hHeld.below hb3) (fun hHeld => ?_); clear hK K
            exact hc2 (w5.heap.size, (w5.alloc (.cells #[.slice b0 s1.length e0, .slice b1 s2.length e1, .slice b2 s3.length e2, .int .i64 s4, .int .i64 s5] 41 (0, 0))).heap.size) _ ⟨Kd.R_below hP1 hb3, lit_now k38 base 38 (Reps.c3 (k38_mkM _ _ (fun _ => True) m) (Reps.none _ _)) (fun _ _ => trivial) trivial (Nat.le_trans HBB.out hb1.size) (by simp), below_alloc hb1 _⟩
        · refine value_ (w1 := w5.alloc (.cells #[.int .i64 m.f0, .int .i64 m.f1, .int .i64 m.f2] 38 (0, 0))) (v := .slice (some ⟨w5.heap.size, 0, none⟩) 1 1) (by rfl) rfl (by first | (go_simp; done) | (go_simp; rfl)) ?_
          refine hK.out _ _ (hHeld.below hb2) (fun hHeld => ?_); clear hK K
          refine nr_ ?_
          refine one_ (i := 7) (N := some 38) (mk 22 32511) rfl rfl (one_of HT_.out (by kernel_rfl)) (by decide) (fun K hK => ?_)
          refine value_ (w1 := (w5.alloc (.cells #[.int .i64 m.f0, .int .i64 m.f1, .int .i64 m.f2] 38 (0, 0))).alloc (.cells #[.slice b0 s1.length e0, .slice b1 s2.length e1, .slice b2 s3.length e2, .int .i64 s4, .int .i64 s5] 41 (0, 0))) (v := .slice (some ⟨(w5.alloc (.cells #[.int .i64 m.f0, .int .i64 m.f1, .int .i64 m.f2] 38 (0, 0))).heap.size, 0, none⟩) 1 1) (by rfl) rfl (by first | (go_simp; done) | (go_simp; rfl)) ?_
          refine hK.out _ _ (hHeld.below hb4) (fun hHeld => ?_); clear hK K
          exact hc2 ((w5.alloc (.cells #[.int .i64 m.f0, .int .i64 m.f1, .int .i64 m.f2] 38 (0, 0))).heap.size, w5.heap.size) _ ⟨lit_now k41 base 41 (Reps.c5 (Kd.M_below HQ2.out hb2) (Reps.none _ _)) (fun _ _ => trivial) trivial (Nat.le_trans HBB.out hb2.size) (by simp), Kd.R_below (lit_now k38 base 38 (Reps.c3 (k38_mkM _ _ (fun _ => True) m) (Reps.none _ _)) (fun _ _ => trivial) trivial HBB.out (by simp)) hb4, below_alloc hb2 _⟩
      case cont2 =>
        rintro ⟨gs, gt⟩ wa ⟨hP, hMv, hB⟩
        dsimp only at hP hMv
        refine nr_ ?_
        refine one_ (i := 8) (N := some 39) (mk 22 32767) rfl rfl (one_of HT_.out (by kernel_rfl)) (by decide) (fun K hK => ?_)
        refine app_step k41 (w0 := w5) base (by rfl) (.tmp 36) (.tmp 38) 34 41 (.agg #[.slice none 0 0, .slice none 0 0, .slice none 0 0, .int .i64 0, .int .i64 0]) 88 rfl Try.underlying34 info41 rfl (by decide) (by omega) (by decide) (.slice A8 ps.length c8) ps [posQ s1 s2 s3 s4 s5] _ _ _ rfl rfl (Kd.R_below HG.out.rp hB) hP (hB.mono HBB.out) (Nat.le_trans HBB.out hB.size) (by have := H400.out; omega) ?_; intro v8 wb hO hb hg
        obtain ⟨A8', c8', rfl⟩ := Kd.R_slice hO
        refine hK.out _ _ (Cells.grown hg NL.out (HH.out.below hB)) (fun hHeld => ?_); clear hK K
        exact hc (A8', c8', gs, gt) _ ⟨hO, R_moves hMv (Moves.grown (Kd.R_below HG.out.rp hB) hg) (by decide), (Moves.below hB).trans (Moves.grown (Kd.R_below HG.out.rp hB) hg), hb⟩
    case cont =>
      rintro ⟨A8', c8', gs, gt⟩ wc ⟨hO, hMv, hm, hB⟩
      dsimp only at hO hMv hm hB
      refine nr_ ?_
      clear hHeld HH
      have HO := xm hO; have HM := xm (Moves.at hm BG.out (by decide)); have HB2 := xm hB
      have HR3 := xm (R_moves HG.out.r3 hm (by decide)); have HR4 := xm (R_moves HG.out.r4 hm (by decide)); have HR7 := xm (R_moves HG.out.r7 hm (by decide)); have HRM := xm (R_moves HG.out.rm hm (by decide)); have HGE := xm HG.out.ge
      clear BG HG hO hm hB NG NM NP NL
      refine last_ (i := 15) (N := some 46) (mk 22 65535) rfl rfl (one_of HT_.out (by kernel_rfl)) (by decide) (fun K hK => ?_)
      refine app_step k38 (w0 := w5) base (by rfl) (.tmp 43) (.tmp 45) 27 38 (.agg #[.int .i64 0, .int .i64 0, .int .i64 0]) 24 rfl Try.underlying27 info38 rfl (by decide) (by omega) (by decide) (.slice A9 ms.length c9) ms [m] _ _ _ rfl rfl HRM.out hMv HB2.out (Nat.le_trans HBB.out HB2.out.size) (by have := H400.out; have := HPS.out; omega) ?_; intro v9 wd hO' hb hg
      obtain ⟨A9', c9', rfl⟩ := Kd.R_slice hO'
      have hm := Moves.grown HRM.out hg
      have HO' := xm hO'
      replace HO := xm (R_moves HO.out hm (by decide)); replace HR3 := xm (R_moves HR3.out hm (by decide)); replace HR4 := xm (R_moves HR4.out hm (by decide)); replace HR7 := xm (R_moves HR7.out hm (by decide)); replace HM := xm (Moves.at hm HM.out (by decide))
      replace HB := xm ((HB.out.mono HBW.out).trans hb)
      refine hK.out _ _ ?_; clear hK K
      refine nr_ ?_
      clear hO' hm hg hb HRM HB2 hMv
      refine pu_ 16 47 HT_ ?_; refine pu_ 17 48 HT_ ?_
      have hcg := blkc13 HM.out
      refine last_ (i := 18) (N := none) (mk 22 524287) rfl rfl (one_of HT_.out (by kernel_rfl)) (by decide) (fun K hK => ?_)
      refine skip_ (w1 := wd.setCell ⟨g, 11, none⟩ (.slice A8' (ps ++ [posQ s1 s2 s3 s4 s5]).length c8')) (by rfl) rfl (by first | (go_simp; done) | (go_simp; rfl)) ?_
      refine hK.out _ _ ?_; clear hK K
      refine norm_ (a' := ?_) ?_ ?_; rotate_left; (· rfl)
      refine pu_ 19 49 HT_ ?_; refine pu_ 20 50 HT_ ?_
      refine last_ (i := 21) (N := none) (mk 22 4194303) rfl rfl (one_of HT_.out (by kernel_rfl)) (by decide) (fun K hK => ?_)
      refine skip_ (w1 := (wd.setCell ⟨g, 11, none⟩ (.slice A8' (ps ++ [posQ s1 s2 s3 s4 s5]).length c8')).setCell ⟨g, 12, none⟩ (.slice A9' (ms ++ [m]).length c9')) (by rfl) rfl (by first | (go_simp; done) | (go_simp; rfl)) ?_
      refine hK.out _ _ ?_; clear hK K
      refine norm_ (a' := ?_) ?_ ?_; rotate_left; (· rfl)
      refine done_ (done_of HT_.out (by kernel_rfl)) ?_
      have BG2 : Aside0 ((wd.setCell ⟨g, 11, none⟩ (.slice A8' (ps ++ [posQ s1 s2 s3 s4 s5]).length c8')).heap[g]? = some (.cells #[.string r.f0, .int .i64 r.f1, .int .i64 r.f2, .slice A3 r.f3.length c3, .slice A4 r.f4.length c4, .bool r.f5, .bool r.f6, .slice A7 r.f7.length c7, .int .i64 r.f8, .int .i64 r.f9, .int .i64 r.f10, .slice A8' (ps ++ [posQ s1 s2 s3 s4 s5]).length c8', .slice A9 ms.length c9] 133 (0, 0))) := ⟨xQ HM⟩
      have BG3 : Aside0 (((wd.setCell ⟨g, 11, none⟩ (.slice A8' (ps ++ [posQ s1 s2 s3 s4 s5]).length c8')).setCell ⟨g, 12, none⟩ (.slice A9' (ms ++ [m]).length c9')).heap[g]? = some (.cells #[.string r.f0, .int .i64 r.f1, .int .i64 r.f2, .slice A3 r.f3.length c3, .slice A4 r.f4.length c4, .bool r.f5, .bool r.f6, .slice A7 r.f7.length c7, .int .i64 r.f8, .int .i64 r.f9, .int .i64 r.f10, .slice A8' (ps ++ [posQ s1 s2 s3 s4 s5]).length c8', .slice A9' (ms ++ [m]).length c9'] 133 (0, 0))) := ⟨xQ HM⟩
      have hm : Moves 133 wd ((wd.setCell ⟨g, 11, none⟩ (.slice A8' (ps ++ [posQ s1 s2 s3 s4 s5]).length c8')).setCell ⟨g, 12, none⟩ (.slice A9' (ms ++ [m]).length c9')) := (Moves.set HM.out _ _).trans (Moves.set BG2.out _ _)
      have HB3 : Aside0 (Below base W ((wd.setCell ⟨g, 11, none⟩ (.slice A8' (ps ++ [posQ s1 s2 s3 s4 s5]).length c8')).setCell ⟨g, 12, none⟩ (.slice A9' (ms ++ [m]).length c9'))) := ⟨(HB.out.setCell HGE.out _).setCell HGE.out _⟩
      have hG : GameIn ((wd.setCell ⟨g, 11, none⟩ (.slice A8' (ps ++ [posQ s1 s2 s3 s4 s5]).length c8')).setCell ⟨g, 12, none⟩ (.slice A9' (ms ++ [m]).length c9')) base g A3 c3 A4 c4 A7 c7 A8' c8' A9' c9' r (ps ++ [posQ s1 s2 s3 s4 s5]) (ms ++ [m]) := ⟨HGE.out, BG3.out, R_moves HR3.out hm (by decide), R_moves HR4.out hm (by decide), R_moves HR7.out hm (by decide), R_moves HO.out hm (by decide), R_moves HO'.out hm (by decide)⟩
      have HG := xm hG
      clear hG hm HM BG2 BG3 HO HO' HR3 HR4 HR7 hcg HB
      generalize ((wd.setCell ⟨g, 11, none⟩ (.slice A8' (ps ++ [posQ s1 s2 s3 s4 s5]).length c8')).setCell ⟨g, 12, none⟩ (.slice A9' (ms ++ [m]).length c9')) = we at HG HB3 ⊢
      go_wp2
      go_ret
      exact ⟨rfl, ⟨H400.out, A8', c8', A9', c9', HG.out⟩, HB3.out⟩
/-- the moves, one by one -/
def pl_run (k : Nat) (c : S26) : List S38 → List S41 → Option (List S41 × Int)
  | [], ps => some (ps, 0)
  | m :: l, ps => (pl_play k c ps m).bind fun q => if q.1 = 0 then pl_run k c l (ps ++ [q.2]) else some ([], q.1)
def pl_end (k : Nat) (c : S26) (z : List S41 × Int) : Option (List Int × List Int × List Int × Int × Int × Int × Int) := if z.2 = 0 then
    ((place_Copy.f (lastP z.1).f0 (lastP z.1).f1.f0 (lastP z.1).f1.f1 (lastP z.1).f2 (lastP z.1).f3).bind fun t => (pl_result k c z.1).bind fun x => some (t.1, t.2.1, t.2.2.1, t.2.2.2.1, t.2.2.2.2, x, 0))
    else some ([], [], [], 0, 0, 0, z.2)
def pl_all (k : Nat) (r : S26) (l : List S38) : Option (List Int × List Int × List Int × Int × Int × Int × Int) := (place_Begin.f k r.f0 r.f1 r.f2 r.f3 r.f4 r.f5 r.f6 r.f7 r.f8 r.f9 r.f10).bind fun q => if q.2.2.2.2.2 = 0 then
    ((copied k r).bind fun c => (pl_run k c l [posQ q.1 q.2.1 q.2.2.1 q.2.2.2.1 q.2.2.2.2.1]).bind (pl_end k c))
    else some ([], [], [], 0, 0, 0, q.2.2.2.2.2)
def plain_Run.f (k : Nat) (a0 : ByteArray) (a1 a2 : Int) (l3 : List S104) (l4 : List Int) (a5 a6 : Bool) (l7 : List S98) (a8 a9 a10 : Int) (l : List S38) : Option (List Int × List Int × List Int × Int × Int × Int × Int) := pl_all k ⟨a0, a1, a2, l3, l4, a5, a6, l7, a8, a9, a10⟩ l
theorem pl_run.mono (c : S26) (k : Nat) : ∀ (l : List S38) (ps : List S41), LeO (pl_run k c l ps) (pl_run (k + 1) c l ps)
  | [], ps => LeO.refl _
  | m :: l, ps => by
    unfold pl_run
    exact LeO.bind (pl_play.mono _ _ _ _) (fun q => LeO.ite (pl_run.mono c k l _) (LeO.refl _))
theorem pl_end.mono (c : S26) (z : List S41 × Int) (k : Nat) : LeO (pl_end k c z) (pl_end (k + 1) c z) := by
  unfold pl_end
  exact LeO.ite (LeO.bind (LeO.refl _) (fun _ => LeO.bind (pl_result.mono _ _ _) (fun _ => LeO.refl _))) (LeO.refl _)
theorem copied.mono (r : S26) (k : Nat) : LeO (copied k r) (copied (k + 1) r) := by
  unfold copied
  exact LeO.bind (rules_Copy.mono _ _ _ _ _ _ _ _ _ _ _ _) (fun _ => LeO.refl _)
theorem plain_Run.mono : ∀ a0 a1 a2 a3 a4 a5 a6 a7 a8 a9 a10 a11 k, LeO (plain_Run.f k a0 a1 a2 a3 a4 a5 a6 a7 a8 a9 a10 a11) (plain_Run.f (k + 1) a0 a1 a2 a3 a4 a5 a6 a7 a8 a9 a10 a11) := by
  intros
  unfold plain_Run.f pl_all
  exact LeO.bind (place_Begin.mono _ _ _ _ _ _ _ _ _ _ _ _) (fun _ => LeO.ite (LeO.bind (copied.mono _ _) (fun _ => LeO.bind (pl_run.mono _ _ _ _) (fun _ => pl_end.mono _ _ _))) (LeO.refl _))
theorem below_game {W : World} {base g : Nat} {A3 : Option Addr} {c3 : Nat} {A4 : Option Addr} {c4 : Nat} {A7 : Option Addr} {c7 : Nat} {A8 : Option Addr} {c8 : Nat} {A9 : Option Addr} {c9 : Nat} {r : S26} {ps : List S41} {ms : List S38} (_ : GameIn W base g A3 c3 A4 c4 A7 c7 A8 c8 A9 c9 r ps ms) : Below W.heap.size W W := Below.refl _ _
abbrev worldOf {W : World} {base g : Nat} {A3 : Option Addr} {c3 : Nat} {A4 : Option Addr} {c4 : Nat} {A7 : Option Addr} {c7 : Nat} {A8 : Option Addr} {c8 : Nat} {A9 : Option Addr} {c9 : Nat} {r : S26} {ps : List S41} {ms : List S38} (_ : GameIn W base g A3 c3 A4 c4 A7 c7 A8 c8 A9 c9 r ps ms) : World := W
theorem run_any (k : Nat) (r : S26) {A3 : Option Addr} {c3 : Nat} {A4 : Option Addr} {c4 : Nat} {A7 : Option Addr} {c7 : Nat} {A1 : Option Addr} {c1 : Nat} (l : List S38) (x1 x2 x3 : List Int) (x4 x5 x6 x7 : Int) (w : World)
    (hr : RIn w A3 c3 A4 c4 A7 c7 r) (hm : Kd.C k38 w A1 l.length l) (hl : l.length ≤ c1) (h : pl_all k r l = some (x1, x2, x3, x4, x5, x6, x7)) :
    Calls Try.prog 35 #[.agg (rulesV A3 c3 A4 c4 A7 c7 r).toArray, .slice A1 l.length c1] w fun e w' => ∃ v0_ v1_ v2_ : Value, e = .returned (.tuple #[.agg #[v0_, v1_, v2_, .int .i64 x4, .int .i64 x5], .int .i64 x6, .int .i64 x7]) ∧ Kd.R (Kd.int .i64) 3 w' w.heap.size (fun k_ => some k_ ≠ (v1_ : Value).ownBlock ∧ some k_ ≠ (v2_ : Value).ownBlock) v0_ x1 ∧ Kd.R (Kd.int .i64) 3 w' w.heap.size (fun k_ => some k_ ≠ (v0_ : Value).ownBlock ∧ some k_ ≠ (v2_ : Value).ownBlock) v1_ x2 ∧ Kd.R (Kd.int .i64) 3 w' w.heap.size (fun k_ => some k_ ≠ (v0_ : Value).ownBlock ∧ some k_ ≠ (v1_ : Value).ownBlock) v2_ x3 ∧ Below w.heap.size w w' := by
  have hu26 := Try.underlying26
  have hu41 := Try.underlying41
  have hu38 := Try.underlying38
  have HR := xm hr
  have HM := xm hm
  have HL := xm hl
  clear hr hm hl
  have HB := xm (Below.refl w.heap.size w)
  have hss_ := @isSome_setCell
  unfold pl_all at h
  obtain ⟨⟨t1, t2, t3, t4, t5, t6⟩, AB, h⟩ := xH h
  dsimp only at h
  unfold rulesV
  by_cases h6 : t6 = 0
  rotate_left
  · rw [if_neg h6] at h
    simp only [Option.some.injEq, Prod.mk.injEq] at h
    obtain ⟨rfl, rfl, rfl, rfl, rfl, rfl, rfl⟩ := h
    have h6a := beq_eq_false_iff_ne.mpr h6
    have h6b := bne_iff_ne.mpr h6
    go_enter Try.func35, Try.ntmps35
    go_wp2_with (first
      | ((with_reducible refine gate_dst (N := 2) rfl ?_); refine xG (cs := #[.string r.f0, .int .i64 r.f1, .int .i64 r.f2, .slice A3 r.f3.length c3, .slice A4 r.f4.length c4, .bool r.f5, .bool r.f6, .slice A7 r.f7.length c7, .int .i64 r.f8, .int .i64 r.f9, .int .i64 r.f10]) (t := 26) ?_; intro gb hg w1 hbox hb; have BK := xm hbox; replace HB := xS HB hb; clear hb hbox hg)
      | ((with_reducible refine gate_dst (N := 4) rfl ?_); refine xG (cs := #[.slice none 0 0, .slice none 0 0, .slice none 0 0, .int .i64 0, .int .i64 0]) (t := 41) ?_; intro g4 hg w2 hbox hb; have B4 := xm hbox; have GW := xZ HB hg; replace BK := xB BK hb; replace HB := xS HB hb; clear hb hbox hg; have hcz := blkc11 BK.out)
      | ((with_reducible refine gate_callee (f := 52) rfl ?_); refine xL (some 14) Try.func52 #[.agg #[.string r.f0, .int .i64 r.f1, .int .i64 r.f2, .slice A3 r.f3.length c3, .slice A4 r.f4.length c4, .bool r.f5, .bool r.f6, .slice A7 r.f7.length c7, .int .i64 r.f8, .int .i64 r.f9, .int .i64 r.f10]] rfl ?_; refine (new_any (c := r) k (HR.out.below (xW HB)) AB.out (fun e => absurd e h6)).mono ?_; rintro e w3 ⟨v, rfl, hv0, hv, hb⟩; obtain rfl := hv0 h6; refine ⟨_, rfl, ?_⟩; replace B4 := xB B4 hb; replace HB := xS HB hb; clear hb hv hv0; have hcq := blkc5 B4.out))
    have B5 : Aside0 ((((((w3.setCell ⟨g4, 0, none⟩ (.slice none 0 0)).setCell ⟨g4, 1, none⟩ (.slice none 0 0)).setCell ⟨g4, 2, none⟩ (.slice none 0 0)).setCell ⟨g4, 3, none⟩ (.int .i64 0)).setCell ⟨g4, 4, none⟩ (.int .i64 0)).heap[g4]? = some (.cells #[.slice none 0 0, .slice none 0 0, .slice none 0 0, .int .i64 0, .int .i64 0] 41 (0, 0))) := ⟨xQ B4⟩
    have HB5 : Aside0 (Below w.heap.size w (((((w3.setCell ⟨g4, 0, none⟩ (.slice none 0 0)).setCell ⟨g4, 1, none⟩ (.slice none 0 0)).setCell ⟨g4, 2, none⟩ (.slice none 0 0)).setCell ⟨g4, 3, none⟩ (.int .i64 0)).setCell ⟨g4, 4, none⟩ (.int .i64 0))) := ⟨xW HB⟩
    clear B4 HB hcq
    generalize (((((w3.setCell ⟨g4, 0, none⟩ (.slice none 0 0)).setCell ⟨g4, 1, none⟩ (.slice none 0 0)).setCell ⟨g4, 2, none⟩ (.slice none 0 0)).setCell ⟨g4, 3, none⟩ (.int .i64 0)).setCell ⟨g4, 4, none⟩ (.int .i64 0)) = wn at B5 HB5 ⊢
    have hcq := blkc5 B5.out
    exact bodyPost_ret (v := .tuple #[.agg #[.slice none 0 0, .slice none 0 0, .slice none 0 0, .int .i64 0, .int .i64 0], .int .i64 0, .int .i64 t6]) (by simp [results, Try.results35, go_sem, hcq, hu41]) rfl ⟨_, _, _, rfl, Kd.R_nil _ _ _ _ _, Kd.R_nil _ _ _ _ _, Kd.R_nil _ _ _ _ _, HB5.out⟩
  subst h6
  rw [if_pos rfl] at h
  obtain ⟨c, AC, h⟩ := xH h
  obtain ⟨⟨zs, zy⟩, AZ, h⟩ := xH h
  have HE := xm h
  clear h
  go_enter Try.func35, Try.ntmps35
  go_upto_region 2 with (first
      | ((with_reducible refine gate_dst (N := 2) rfl ?_); refine xG (cs := #[.string r.f0, .int .i64 r.f1, .int .i64 r.f2, .slice A3 r.f3.length c3, .slice A4 r.f4.length c4, .bool r.f5, .bool r.f6, .slice A7 r.f7.length c7, .int .i64 r.f8, .int .i64 r.f9, .int .i64 r.f10]) (t := 26) ?_; intro gb hg w1 hbox hb; have BK := xm hbox; replace HB := xS HB hb; clear hb hbox hg)
      | ((with_reducible refine gate_dst (N := 4) rfl ?_); refine xG (cs := #[.slice none 0 0, .slice none 0 0, .slice none 0 0, .int .i64 0, .int .i64 0]) (t := 41) ?_; intro g4 hg w2 hbox hb; have B4 := xm hbox; have GW := xZ HB hg; replace BK := xB BK hb; replace HB := xS HB hb; clear hb hbox hg; have hcz := blkc11 BK.out)
      | ((with_reducible refine gate_callee (f := 52) rfl ?_); refine xL (some 14) Try.func52 #[.agg #[.string r.f0, .int .i64 r.f1, .int .i64 r.f2, .slice A3 r.f3.length c3, .slice A4 r.f4.length c4, .bool r.f5, .bool r.f6, .slice A7 r.f7.length c7, .int .i64 r.f8, .int .i64 r.f9, .int .i64 r.f10]] rfl ?_; refine (new_any (c := c) k (HR.out.below (xW HB)) AB.out (fun _ => AC.out)).mono ?_; rintro e w3 ⟨v, rfl, hv0, hv, hb⟩; obtain ⟨g, rfl, B3, b3, B4_, b4, B7, b7, A8, c8, hG⟩ := hv rfl; refine ⟨_, rfl, ?_⟩; have HG := xm hG; have HX := xm hb; have HB0 := HB; clear hb hv hv0 hG))
  go_wp2
  clear hcz BK
  go_loopg [23] l.length (fun kq v23 w' => ∃ (i : Nat) (j : Int) (ps : List S41) (ms : List S38) (A8 : Option Addr) (c8 : Nat) (A9 : Option Addr) (c9 : Nat), v23 = .int .i64 j ∧ Aside0 (j = (i : Int)) ∧ Aside0 (i + kq = l.length) ∧ Aside0 (pl_run k c (l.drop i) ps = some (zs, zy)) ∧ Aside0 (ps.length = ms.length + 1) ∧ Aside0 (ps.length ≤ 401) ∧ Aside0 (GameIn w' w2.heap.size g B3 b3 B4_ b4 B7 b7 A8 c8 A9 c9 c ps ms) ∧ Aside0 (Below w2.heap.size w2 w'))
  case atStart => exact ⟨0, 0, _, _, _, _, _, _, rfl, ⟨rfl⟩, ⟨Nat.zero_add _⟩, by rw [List.drop_zero]; exact AZ, ⟨rfl⟩, ⟨by simp⟩, HG, HX⟩
  case round =>
    clear AZ HG HX
    obtain ⟨i, j, ps, ms, A8', c8', A9', c9', rfl, HJ, HI, HZ, HPS, HP4, HG, HX⟩ := hrel
    have HP0 := xm (show 0 < ps.length from by have := HPS.out; omega)
    replace HB := xm (below_step HB.out HX.out)
    by_cases hlt : i < l.length
    rotate_left
    · have H1 := HZ.out
      rw [List.drop_of_length_le (by omega), pl_run] at H1
      simp only [Option.some.injEq, Prod.mk.injEq] at H1
      obtain ⟨rfl, rfl⟩ := H1
      have hlt' : decide (j < (l.length : Int)) = false := decide_eq_false (by have := HJ.out; omega)
      have H2 := HE.out
      unfold pl_end at H2
      rw [if_pos rfl] at H2
      obtain ⟨⟨p1, p2, p3, p4, p5⟩, AP, H2⟩ := xH H2
      obtain ⟨x, AX, H2⟩ := xH H2
      simp only [Option.some.injEq, Prod.mk.injEq] at H2
      obtain ⟨rfl, rfl, rfl, rfl, rfl, rfl, rfl⟩ := H2
      clear HZ hlt HE
      replace B4 := xm (blk_below B4.out HX.out)
      go_wp2_with (first
        | ((with_reducible refine gate_callee (f := 54) rfl ?_); refine xL (some 36) Try.func54 #[.pointer (some ⟨g, 0, none⟩)] rfl ?_; refine (pos_any HG.out HP0.out HP4.out AP.out).mono ?_; rintro e wp ⟨G0, g0, G1, g1, G2, g2, rfl, hP, hb⟩; refine ⟨_, rfl, ?_⟩; have HP := xm (hP.lower HB.out.size); replace HG := xm (HG.out.below hb); replace B4 := xB B4 hb; replace HB := xS HB hb; clear hP hb)
        | ((with_reducible refine gate_callee (f := 55) rfl ?_); refine xL (some 38) Try.func55 #[.pointer (some ⟨g, 0, none⟩)] rfl ?_; refine (gres_any k HG.out HP0.out HP4.out AX.out).mono ?_; rintro e wq ⟨rfl, hb⟩; refine ⟨_, rfl, ?_⟩; replace HP := xm (HP.out.below hb); replace B4 := xB B4 hb; replace HB := xS HB hb; clear hb; have hcq := blkc5 B4.out))
      have B5 : Aside0 ((((((wq.setCell ⟨g4, 0, none⟩ (.slice G0 p1.length g0)).setCell ⟨g4, 1, none⟩ (.slice G1 p2.length g1)).setCell ⟨g4, 2, none⟩ (.slice G2 p3.length g2)).setCell ⟨g4, 3, none⟩ (.int .i64 p4)).setCell ⟨g4, 4, none⟩ (.int .i64 p5)).heap[g4]? = some (.cells #[.slice G0 p1.length g0, .slice G1 p2.length g1, .slice G2 p3.length g2, .int .i64 p4, .int .i64 p5] 41 (0, 0))) := ⟨xQ B4⟩
      have HB5 : Aside0 (Below w.heap.size w (((((wq.setCell ⟨g4, 0, none⟩ (.slice G0 p1.length g0)).setCell ⟨g4, 1, none⟩ (.slice G1 p2.length g1)).setCell ⟨g4, 2, none⟩ (.slice G2 p3.length g2)).setCell ⟨g4, 3, none⟩ (.int .i64 p4)).setCell ⟨g4, 4, none⟩ (.int .i64 p5))) := ⟨xW HB⟩
      have HP5 := xm (HP.out.far5 B4.out (.slice G0 p1.length g0) (.slice G1 p2.length g1) (.slice G2 p3.length g2) (.int .i64 p4) (.int .i64 p5))
      clear B4 HB HP hcq
      generalize (((((wq.setCell ⟨g4, 0, none⟩ (.slice G0 p1.length g0)).setCell ⟨g4, 1, none⟩ (.slice G1 p2.length g1)).setCell ⟨g4, 2, none⟩ (.slice G2 p3.length g2)).setCell ⟨g4, 3, none⟩ (.int .i64 p4)).setCell ⟨g4, 4, none⟩ (.int .i64 p5)) = wn at B5 HB5 HP5 ⊢
      have hcq := blkc5 B5.out
      exact bodyPost_ret (v := .tuple #[.agg #[.slice G0 p1.length g0, .slice G1 p2.length g1, .slice G2 p3.length g2, .int .i64 p4, .int .i64 p5], .int .i64 x, .int .i64 0]) (by simp [results, Try.results35, go_sem, hcq, hu41]) rfl ⟨_, _, _, rfl, HP5.out.h0, HP5.out.h1, HP5.out.h2, HB5.out⟩
    have H1 := HZ.out
    rw [List.drop_eq_getElem_cons hlt, pl_run] at H1
    have hmi : rd_T38 l j = l[i] := by rw [HJ.out]; simp [rd_T38, List.getD_eq_getElem?_getD, hlt]
    have hj0 : 0 ≤ j := by have := HJ.out; omega
    have hj1 : j < (l.length : Int) := by have := HJ.out; omega
    obtain ⟨ad, eA, z0, z1, z2⟩ := at_T38 HM.out j hj0 hj1
    subst eA
    rw [hmi] at z0 z1 z2
    clear HZ
    generalize l[i] = m at H1 z0 z1 z2 hmi
    clear hmi
    obtain ⟨⟨y, p⟩, AY, H1⟩ := xH H1
    dsimp only at H1
    have HLT : Aside0 (i < l.length) := ⟨hlt⟩
    have p0 : (0 ≤ j) = True := eq_true hj0
    have q0 : (j < (l.length : Int)) = True := eq_true hj1
    have q1 : decide (j < (l.length : Int)) = true := decide_eq_true hj1
    have H2 := xm H1
    obtain ⟨k1, rfl⟩ : ∃ k1, gk = k1 + 1 := ⟨gk - 1, by have := HI.out; omega⟩
    obtain ⟨jn, hjn⟩ : ∃ jn : Int, wrap64 (j + 1) = jn := ⟨_, rfl⟩
    have hjn' : IntKind.i64.wrap (j + 1) = jn := (i64_w _).trans hjn
    have HJN := xm hjn
    clear H1 hlt hj0 hj1 hjn
    replace z0 := xR HB z0; replace z1 := xR HB z1; replace z2 := xR HB z2
    have HY := xm (below_game HG.out)
    go_upto_region 7 with ((with_reducible refine gate_dst (N := 10) rfl ?_); refine xG (cs := #[.int .i64 0, .int .i64 0, .int .i64 0]) (t := 38) ?_; intro gm hg wa hbox hb; have BM := xm hbox; have GY := xZ HY hg; replace z0 := (hb.cell (World.block_lt_of_cell? _ _ z0)).trans z0; replace z1 := (hb.cell (World.block_lt_of_cell? _ _ z1)).trans z1; replace z2 := (hb.cell (World.block_lt_of_cell? _ _ z2)).trans z2; replace HY := xS HY hb; clear hb hbox hg; have hcm := blkc3 BM.out)
    have BM2 : Aside0 ((((wa.setCell ⟨gm, 0, none⟩ (.int .i64 m.f0)).setCell ⟨gm, 1, none⟩ (.int .i64 m.f1)).setCell ⟨gm, 2, none⟩ (.int .i64 m.f2)).heap[gm]? = some (.cells #[.int .i64 m.f0, .int .i64 m.f1, .int .i64 m.f2] 38 (0, 0))) := ⟨xQ BM⟩
    have HY2 : Aside0 (Below (worldOf HG.out).heap.size (worldOf HG.out) (((wa.setCell ⟨gm, 0, none⟩ (.int .i64 m.f0)).setCell ⟨gm, 1, none⟩ (.int .i64 m.f1)).setCell ⟨gm, 2, none⟩ (.int .i64 m.f2))) := ⟨xW HY⟩
    clear BM HY hcm z0 z1 z2
    generalize (((wa.setCell ⟨gm, 0, none⟩ (.int .i64 m.f0)).setCell ⟨gm, 1, none⟩ (.int .i64 m.f1)).setCell ⟨gm, 2, none⟩ (.int .i64 m.f2)) = wb at BM2 HY2 ⊢
    have hcm := blkc3 BM2.out
    replace HG := xm (HG.out.below HY2.out)
    replace HX := xm (below_step HX.out HY2.out)
    replace HB := xm (below_step HB.out HY2.out)
    clear HY2 BM2 GY
    by_cases hy : y = 0
    rotate_left
    · have H1 := H2.out; rw [if_neg hy] at H1
      have hya := beq_eq_false_iff_ne.mpr hy
      have hyb := bne_iff_ne.mpr hy
      simp only [Option.some.injEq, Prod.mk.injEq] at H1
      obtain ⟨rfl, rfl⟩ := H1
      have H3 := HE.out
      unfold pl_end at H3
      rw [if_neg hy] at H3
      simp only [Option.some.injEq, Prod.mk.injEq] at H3
      obtain ⟨rfl, rfl, rfl, rfl, rfl, rfl, rfl⟩ := H3
      clear H2 HE
      go_wp2_with ((with_reducible refine gate_callee (f := 53) rfl ?_); refine xL (some 29) Try.func53 #[.pointer (some ⟨g, 0, none⟩), .agg #[.int .i64 m.f0, .int .i64 m.f1, .int .i64 m.f2]] rfl ?_; refine (play_any k HG.out HPS.out HP4.out AY.out).mono ?_; rintro e wc ⟨rfl, _, hb⟩; refine ⟨_, rfl, ?_⟩; replace HX := xm (HX.out.trans hb); replace B4 := xm (blk_below B4.out HX.out); replace HB := xm (below_step HB0.out HX.out); clear hb HX; have hcq := blkc5 B4.out)
      have B5 : Aside0 ((((((wc.setCell ⟨g4, 0, none⟩ (.slice none 0 0)).setCell ⟨g4, 1, none⟩ (.slice none 0 0)).setCell ⟨g4, 2, none⟩ (.slice none 0 0)).setCell ⟨g4, 3, none⟩ (.int .i64 0)).setCell ⟨g4, 4, none⟩ (.int .i64 0)).heap[g4]? = some (.cells #[.slice none 0 0, .slice none 0 0, .slice none 0 0, .int .i64 0, .int .i64 0] 41 (0, 0))) := ⟨xQ B4⟩
      have HB5 : Aside0 (Below w.heap.size w (((((wc.setCell ⟨g4, 0, none⟩ (.slice none 0 0)).setCell ⟨g4, 1, none⟩ (.slice none 0 0)).setCell ⟨g4, 2, none⟩ (.slice none 0 0)).setCell ⟨g4, 3, none⟩ (.int .i64 0)).setCell ⟨g4, 4, none⟩ (.int .i64 0))) := ⟨xW HB⟩
      clear B4 HB hcq
      generalize (((((wc.setCell ⟨g4, 0, none⟩ (.slice none 0 0)).setCell ⟨g4, 1, none⟩ (.slice none 0 0)).setCell ⟨g4, 2, none⟩ (.slice none 0 0)).setCell ⟨g4, 3, none⟩ (.int .i64 0)).setCell ⟨g4, 4, none⟩ (.int .i64 0)) = wn at B5 HB5 ⊢
      have hcq := blkc5 B5.out
      exact bodyPost_ret (v := .tuple #[.agg #[.slice none 0 0, .slice none 0 0, .slice none 0 0, .int .i64 0, .int .i64 0], .int .i64 0, .int .i64 y]) (by simp [results, Try.results35, go_sem, hcq, hu41]) rfl ⟨_, _, _, rfl, Kd.R_nil _ _ _ _ _, Kd.R_nil _ _ _ _ _, Kd.R_nil _ _ _ _ _, HB5.out⟩
    · subst hy
      have H1 := H2.out; rw [if_pos rfl] at H1
      have H3 := xm H1
      clear H1 H2
      go_wp2_with ((with_reducible refine gate_callee (f := 53) rfl ?_); refine xL (some 29) Try.func53 #[.pointer (some ⟨g, 0, none⟩), .agg #[.int .i64 m.f0, .int .i64 m.f1, .int .i64 m.f2]] rfl ?_; refine (play_any k HG.out HPS.out HP4.out AY.out).mono ?_; rintro e wc ⟨rfl, hN, hb⟩; refine ⟨_, rfl, ?_⟩; obtain ⟨h400, A8n, c8n, A9n, c9n, hGn⟩ := hN rfl; have H400 := xm h400; replace HG := xm hGn; replace HX := xm (HX.out.trans hb); clear hb hGn h400 hN hcm)
      go_roundg k1
      case measure => omega
      case rel =>
        have hlm := HM.out.2.1
        have hj2 : jn = ((i + 1 : Nat) : Int) := by rw [← HJN.out, HJ.out]; unfold wrap64; have := HLT.out; omega
        exact ⟨i + 1, jn, _, _, _, _, _, _, (xrf), ⟨hj2⟩, ⟨by have := HI.out; omega⟩, H3, ⟨by rw [List.length_append, List.length_append, HPS.out]; rfl⟩, ⟨by rw [List.length_append, List.length_singleton]; have := H400.out; omega⟩, HG, HX⟩
/-- the printed form -/
theorem plain_Run.calls (k : Nat) (a0_0 : ByteArray) (a0_1 : Int) (a0_2 : Int) (A0_3 : Option Addr) (c0_3 : Nat) (l0_3 : List S104) (A0_4 : Option Addr) (c0_4 : Nat) (l0_4 : List Int) (a0_5 : Bool) (a0_6 : Bool) (A0_7 : Option Addr) (c0_7 : Nat) (l0_7 : List S98) (a0_8 : Int) (a0_9 : Int) (a0_10 : Int) (A1 : Option Addr) (c1 : Nat) (l1 : List S38) (x1 x2 x3 : List Int) (x4 x5 x6 x7 : Int) (w : World) (hr0_3 : Kd.C k104 w A0_3 l0_3.length l0_3) (hc0_3 : l0_3.length ≤ c0_3) (hr0_4 : Kd.C (Kd.int .i64) w A0_4 l0_4.length l0_4) (hc0_4 : l0_4.length ≤ c0_4) (hr0_7 : Kd.C k98 w A0_7 l0_7.length l0_7) (hc0_7 : l0_7.length ≤ c0_7) (hr1 : Kd.C k38 w A1 l1.length l1) (hc1 : l1.length ≤ c1) (h : plain_Run.f k a0_0 a0_1 a0_2 l0_3 l0_4 a0_5 a0_6 l0_7 a0_8 a0_9 a0_10 l1 = some (x1, x2, x3, x4, x5, x6, x7)) :
    Calls Try.prog 35 #[.agg #[.string a0_0, .int .i64 a0_1, .int .i64 a0_2, .slice A0_3 l0_3.length c0_3, .slice A0_4 l0_4.length c0_4, .bool a0_5, .bool a0_6, .slice A0_7 l0_7.length c0_7, .int .i64 a0_8, .int .i64 a0_9, .int .i64 a0_10], .slice A1 l1.length c1] w fun e w' => ∃ v0_ v1_ v2_ : Value, e = .returned (.tuple #[.agg #[v0_, v1_, v2_, .int .i64 x4, .int .i64 x5], .int .i64 x6, .int .i64 x7]) ∧ Kd.R (Kd.int .i64) 3 w' w.heap.size (fun k_ => some k_ ≠ (v1_ : Value).ownBlock ∧ some k_ ≠ (v2_ : Value).ownBlock) v0_ x1 ∧ Kd.R (Kd.int .i64) 3 w' w.heap.size (fun k_ => some k_ ≠ (v0_ : Value).ownBlock ∧ some k_ ≠ (v2_ : Value).ownBlock) v1_ x2 ∧ Kd.R (Kd.int .i64) 3 w' w.heap.size (fun k_ => some k_ ≠ (v0_ : Value).ownBlock ∧ some k_ ≠ (v1_ : Value).ownBlock) v2_ x3 ∧ Below w.heap.size w w' :=
  run_any k ⟨a0_0, a0_1, a0_2, l0_3, l0_4, a0_5, a0_6, l0_7, a0_8, a0_9, a0_10⟩ l1 x1 x2 x3 x4 x5 x6 x7 w ⟨hc0_3, hr0_3, hc0_4, hr0_4, hc0_7, hr0_7⟩ hr1 hc1 h
end Go.Proofs.Ytkpphlimnnifkaa.PClaimCounts
