/- swiss.Pair, by hand. -/
import Derived.Test.YtemfkhafkhkffaaSwTry
namespace Go.Proofs.Ytemfkhafkhkffaa.PSwissPairs
open Go.RowKit Go.Proofs.YtemfkhafkhkffaaW.PrintWords Go.Proofs.YtemfkhafkhkffaaW.PrintLast Go.Proofs.YtemfkhafkhkffaaW.PrintMore
set_option maxHeartbeats 4000000
set_option maxRecDepth 100000
set_option linter.unusedVariables false
set_option linter.unusedSimpArgs false
theorem info39 : (Try.prog.info? 39).map (fun i => (i.zero, i.size, i.bytes)) = some (some (.agg #[.int .i64 0, .int .i64 0]), 2, 16) := by kernel_rfl
section
variable {P : Program} {ops : Array Oper} {rest : List Oper} {o : Oper} {a : Act} {Q : Exit → Act → World → Prop}
/-- a row of zeros, as a block -/
theorem make_ints {W : World} (n : Nat) {t : TypeId} {x y : Operand} (ho : o.op = .makeSlice t x y) (hx : a.eval x = .int .i64 (n : Int)) (hy : a.eval y = .int .i64 (n : Int)) (ht : P.underlying t = some (.slice 3)) (hinfo : (P.info? 3).map (fun i => (i.zero, i.size, i.bytes)) = some (some (.int .i64 0), 1, 8)) (hl : n ≤ 8)
    (h : ∀ g, g = W.heap.size → ∀ w1, w1.heap[g]? = some (.cells ⟨(List.replicate n (0 : Int)).map (Value.int .i64)⟩ 3 (0, 0)) → Below W.heap.size W w1 → wpList P ops Q rest (a.put o.dst (.slice (some ⟨g, 0, none⟩) n n)) w1)
    (hgd : o.guard = none := by rfl) : wpList P ops Q (o :: rest) a W := by
  obtain ⟨i0, hi, hzz⟩ := Option.map_eq_some_iff.1 hinfo
  simp only [Prod.mk.injEq] at hzz
  obtain ⟨hz0, hz1, hz2⟩ := hzz
  have hr := run_make (P := P) W t 3 i0 (.int .i64 0) ht hi hz0 .i64 .i64 (n : Int) (n : Int) (by omega) (by omega) (by rw [hz2]; omega) (by omega)
  simp only [Int.toNat_natCast] at hr
  have hcells : madeCells (Value.int .i64 0).cells (n * i0.size) = ⟨(List.replicate n (0 : Int)).map (Value.int .i64)⟩ := by
    rw [hz1, Nat.mul_one, List.map_replicate]
    exact Array.ext' (toList_madeCells_one (.int .i64 0) n)
  rw [hcells] at hr
  refine Kd.event_run hgd ?_ (h _ rfl _ (blk_new W _) (below_alloc (Below.refl _ _) _))
  unfold execOp
  rw [ho]
  simp [hx, hy, hr]
end
theorem row_apart {α β : Type} {d : Kd α} {d' : Kd β} {w : World} {base base' e e' : Nat} {ok ok' : Nat → Prop} {u v : Value} {xs : List α} {ys : List β} (h : d.R e w base ok v xs) (hy : d'.R e' w base' ok' u ys) (hE : ∀ q, q ∈ e :: d.E → q ≠ e') : d.R e w base (fun k => ok k ∧ some k ≠ u.ownBlock) v xs :=
  Kd.R_mono (Kd.R_bound h) (fun k hk => ⟨hk.1, fun he => by
    obtain ⟨_, _, _, q, hq, cells, hc⟩ := hk
    exact Kd.R_ne hy hc (fun e2 => hE q hq e2.symm) he⟩)
theorem TB.grown {w0 : World} {g gp : Nat} {A : Option Addr} {cl : Nat} {l : List S33} {wl : List Int} {bo : Option (List Int)} {x : Int} {bv : Value} {w w1 : World} (h : TB w0 g gp A cl l wl bo x bv w) {base : Nat} {ok : Nat → Prop} {v : Value} {out : List S39} (hv : Kd.R k39 39 w base ok v out) (hg : w.grownBy w1 v.ownBlock) (hb : Below w0.heap.size w0 w1) : TB w0 g gp A cl l wl bo x bv w1 := by
  refine ⟨blk_grown h.s hg (Kd.R_ne hv h.s (by decide)), ?_, blk_grown h.p hg (Kd.R_ne hv h.p (by decide)), hb⟩
  have hq := h.q
  cases bo with
  | none => exact hq
  | some b => exact ⟨Kd.R_mono (Kd.R_grown (row_apart hq.1 hv (by decide)) hg (fun k hk => hk.2)) (fun k hk => hk.1), hq.2⟩
/-- the games of a pairing, and who is free -/
def gamesF (l : List S33) : Int → List Int → List S39 → Int → List S39 × Int
  | _, [], out, off => (out, off)
  | i, j :: js, out, off => if j < 0 then gamesF l (i + 1) js out i else if i < j then gamesF l (i + 1) js (out ++ [if (rd_T33 l j).f2 < (rd_T33 l i).f2 then ⟨j, i⟩ else ⟨i, j⟩]) off else gamesF l (i + 1) js out off
def foundV (l : List S33) : Option (List Int) × Int := Swiss.tryF (sysL l) (l.length + 1) (List.replicate l.length (-2)) 0 (none, 0)
theorem colour_f (l : List S33) (i j : Int) (h0 : 0 ≤ i) (h1 : i < (l.length : Int)) (h2 : 0 ≤ j) (h3 : j < (l.length : Int)) : ∃ p q, (if (rd_T33 l j).f2 < (rd_T33 l i).f2 then (⟨j, i⟩ : S39) else ⟨i, j⟩) = ⟨p, q⟩ ∧ swiss_colour.f l i j = some (p, q) := by
  unfold swiss_colour.f
  rw [if_pos h2, if_pos h3, if_pos h0, if_pos h1]
  by_cases h : (rd_T33 l j).f2 < (rd_T33 l i).f2
  · exact ⟨j, i, by rw [if_pos h], by rw [if_pos h]⟩
  · exact ⟨i, j, by rw [if_neg h], by rw [if_neg h]⟩
theorem rep_set (n i : Nat) (hi : i < n) : (List.replicate i (-2 : Int) ++ List.replicate (n - i) 0).set i (-2) = List.replicate (i + 1) (-2) ++ List.replicate (n - (i + 1)) 0 := by
  obtain ⟨d, rfl⟩ : ∃ d, n = i + (d + 1) := ⟨n - i - 1, by omega⟩
  rw [show i + (d + 1) - i = d + 1 by omega, show i + (d + 1) - (i + 1) = d by omega, List.set_append_right _ _ (by simp), List.length_replicate, Nat.sub_self, List.replicate_succ, List.set_cons_zero, List.replicate_succ', List.append_assoc]; rfl
theorem mem_int (xs : List Int) (s : Nat) (h : s < xs.length) : rd xs (s : Int) ∈ xs := by
  rw [show rd xs (s : Int) = xs[s] by simp [rd, List.getD_eq_getElem?_getD, h]]; exact List.getElem_mem _
theorem un_rep : ∀ n, Swiss.un (List.replicate n (-2)) = n
  | 0 => rfl
  | n + 1 => by rw [List.replicate_succ, Swiss.un, un_rep n, if_pos rfl]; omega
def sw_pair.T23 : Bool × List (List Nat × List Nat) := (true, [([], []), ([], []), ([1], [1]), ([2], [2]), ([3], [3]), ([], []), ([0, 0], [0]), ([4, 6, 0, 1, 2, 3, 4, 6], [4]), ([5, 7, 0, 1, 2, 3, 4, 5, 6, 7], [5]), ([8, 0, 1, 2, 3, 4, 5, 6, 7, 8], [])])
def sw_pair.B23 : List Nat := [0, 0, 2, 6, 14, 0, 1, 95, 255, 511]
theorem sw_pair.tab23 : rtab .any (opsOf Try.f8 23) = sw_pair.T23 := by kernel_rfl
theorem sw_pair.bits23 : waitsOk sw_pair.T23.2 sw_pair.B23 = true := by kernel_rfl
theorem pair_any (k : Nat) (l : List S33) {A : Option Addr} {cl : Nat} (w : World) (hl : LIn w A cl l) (e0 : Int) (hc : swiss_Check.f k l = some e0) (hv : e0 = 0 → LVal l) (hb : e0 = 0 → ∀ b, (foundV l).1 = some b → ∀ j ∈ b, j < (l.length : Int)) (gs : List S39) (n off er : Int) (hx : (if e0 ≠ 0 then ([], 0, 0, e0) else match foundV l with | (none, _) => ([], 0, 0, 8) | (some b, m) => ((gamesF l 0 b [] (-1)).1, m, (gamesF l 0 b [] (-1)).2, 0)) = (gs, n, off, er)) :
    Calls Try.prog 8 #[.slice A l.length cl] w fun e w' => ∃ v0_, e = .returned (.tuple #[v0_, .int .i64 n, .int .i64 off, .int .i64 er]) ∧ Kd.R k39 39 w' w.heap.size (fun _ => True) v0_ gs ∧ Below w.heap.size w w' := by
  have hu78 := Try.underlying78
  have hu31 := Try.underlying31
  have hu26 := Try.underlying26
  have hu39 := Try.underlying39
  have hss_ := @isSome_setCell
  have hnil_ : ∀ (w_ : World) (a_ : Option Addr) (n_ c_ : Nat), (binOp .eql 31 (.slice a_ n_ c_) (.slice none 0 0)).run Try.prog w_ = .ok (.bool a_.isNone) w_ := fun w_ a_ n_ c_ => run_eql_slice_nil w_ 31 3 a_ n_ c_ Try.underlying31
  have HL := xm hl
  have HCK := xm hc
  have HB := xm (Below.refl w.heap.size w)
  clear hl hc
  by_cases he : e0 = 0
  rotate_left
  · rw [if_pos he] at hx
    simp only [Prod.mk.injEq] at hx
    obtain ⟨rfl, rfl, rfl, rfl⟩ := hx
    have hea := beq_eq_false_iff_ne.mpr he
    have heb := bne_iff_ne.mpr he
    clear hv hb
    go_enter Try.func8, Try.ntmps8
    go_wp2_with ((with_reducible refine gate_callee (f := 10) rfl ?_); refine xL (some 14) Try.func10 #[.slice A l.length cl] rfl ?_; refine (swiss_Check.calls k A cl l _ w HL.out.g HL.out.n HCK.out).mono ?_; rintro e wk ⟨rfl, hb⟩; refine ⟨_, rfl, ?_⟩; replace HB := xS HB hb; clear hb)
    (try simp only [Exit.inBlock, Exit.then]); refine bodyPost_ret (v := _) (by simp [results, go_sem]; rfl) rfl ?_
    exact ⟨_, rfl, Kd.R_nil _ _ _ _ _, xW HB⟩
  subst he
  rw [if_neg (fun h => h rfl)] at hx
  have HV := xm (hv rfl)
  have HBJ := xm (hb rfl)
  clear hv hb
  obtain ⟨⟨fo, fm⟩, hfo⟩ : ∃ z, foundV l = z := ⟨_, rfl⟩
  rw [hfo] at hx
  have HFO := xm hfo
  have HX := xm hx
  have HBK : Aside0 (∀ b, fo = some b → ∀ j ∈ b, j < (l.length : Int)) := ⟨fun b h j hj => HBJ.out b (by rw [hfo]; exact h) j hj⟩
  clear hfo hx HBJ
  go_enter Try.func8, Try.ntmps8
  go_upto_region 4 with ((with_reducible refine gate_callee (f := 10) rfl ?_); refine xL (some 14) Try.func10 #[.slice A l.length cl] rfl ?_; refine (swiss_Check.calls k A cl l _ w HL.out.g HL.out.n HCK.out).mono ?_; rintro e wk ⟨rfl, hb⟩; refine ⟨_, rfl, ?_⟩; replace HB := xS HB hb; clear hb)
  have HL2 := xm (HL.out.below HB.out)
  have B0 := xm HB.out
  have W2 := xm (Below.refl wk.heap.size wk)
  clear HL HB
  go_upto_region 5 with (first
      | ((with_reducible refine gate_dst (N := 21) rfl ?_); refine make_ints l.length rfl rfl rfl Try.underlying31 info3 HV.out.n.2 ?_; intro gp hg w3 hbox hb; have BP := xm hbox; have GP := xm (Nat.le_of_eq hg.symm); replace W2 := xS W2 hb; clear hb hbox hg)
      | ((with_reducible refine gate_dst (N := 23) rfl ?_); refine xG (cs := #[.slice A l.length cl, .slice (some ⟨gp, 0, none⟩) l.length l.length, .slice none 0 0, .int .i64 0]) (t := 78) ?_; intro g hg w4 hbox hb; have BS := xm hbox; have GG := xZ W2 hg; have NE := xN BP hg; have ne1 := NE.out; have ne2 := Ne.symm NE.out; have NE2 := xm ne2; replace BP := xB BP hb; replace W2 := xS W2 hb; clear hb hbox hg))
  have hz := blkc4 BS.out
  go_upto_region 6 with fail
  clear hz
  go_loopg [29] l.length (fun kq v29 w' => ∃ (a : Nat) (b : Int), v29 = .int .i64 b ∧ Aside0 (b = (a : Int)) ∧ Aside0 (a + kq = l.length) ∧ Aside0 (w'.heap[gp]? = some (.cells ⟨(List.replicate a (-2 : Int) ++ List.replicate (l.length - a) 0).map (Value.int .i64)⟩ 3 (0, 0))) ∧ Aside0 (w'.heap[g]? = some (.cells #[.slice A l.length cl, .slice (some ⟨gp, 0, none⟩) l.length l.length, .slice none 0 0, .int .i64 0] 78 (0, 0))) ∧ Aside0 (Below wk.heap.size wk w'))
  case atStart => exact ⟨0, 0, rfl, ⟨rfl⟩, ⟨by omega⟩, ⟨by rw [Nat.sub_zero]; exact BP.out⟩, BS, W2⟩
  case round =>
    clear BP BS W2
    obtain ⟨a, b, rfl, HJ, HI, BP, BS, W2⟩ := hrel
    have hz := blkc4 BS.out
    by_cases hi : a = l.length
    rotate_left
    · obtain ⟨k1, rfl⟩ : ∃ k1, gk = k1 + 1 := ⟨gk - 1, by have := HI.out; omega⟩
      have q1 : decide (b < (l.length : Int)) = true := decide_eq_true (by have := HJ.out; have := HI.out; omega)
      have hj0 : 0 ≤ b := by have := HJ.out; omega
      have hj1 : b < (l.length : Int) := by have := HJ.out; have := HI.out; omega
      obtain ⟨bn, hbn⟩ : ∃ bn : Int, IntKind.i64.wrap (b + 1) = bn := ⟨_, rfl⟩
      have HBN : Aside0 (bn = ((a + 1 : Nat) : Int)) := ⟨by rw [← hbn, HJ.out, i64_w]; have := HI.out; have := HV.out.n; unfold wrap64; omega⟩
      have hy := row_cell BP.out hj0 (by rw [List.length_append, List.length_replicate, List.length_replicate]; omega)
      have hset : (List.replicate a (-2 : Int) ++ List.replicate (l.length - a) 0).set b.toNat (-2) = List.replicate (a + 1) (-2) ++ List.replicate (l.length - (a + 1)) 0 := by rw [HJ.out, Int.toNat_natCast]; exact rep_set _ _ (by have := HI.out; omega)
      have HSET := xm hset
      clear hset
      replace hj0 := eq_true hj0
      replace hj1 := eq_true hj1
      go_wp2
      go_roundg k1
      case measure => omega
      case rel => exact ⟨a + 1, bn, (xrf), HBN, ⟨by have := HI.out; omega⟩, ⟨by rw [← HSET.out]; exact row_set BP.out _ _⟩, ⟨xK BS⟩, ⟨xW W2⟩⟩
    have hlt : decide (b < (l.length : Int)) = false := decide_eq_false (by have := HJ.out; omega)
    subst hi
    have hp0 := BP.out
    rw [Nat.sub_self, List.replicate_zero, List.append_nil] at hp0
    have HTB : Aside0 (TB wk g gp A cl l (List.replicate l.length (-2)) none 0 (.slice none 0 0) wr) := ⟨⟨BS.out, rfl, hp0, W2.out⟩⟩
    have HN : Aside0 (TN wk g gp A cl l) := ⟨⟨HL2.out, HV.out, Ne.symm NE.out, GG.out, GP.out⟩⟩
    clear hp0 BP BS W2 HI HJ
    have HFO2 := HFO.out
    unfold foundV at HFO2
    replace HFO2 := xm HFO2
    go_upto_region 11 with ((with_reducible refine gate_callee (f := 27) rfl ?_); refine xL (some 40) Try.func27 #[.pointer (some ⟨g, 0, none⟩), .int .i64 0] rfl ?_; refine (try_any HN.out (l.length + 1) _ _ 0 none 0 _ (by rw [un_rep]; omega) (List.length_replicate ..) (by omega) (by rw [un_rep]; have := HV.out.n; omega) HTB.out).mono ?_; rintro e w5 ⟨⟨v, rfl⟩, bv, hT⟩; rw [HFO2.out] at hT; refine ⟨v, rfl, ?_⟩; replace HTB := xm hT; clear hT)
    clear hz hlt
    cases fo with
    | none =>
      have hq : bv = .slice none 0 0 := HTB.out.q
      subst hq
      have hz := blkc4 HTB.out.s
      have hx := HX.out
      simp only [Prod.mk.injEq] at hx
      obtain ⟨rfl, rfl, rfl, rfl⟩ := hx
      go_wp2
      (try simp only [Exit.inBlock, Exit.then]); refine bodyPost_ret (v := _) (by simp [results, go_sem]; rfl) rfl ?_
      exact ⟨_, rfl, Kd.R_nil _ _ _ _ _, below_step B0.out HTB.out.b⟩
    | some bb =>
      have hq := HTB.out.q
      have hlen : 0 < bb.length := by have := hq.2; have := HV.out.n; omega
      obtain ⟨gb, cb, hbv, _⟩ := Kd.R_form hq.1 hlen
      subst hbv
      have HBL := xm hq.2
      have hx := HX.out
      simp only [Prod.mk.injEq] at hx
      obtain ⟨hx1, rfl, hx2, rfl⟩ := hx
      have HG : Aside0 (gamesF l 0 bb [] (-1) = (gs, off)) := ⟨by rw [← hx1, ← hx2]⟩
      have HBJ : Aside0 (∀ j ∈ bb, j < (l.length : Int)) := ⟨HBK.out bb rfl⟩
      clear hq hlen hx1 hx2 HX HBK
      have hz := blkc4 HTB.out.s
      go_upto_region 16 with fail
      clear hz
      have HO0 : Aside0 (Kd.R k39 39 w5 wk.heap.size (fun _ => True) (.slice none 0 0) []) := ⟨Kd.R_nil _ _ _ _ _⟩
      go_loopg [9, 10, 51] bb.length (fun kq v9 v10 v51 w' => ∃ (vv : Value) (a : Nat) (b o : Int) (out : List S39), v9 = vv ∧ v10 = .int .i64 o ∧ v51 = .int .i64 b ∧ Aside0 (b = (a : Int)) ∧ Aside0 (a + kq = bb.length) ∧ Aside0 (gamesF l (a : Int) (bb.drop a) out o = (gs, off)) ∧ Aside0 (out.length ≤ a) ∧ Aside0 (Kd.R k39 39 w' wk.heap.size (fun _ => True) vv out) ∧ Aside0 (TB wk g gp A cl l (List.replicate l.length (-2)) (some bb) fm (.slice (some ⟨gb, 0, none⟩) bb.length cb) w'))
      case atStart => exact ⟨_, 0, 0, -1, [], rfl, rfl, rfl, ⟨rfl⟩, ⟨by omega⟩, HG, ⟨Nat.le_refl _⟩, HO0, HTB⟩
      case round =>
        clear HO0 HTB HG
        obtain ⟨vv, a, b, o, out, rfl, rfl, rfl, HJ, HI, HT, HOL, HO, HTB⟩ := hrel
        by_cases hi : a = bb.length
        rotate_left
        · obtain ⟨k1, rfl⟩ : ∃ k1, gk = k1 + 1 := ⟨gk - 1, by have := HI.out; omega⟩
          have q1 : decide (b < (bb.length : Int)) = true := decide_eq_true (by have := HJ.out; have := HI.out; omega)
          have hj0 : 0 ≤ b := by have := HJ.out; omega
          have hj1 : b < (bb.length : Int) := by have := HJ.out; have := HI.out; omega
          have H0B := xm (show 0 ≤ b ∧ b < (l.length : Int) from ⟨hj0, by have := HBL.out; omega⟩)
          obtain ⟨bn, hbn⟩ : ∃ bn : Int, IntKind.i64.wrap (b + 1) = bn := ⟨_, rfl⟩
          have HBN : Aside0 (bn = ((a + 1 : Nat) : Int)) := ⟨by rw [← hbn, HJ.out, i64_w]; have := HI.out; have := HBL.out; have := HV.out.n; unfold wrap64; omega⟩
          obtain ⟨ac, e, y0⟩ := Kd.at_int (Kd.R_reads' HTB.out.q.1).2.2 b hj0 hj1
          cases e
          have had : (⟨gb, 0, none⟩ : Addr).add b.toNat = ⟨gb, b.toNat, none⟩ := by simp [Addr.add]; omega
          rw [had] at y0
          clear had
          have hT := HT.out
          rw [drop_int bb a (by have := HI.out; omega), gamesF, ← HJ.out] at hT
          have hm := HBJ.out _ (mem_int bb a (by have := HI.out; omega))
          rw [← HJ.out] at hm
          obtain ⟨j, hj⟩ : ∃ j, rd bb b = j := ⟨_, rfl⟩
          rw [hj] at hT hm y0
          have HM := xm hm
          have hb1 : b + 1 = ((a + 1 : Nat) : Int) := by have := HJ.out; omega
          rw [hb1] at hT
          clear hm hj HT hb1
          replace hj0 := eq_true hj0
          replace hj1 := eq_true hj1
          by_cases hn0 : j < 0
          · have hnb := decide_eq_true hn0
            rw [if_pos hn0] at hT
            have HT2 := xm hT
            clear hT
            go_wp2
            go_roundg k1
            case measure => omega
            case rel => exact ⟨u9, a + 1, bn, b, out, (xrf), (xrf), (xrf), HBN, ⟨by have := HI.out; omega⟩, HT2, ⟨by have := HOL.out; omega⟩, HO, HTB⟩
          · have hnb := decide_eq_false hn0
            rw [if_neg hn0] at hT
            by_cases hij : b < j
            · have hib := decide_eq_true hij
              rw [if_pos hij] at hT
              obtain ⟨p, q, hpq, hcf⟩ := colour_f l b j H0B.out.1 H0B.out.2 (by omega) HM.out
              rw [hpq] at hT
              have HT2 := xm hT
              have HCF := xm hcf
              clear hT hpq hcf
              go_wp2_with (first
                | ((with_reducible refine gate_callee (f := 28) rfl ?_); refine xL (some 68) Try.func28 #[.slice A l.length cl, .int .i64 b, .int .i64 j] rfl ?_; refine (swiss_colour.calls A cl l b j p q _ (HL2.out.below HTB.out.b).g HL2.out.n HCF.out).mono ?_; rintro e w6 ⟨rfl, hb⟩; refine ⟨_, rfl, ?_⟩; replace HO := xm (Kd.R_below HO.out hb); replace HTB := xm (HTB.out.below hb); clear hb)
                | ((with_reducible refine gate_builtin (b := .append) (xs := #[.tmp 64, .tmp 69]) rfl ?_); at_builtin; refine Kd.R_append k39 (w0 := wk) wk.heap.size rfl (.tmp 64) (.tmp 69) 26 39 (.agg #[.int .i64 0, .int .i64 0]) 16 rfl Try.underlying26 info39 rfl (by decide) (by omega) u9 out ⟨p, q⟩ [.int .i64 p, .int .i64 q] (fun _ => True) (fun _ => False) rfl rfl (k39_mkM _ _ _ ⟨p, q⟩) (fun _ h => h.elim) (fun _ _ => trivial) HO.out HTB.out.b HTB.out.b.size (by have := HOL.out; have := HI.out; have := HBL.out; have := HV.out.n; omega) ?_; intro v1 w7 ho hb hg_ hat; replace HTB := xm (HTB.out.grown HO.out hg_ hb); replace HO := xm ho; clear ho hb hg_ hat))
              go_roundg k1
              case measure => omega
              case rel => exact ⟨v1, a + 1, bn, o, _, (xrf), (xrf), (xrf), HBN, ⟨by have := HI.out; omega⟩, HT2, ⟨by rw [List.length_append, List.length_singleton]; have := HOL.out; omega⟩, HO, HTB⟩
            · have hib := decide_eq_false hij
              rw [if_neg hij] at hT
              have HT2 := xm hT
              clear hT
              go_wp2
              go_roundg k1
              case measure => omega
              case rel => exact ⟨u9, a + 1, bn, o, out, (xrf), (xrf), (xrf), HBN, ⟨by have := HI.out; omega⟩, HT2, ⟨by have := HOL.out; omega⟩, HO, HTB⟩
        have hlt : decide (b < (bb.length : Int)) = false := decide_eq_false (by have := HJ.out; omega)
        have hT := HT.out
        rw [hi, List.drop_length, gamesF] at hT
        simp only [Prod.mk.injEq] at hT
        obtain ⟨rfl, rfl⟩ := hT
        clear HT HI HJ hi
        go_upto_region 23 with fail
        have HTD := xm (HTB.out.below (below_drew1 (Below.refl _ _)))
        have HOD := xm (Kd.R_below HO.out (below_drew1 (Below.refl _ _)))
        have zL := yB (xm HTD.out.s) 3
        refine start_ (n := 10) (S := Cells [(⟨g, 3, none⟩, .int .i64 fm)]) (ds := []) (mk 10 0) (by kernel_rfl) rfl rfl ⟨zL, trivial⟩ (fun hHeld => ?_)
        refine with_tabW sw_pair.tab23 sw_pair.bits23 (fun HT_ HW_ => ?_)
        clear zL HTB HO
        generalize wr.drew = wd at HTD HOD hHeld ⊢
        refine pu_ 0 72 HT_ ?_; refine pu_ 1 73 HT_ ?_; refine pu_ 2 74 HT_ ?_; refine pu_ 3 75 HT_ ?_; refine tc_ 4 76 HT_ HW_ hHeld ?_
        refine pu_ 5 77 HT_ ?_; refine pu_ 6 2 HT_ ?_; refine pu_ 7 3 HT_ ?_; refine pu_ 8 4 HT_ ?_; refine pu_ 9 5 HT_ ?_
        refine done_ (done_of HT_.out (by kernel_rfl)) ?_
        clear hHeld
        go_wp2
        (try simp only [Exit.inBlock, Exit.then]); refine bodyPost_ret (v := _) (by simp [results, go_sem]; rfl) rfl ?_
        exact ⟨_, rfl, Kd.R_lower HOD.out B0.out.size, below_step B0.out HTD.out.b⟩
/-- players as the walks want them, to be decided -/
def lvB (l : List S33) : Bool := decide (2 ≤ l.length ∧ l.length ≤ 8) && l.all (fun p => decide ((0 ≤ p.f0 ∧ p.f0 ≤ 40) ∧ (-20 ≤ p.f2 ∧ p.f2 ≤ 20) ∧ p.f1.length ≤ 20))
theorem sp_mem (L : List S33) (j : Int) (h0 : 0 ≤ j) (h1 : j < (L.length : Int)) : rd_T33 L j ∈ L := by
  have h : j.toNat < L.length := by omega
  rw [show rd_T33 L j = L[j.toNat] by simp [rd_T33, List.getD_eq_getElem?_getD, h]]; exact List.getElem_mem _
theorem lv_of {l : List S33} (h : lvB l = true) : LVal l := by
  unfold lvB at h
  obtain ⟨h1, h2⟩ := Bool.and_eq_true_iff.1 h
  exact ⟨of_decide_eq_true h1, fun j h0 h3 => of_decide_eq_true (List.all_eq_true.1 h2 _ (sp_mem l j h0 h3))⟩
def okB (l : List S33) : Bool := match (foundV l).1 with | none => true | some b => b.all (fun j => decide (j < (l.length : Int)))
def pairV (l : List S33) : List S39 × Int × Int × Int := match foundV l with | (none, _) => ([], 0, 0, 8) | (some b, m) => ((gamesF l 0 b [] (-1)).1, m, (gamesF l 0 b [] (-1)).2, 0)
def swiss_Pair.f (k : Nat) (l : List S33) : Option (List S39 × Int × Int × Int) := (swiss_Check.f k l).bind fun e => if e ≠ 0 then some ([], 0, 0, e) else if (lvB l && okB l) = true then some (pairV l) else none
theorem swiss_Pair.mono : ∀ l k, LeO (swiss_Pair.f k l) (swiss_Pair.f (k + 1) l) := by
  intro l k
  unfold swiss_Pair.f
  exact LeO.bind (swiss_Check.mono _ _) (fun e => LeO.refl _)
theorem swiss_Pair.calls (k : Nat) (A0 : Option Addr) (c0 : Nat) (l0 : List S33) (r1 : List S39) (r2 r3 r4 : Int) (w : World) (hr0 : Kd.C k33 w A0 l0.length l0) (hc0 : l0.length ≤ c0) (h : swiss_Pair.f k l0 = some (r1, r2, r3, r4)) :
    Calls Try.prog 8 #[.slice A0 l0.length c0] w fun e w' => ∃ v0_ : Value, e = .returned (.tuple #[v0_, .int .i64 r2, .int .i64 r3, .int .i64 r4]) ∧ Kd.R k39 39 w' w.heap.size (fun _ => True) v0_ r1 ∧ Below w.heap.size w w' := by
  unfold swiss_Pair.f at h
  obtain ⟨e, hC, h⟩ := xH h
  by_cases he : e = 0
  · rw [if_neg (fun hh => hh he)] at h
    by_cases hv : (lvB l0 && okB l0) = true
    · rw [if_pos hv] at h
      obtain ⟨h1, h2⟩ := Bool.and_eq_true_iff.1 hv
      refine pair_any k l0 w ⟨hc0, hr0⟩ e hC.out (fun _ => lv_of h1) (fun _ b hb j hj => ?_) r1 r2 r3 r4 ?_
      · unfold okB at h2; rw [hb] at h2; exact of_decide_eq_true (List.all_eq_true.1 h2 j hj)
      · rw [if_neg (fun hh => hh he)]; exact Option.some.inj h
    · rw [if_neg hv] at h; cases h
  · rw [if_pos he] at h
    refine pair_any k l0 w ⟨hc0, hr0⟩ e hC.out (fun h0 => absurd h0 he) (fun h0 => absurd h0 he) r1 r2 r3 r4 ?_
    rw [if_pos he]; exact Option.some.inj h
end Go.Proofs.Ytemfkhafkhkffaa.PSwissPairs
