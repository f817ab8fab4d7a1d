/- refmatch's Pairings, by hand. -/
import Derived.Test.YtemfkhafkhkffaaSwPair
namespace Go.Proofs.Ytemfkhafkhkffaa.PSwissPairs
open Go.RowKit Go.Proofs.YtemfkhafkhkffaaW.PrintWords Go.Proofs.YtemfkhafkhkffaaW.PrintLast Go.Proofs.YtemfkhafkhkffaaW.PrintMore
set_option maxHeartbeats 4000000
set_option maxRecDepth 100000
set_option linter.unusedVariables false
set_option linter.unusedSimpArgs false
theorem info37 : (Try.prog.info? 37).map (fun i => (i.zero, i.size, i.bytes)) = some (some (.agg #[.slice none 0 0, .int .i64 0]), 2, 32) := by kernel_rfl
def toP (x : List Int × Int) : S37 := ⟨x.1, x.2⟩
/-- what 'pairings' has in memory -/
structure SB (w0 : World) (gw : Nat) (wl : List Int) (v : Value) (out : List S37) (w : World) : Prop where
  p : w.heap[gw]? = some (.cells ⟨(wl : List Int).map (Value.int .i64)⟩ 3 (0, 0))
  r : Kd.S k37 37 w w0.heap.size (fun k => k ≠ gw) v out
  b : Below w0.heap.size w0 w
section
variable {w0 : World} {gw : Nat} {wl : List Int} {v : Value} {out : List S37} {w w1 : World}
theorem SB.below (h : SB w0 gw wl v out w) (hb : Below w.heap.size w w1) : SB w0 gw wl v out w1 := ⟨blk_below h.p hb, Kd.S_below h.r hb, below_step h.b hb⟩
theorem SB.put (h : SB w0 gw wl v out w) (hw : w0.heap.size ≤ gw) (i : Nat) (x : Int) : SB w0 gw (wl.set i x) v out (w.setCell ⟨gw, i, none⟩ (.int .i64 x)) :=
  ⟨row_set h.p i x, Kd.S_far h.r (p := ⟨gw, i, none⟩) (fun k hk => hk) _, below_set h.b hw⟩
end
theorem any_cnt (j : Int) : ∀ os : List Int, 0 ≤ cntO j os ∧ (os.any (fun o => decide (o = j)) = !(cntO j os == 0))
  | [] => ⟨Int.le_refl _, rfl⟩
  | o :: os => by
    obtain ⟨h1, h2⟩ := any_cnt j os
    rw [cntO, List.any_cons, h2]
    by_cases h : o = j
    · rw [if_pos h, decide_eq_true h, Bool.true_or]
      exact ⟨by omega, by rw [beq_eq_false_iff_ne.mpr (by omega)]; rfl⟩
    · rw [if_neg h, decide_eq_false h, Bool.false_or, Int.zero_add]
      exact ⟨h1, rfl⟩
def sw_prs.T16 : Bool × List (List Nat × List Nat) := (true, [([], []), ([], []), ([0, 1], [0, 1]), ([2], [2]), ([3], [3]), ([], []), ([], []), ([5, 6], [5, 6]), ([7], [7]), ([8], [8]), ([4, 9], [4, 9]), ([], []), ([], []), ([11, 12], [11, 12]), ([13], [13]), ([14], [14]), ([], []), ([], []), ([16, 17], [16, 17]), ([18], [18]), ([19], [19]), ([15, 20], [15, 20]), ([10, 0, 1, 2, 3, 4, 5, 6, 7, 8, 9, 10], [10]), ([21, 22, 0, 1, 2, 3, 4, 5, 6, 7, 8, 9, 10, 11, 12, 13, 14, 15, 16, 17, 18, 19, 20, 21, 22], [21])])
def sw_prs.B16 : List Nat := [0, 0, 3, 7, 15, 0, 0, 96, 224, 480, 1023, 0, 0, 6144, 14336, 30720, 0, 0, 196608, 458752, 983040, 2095104, 2047, 8388607]
theorem sw_prs.tab16 : rtab .any (opsOf Try.f31 16) = sw_prs.T16 := by kernel_rfl
theorem sw_prs.bits16 : waitsOk sw_prs.T16.2 sw_prs.B16 = true := by kernel_rfl
def sw_prs.T22 : Bool × List (List Nat × List Nat) := (true, [([], []), ([], []), ([], []), ([], []), ([], []), ([], []), ([4, 5], [4, 5]), ([6], [6]), ([7], [7]), ([8], [8]), ([], []), ([], []), ([10, 11], [10, 11]), ([12], [12]), ([13], [13]), ([9, 14], [9, 14]), ([3, 15], [3, 15]), ([0, 1, 2, 16], [0, 1, 2, 16]), ([17, 17, 0, 1, 2, 3, 4, 5, 6, 7, 8, 9, 10, 11, 12, 13, 14, 15, 16, 17], [0, 17])])
def sw_prs.B22 : List Nat := [0, 0, 0, 0, 0, 0, 48, 112, 240, 496, 0, 0, 3072, 7168, 15360, 32752, 65528, 131071, 262143]
theorem sw_prs.tab22 : rtab .any (opsOf Try.f31 22) = sw_prs.T22 := by kernel_rfl
theorem sw_prs.bits22 : waitsOk sw_prs.T22.2 sw_prs.B22 = true := by kernel_rfl
set_option maxHeartbeats 8000000 in
theorem prs_any {w0 : World} {gw : Nat} {A : Option Addr} {cl : Nat} {l : List S33} (hli : LIn w0 A cl l) (hlv : LVal l) (hgw : w0.heap.size ≤ gw) (off0 : Bool) : ∀ (f : Nat) (w : World) (wl : List Int) (c : Int) (off : Bool) (v : Value) (out F : List S37), Swiss.un wl < f → wl.length = l.length → 0 ≤ c → c + 200000 * (Swiss.un wl : Int) ≤ 10000000 → out ++ (Swiss.enum (sysL l) f wl c off).map toP = F → F.length ≤ 1000000000 → SB w0 gw wl v out w →
    Calls Try.prog 31 #[v, .slice A l.length cl, .slice (some ⟨gw, 0, none⟩) l.length l.length, .int .i64 c, .bool off] w fun e w' => ∃ v', e = .returned v' ∧ SB w0 gw wl v' F w' := by
  intro f
  induction f with
  | zero => intro w wl c off v out F h; exact absurd h (Nat.not_lt_zero _)
  | succ f ih =>
    intro w wl c off v out F hf hwl hc0 hc1 hF hFl hT
    have hu33 := Try.underlying33
    have hu31 := Try.underlying31
    have hu37 := Try.underlying37
    have hss_ := @isSome_setCell
    have HLI := xm hli
    have HLV := xm hlv
    have HGW := xm hgw
    have HFU := xm hf
    have HWL := xm hwl
    have HC := xm (And.intro hc0 hc1)
    have HTB := xm hT
    have IH := xm ih
    have HFL := xm hFl
    clear hf hwl hc0 hc1 hT ih hli hlv hgw hFl
    obtain ⟨fn1, fn2⟩ := Swiss.first_is wl
    have HFI := xm (And.intro fn1 fn2)
    clear fn1 fn2
    rw [Swiss.enum, show (sysL l).n = l.length from rfl] at hF
    have HFF := xm hF
    clear hF
    go_enter Try.func31, Try.ntmps31
    go_upto_region 2 with fail
    go_loopg [11] (Swiss.first wl) (fun kq v11 w' => ∃ (a : Nat) (b : Int), v11 = .int .i64 b ∧ Aside0 (b = (a : Int)) ∧ Aside0 (a + kq = Swiss.first wl) ∧ Aside0 (a + Swiss.first (wl.drop a) = Swiss.first wl) ∧ Aside0 (SB w0 gw wl v out w'))
    case atStart => exact ⟨0, 0, rfl, ⟨rfl⟩, ⟨by omega⟩, ⟨by rw [List.drop_zero]; omega⟩, HTB⟩
    case round =>
      clear HTB
      obtain ⟨a, b, rfl, HJ, HI, HD, HTB⟩ := hrel
      by_cases hi : a = Swiss.first wl
      rotate_left
      · obtain ⟨k1, rfl⟩ : ∃ k1, gk = k1 + 1 := ⟨gk - 1, by have := HI.out; omega⟩
        have hal : a < wl.length := by have := HI.out; have := HFI.out.1; omega
        have hd := HD.out
        rw [first_drop wl a hal] at hd
        have hne : ¬ rd wl (a : Int) = -2 := fun e => by rw [if_pos e] at hd; omega
        rw [if_neg hne] at hd
        have HD2 : Aside0 ((a + 1) + Swiss.first (wl.drop (a + 1)) = Swiss.first wl) := ⟨by omega⟩
        rw [← HJ.out] at hne
        have hneb := bne_iff_ne.mpr hne
        have q1 : decide (b < (l.length : Int)) = true := decide_eq_true (by have := HJ.out; have := HWL.out; omega)
        have hj0 : 0 ≤ b := by have := HJ.out; omega
        have hj1 : b < (l.length : Int) := by have := HJ.out; have := HWL.out; omega
        obtain ⟨bn, hbn⟩ : ∃ bn : Int, IntKind.i64.wrap (b + 1) = bn := ⟨_, rfl⟩
        have HBN : Aside0 (bn = ((a + 1 : Nat) : Int)) := ⟨by rw [← hbn, HJ.out, i64_w]; have := HWL.out; have := HLV.out.n; unfold wrap64; omega⟩
        have hy := row_cell HTB.out.p hj0 (by have := HWL.out; omega)
        replace hj0 := eq_true hj0
        replace hj1 := eq_true hj1
        clear hd HD hne
        go_wp2
        go_roundg k1
        case measure => omega
        case rel => exact ⟨a + 1, bn, (xrf), HBN, ⟨by have := HI.out; omega⟩, HD2, HTB⟩
      by_cases hfn : Swiss.first wl = l.length
      · have hlt : decide (b < (l.length : Int)) = false := decide_eq_false (by have := HJ.out; omega)
        have heq : (b == (l.length : Int)) = true := beq_iff_eq.mpr (by have := HJ.out; omega)
        have hF := HFF.out
        rw [if_pos hfn] at hF
        have HF2 : Aside0 (out ++ [⟨wl, c⟩] = F) := ⟨hF⟩
        clear hF HFF
        have HB := xm (Below.refl wr.heap.size wr)
        have HPS := xm (blk_lt HTB.out.p)
        go_wp2_with (first
          | ((with_reducible refine gate_dst (N := 36) rfl ?_); refine Kd.R_lit (Kd.int .i64) _ 3 ?hg (N := 36) ?hd (xs := ([] : List Int)) (inner := []) (ok := fun _ => True) (okp := fun _ => True) ?hr ?hp (fun _ hk => hk) trivial (Below.refl _ _) (Nat.le_refl _) (by simp) ?_; (case hd => rfl); (case hg => rfl); (case hr => first | (go_simp; done) | (go_simp; rfl)); (case hp => exact (Reps.none _ _)); intro v36 w4 ho4 hb hg_ hnew_; clear hg_ hnew_; have HO4 := xm (Kd.R_lower ho4 (below_size (xW HB))); replace HB := xS HB hb; clear hb ho4)
          | ((with_reducible refine gate_builtin (b := .append) (xs := #[.tmp 36, .tmp 37]) rfl ?_); at_builtin; refine Kd.R_append_rows (Kd.int .i64) (w0 := wr) wr.heap.size rfl (.tmp 36) (.tmp 37) 31 3 (.int .i64 0) 8 rfl Try.underlying31 info3 rfl (by decide) (by omega) v36 [] wl _ _ _ (fun _ => True) (fun _ => False) rfl rfl ?aO ?aR (fun _ _ h => h) (fun _ h => h.elim) ?aF ?aB ?aS ?aL ?_; (case aR => exact (row_C (blk_below HTB.out.p HB.out) HWL.out (by have := HLV.out.n; omega))); (case aB => exact (xW HB)); (case aF => exact (fun _ _ => trivial)); (case aO => exact HO4.out); (case aS => exact (below_size (xW HB))); (case aL => have := HWL.out; have := HLV.out.n; simp; omega); intro v38 w5 ho hb hg hat; rw [List.nil_append] at ho; obtain ⟨B5, c5, rfl⟩ := Kd.R_slice ho; have HO : Aside0 (Kd.R (Kd.int .i64) 3 w5 w0.heap.size (fun k => (k ≠ gw ∧ some k ≠ v.ownBlock) ∧ wr.heap.size ≤ k) (.slice B5 wl.length c5) wl) := ⟨Kd.R_lower (Kd.R_mono (Kd.R_bound ho) (fun k hk => ⟨⟨by have := hk.2.1; have := HPS.out; omega, fun e => by have h1 := Kd.R_lt (Kd.S_R HTB.out.r) k e.symm; have := hk.2.1; omega⟩, hk.2.1⟩)) HTB.out.b.size⟩; have HOS : Aside0 (Kd.S k37 37 w5 w0.heap.size (fun k => k ≠ gw ∧ ¬ ((k ≠ gw ∧ some k ≠ v.ownBlock) ∧ wr.heap.size ≤ k)) v out) := ⟨Kd.S_below (Kd.S_mono (Kd.S_bound HTB.out.r) (fun k hk => ⟨hk.1, fun h => by have h1 := hk.2.2.1; have h2 := h.2; omega⟩)) hb⟩; replace HB := xm hb; replace HTB := xm (HTB.out.below HB.out); clear HO4; clear ho hb hg hat)
          | ((with_reducible refine gate_builtin (b := .append) (xs := #[.tmp 35, .tmp 41]) rfl ?_); at_builtin; refine Kd.S_append k37 (w0 := w0) w0.heap.size rfl (.tmp 35) (.tmp 41) 34 37 (.agg #[.slice none 0 0, .int .i64 0]) 32 rfl Try.underlying34 info37 rfl (by decide) (by omega) v out ⟨wl, c⟩ [.slice B5 wl.length c5, .int .i64 c] (fun k => k ≠ gw) (fun k => (k ≠ gw ∧ some k ≠ v.ownBlock) ∧ wr.heap.size ≤ k) rfl rfl (k37_mkM _ _ _ ⟨wl, c⟩ HO.out) (fun _ h => h.1) (fun k hk => by have := blk_lt HTB.out.p; omega) HOS.out HTB.out.b HTB.out.b.size (by have h1 := congrArg List.length HF2.out; rw [List.length_append, List.length_singleton] at h1; have := HFL.out; omega) ?_; intro v1 w7 ho hb hg_ hat; rw [HF2.out] at ho; replace HTB := xm (SB.mk (blk_grown HTB.out.p hg_ (Kd.R_ne (Kd.S_R HTB.out.r) HTB.out.p (by decide))) ho hb); clear ho hb hg_ hat))
        go_ret
        exact ⟨_, rfl, HTB.out⟩
      have hfl : Swiss.first wl < wl.length := by have := HFI.out.1; have := HWL.out; omega
      have hfi := HFI.out.2 hfl
      subst hi
      obtain ⟨tl, htl⟩ : ∃ tl, (if (l.length % 2 = 1 ∧ off = false) ∧ (sysL l).byeB (Swiss.first wl) = false then Swiss.enum (sysL l) f (wl.set (Swiss.first wl) (-1)) (c + (sysL l).byeC (Swiss.first wl)) true else []).map toP = tl := ⟨_, rfl⟩
      have hF := HFF.out
      rw [if_neg hfn, List.map_append, htl] at hF
      have HF0 := xm hF
      have HTL := xm htl
      clear hF htl HFF HFI HI HD
      generalize Swiss.first wl = i at HF0 HTL HJ hfn hfi hfl
      have hrd : rd wl b = -2 := by rw [HJ.out, getD_rd]; exact hfi
      have HI := xm (And.intro hfl hfi)
      have hj0 : 0 ≤ b := by have := HJ.out; omega
      have hj1 : b < (l.length : Int) := by have := HJ.out; have := HWL.out; omega
      have H0B := xm (And.intro hj0 hj1)
      have q1 : decide (b < (l.length : Int)) = true := decide_eq_true hj1
      have hneq : (b == (l.length : Int)) = false := beq_eq_false_iff_ne.mpr (by omega)
      have hy := (row_cell HTB.out.p hj0 (by have := HWL.out; omega)).1
      rw [hrd] at hy
      obtain ⟨bn, hbn⟩ : ∃ bn : Int, IntKind.i64.wrap (b + 1) = bn := ⟨_, rfl⟩
      have HBN : Aside0 (bn = ((i + 1 : Nat) : Int)) := ⟨by rw [← hbn, HJ.out, i64_w]; have := HWL.out; have := HLV.out.n; unfold wrap64; omega⟩
      obtain ⟨ad, A1, c1, e, z0, z1, z2, z3, zl, zc⟩ := at_T33 HLI.out.g b hj0 hj1
      cases e
      obtain ⟨os, hos⟩ : ∃ os, (rd_T33 l b).f1 = os := ⟨_, rfl⟩
      have HOS := xm hos
      have HOL : Aside0 (os.length ≤ 20) := ⟨by rw [← hos]; exact (HLV.out.s b hj0 hj1).2.2⟩
      rw [hos] at z1 zc
      have ZC := xm zc
      have Z0 := xm z0
      have Z1 := xm z1
      have Z2 := xm z2
      have Z3 := xm z3
      clear hfl hfi hfn hrd zl zc hos z0 z1 z2 z3
      replace hj0 := eq_true hj0
      replace hj1 := eq_true hj1
      go_upto_region 7 with fail
      clear hy hneq q1 hbn
      go_loopg [0, 12] (l.length - (i + 1)) (fun kq v0 v12 w' => ∃ (u : Value) (a : Nat) (b' : Int) (o' : List S37), v0 = u ∧ v12 = .int .i64 b' ∧ Aside0 (b' = (a : Int)) ∧ Aside0 (a + kq = l.length ∧ i + 1 ≤ a) ∧ Aside0 (o' ++ ((Swiss.enumJ (sysL l) f wl c off i a kq).map toP ++ tl) = F) ∧ Aside0 (SB w0 gw wl u o' w'))
      case atStart => exact ⟨v, i + 1, bn, out, rfl, rfl, HBN, ⟨by have := HI.out.1; have := HWL.out; omega⟩, HF0, HTB⟩
      case round =>
        clear HTB HF0 HBN
        obtain ⟨u, a, b', o', rfl, rfl, HJ2, HI2, HF1, HTB⟩ := hrel
        by_cases hi2 : a = l.length
        rotate_left
        · obtain ⟨k1, rfl⟩ : ∃ k1, gk = k1 + 1 := ⟨gk - 1, by have := HI2.out; omega⟩
          have q2 : decide (b' < (l.length : Int)) = true := decide_eq_true (by have := HJ2.out; have := HI2.out; omega)
          have hk0 : 0 ≤ b' := by have := HJ2.out; omega
          have hk1 : b' < (l.length : Int) := by have := HJ2.out; have := HI2.out; omega
          have H1B := xm (And.intro hk0 hk1)
          obtain ⟨bm, hbm⟩ : ∃ bm : Int, IntKind.i64.wrap (b' + 1) = bm := ⟨_, rfl⟩
          have HBM : Aside0 (bm = ((a + 1 : Nat) : Int)) := ⟨by rw [← hbm, HJ2.out, i64_w]; have := HI2.out; have := HLV.out.n; unfold wrap64; omega⟩
          have hT := HF1.out
          rw [Swiss.enumJ, List.map_append, List.append_assoc] at hT
          have HF2 := xm hT
          clear hT HF1
          replace hk0 := eq_true hk0
          replace hk1 := eq_true hk1
          obtain ⟨mt, hmt⟩ : ∃ mt, os.any (fun o => decide (o = b')) = mt := ⟨_, rfl⟩
          have HMT : Aside0 ((sysL l).met i a = mt) := ⟨by rw [← hmt, (any_cnt b' os).2, ← HOS.out, HJ.out, HJ2.out]; rfl⟩
          have HAN := xm hmt
          clear hmt
          have z1 := xR (xm HTB.out.b) Z1.out
          go_upto_region 11 with fail
          clear z1
          go_loopg [13, 57] os.length (fun kq v13 v57 w' => ∃ (s : Nat) (t : Int) (y : Bool), v13 = .bool y ∧ v57 = .int .i64 t ∧ Aside0 (t = (s : Int)) ∧ Aside0 (s + kq = os.length) ∧ Aside0 ((y || (os.drop s).any (fun o => decide (o = b'))) = mt) ∧ Aside0 (SB w0 gw wl u0 o' w'))
          case atStart => exact ⟨0, 0, false, rfl, rfl, ⟨rfl⟩, ⟨by omega⟩, ⟨by rw [List.drop_zero, Bool.false_or]; exact HAN.out⟩, HTB⟩
          case round =>
            clear HTB HAN
            obtain ⟨s, t, y, rfl, rfl, HJ3, HI3, HY, HTB⟩ := hrel
            by_cases hi3 : s = os.length
            rotate_left
            · obtain ⟨k3, rfl⟩ : ∃ k3, gk = k3 + 1 := ⟨gk - 1, by have := HI3.out; omega⟩
              have q3 : decide (t < (os.length : Int)) = true := decide_eq_true (by have := HJ3.out; have := HI3.out; omega)
              have ht0 : 0 ≤ t := by have := HJ3.out; omega
              have ht1 : t < (os.length : Int) := by have := HJ3.out; have := HI3.out; omega
              obtain ⟨tn, htn⟩ : ∃ tn : Int, IntKind.i64.wrap (t + 1) = tn := ⟨_, rfl⟩
              have HTN : Aside0 (tn = ((s + 1 : Nat) : Int)) := ⟨by rw [← htn, HJ3.out, i64_w]; have := HI3.out; have := HOL.out; unfold wrap64; omega⟩
              obtain ⟨ao, e, y0⟩ := Kd.at_int ZC.out t ht0 ht1
              cases e
              replace y0 := xR (xm HTB.out.b) y0
              have hY := HY.out
              rw [drop_int os s (by have := HI3.out; omega), ← HJ3.out, List.any_cons] at hY
              obtain ⟨o, ho⟩ : ∃ o, rd os t = o := ⟨_, rfl⟩
              rw [ho] at hY y0
              have HY2 := xm hY
              clear hY HY ho
              replace ht0 := eq_true ht0
              replace ht1 := eq_true ht1
              cases y with
              | true =>
                go_wp2
                go_roundg k3
                case measure => omega
                case rel => exact ⟨s + 1, _, true, (xrf), (xrf), HTN, ⟨by have := HI3.out; omega⟩, ⟨by have := HY2.out; rw [Bool.true_or] at this ⊢; exact this⟩, HTB⟩
              | false =>
                by_cases hob : o = b'
                · have hobb := beq_iff_eq.mpr hob
                  have HY3 : Aside0 ((true || (os.drop (s + 1)).any (fun o => decide (o = b'))) = mt) := ⟨by have := HY2.out; rw [decide_eq_true hob, Bool.false_or] at this; exact this⟩
                  go_wp2
                  go_roundg k3
                  case measure => omega
                  case rel => exact ⟨s + 1, _, true, (xrf), (xrf), HTN, ⟨by have := HI3.out; omega⟩, HY3, HTB⟩
                · have hobb := beq_eq_false_iff_ne.mpr hob
                  have HY3 : Aside0 ((false || (os.drop (s + 1)).any (fun o => decide (o = b'))) = mt) := ⟨by have := HY2.out; rw [decide_eq_false hob, Bool.false_or, Bool.false_or] at this; rw [Bool.false_or]; exact this⟩
                  go_wp2
                  go_roundg k3
                  case measure => omega
                  case rel => exact ⟨s + 1, _, false, (xrf), (xrf), HTN, ⟨by have := HI3.out; omega⟩, HY3, HTB⟩
            have hlt3 : decide (t < (os.length : Int)) = false := decide_eq_false (by have := HJ3.out; omega)
            have hY := HY.out
            rw [hi3, List.drop_length, List.any_nil, Bool.or_false] at hY
            subst hY
            clear HY HI3 HJ3 hi3
            have hy := (row_cell HTB.out.p H1B.out.1 (by have := HWL.out; have := H1B.out.2; omega)).1
            obtain ⟨o, ho⟩ : ∃ o, rd wl b' = o := ⟨_, rfl⟩
            have HO : Aside0 (wl.getD a 0 = o) := ⟨by rw [← getD_rd, ← HJ2.out]; exact ho⟩
            rw [ho] at hy
            clear ho
            by_cases hoe : o = -2
            rotate_left
            · have hob := bne_iff_ne.mpr hoe
              have HF3 : Aside0 (o' ++ ((Swiss.enumJ (sysL l) f wl c off i (a + 1) k1).map toP ++ tl) = F) := ⟨by have h := HF2.out; rw [if_neg (fun h => hoe (HO.out.symm.trans h.1))] at h; exact h⟩
              go_wp2
              go_roundg k1
              case measure => omega
              case rel => exact ⟨_, a + 1, _, o', (xrf), (xrf), HBM, ⟨by have := HI2.out; omega⟩, HF3, HTB⟩
            have hob := bne_eq_false_iff_eq.mpr hoe
            cases y with
            | true =>
              have HF3 : Aside0 (o' ++ ((Swiss.enumJ (sysL l) f wl c off i (a + 1) k1).map toP ++ tl) = F) := ⟨by have h := HF2.out; rw [if_neg (fun h => by have := h.2; rw [HMT.out] at this; cases this)] at h; exact h⟩
              go_wp2
              go_roundg k1
              case measure => omega
              case rel => exact ⟨_, a + 1, _, o', (xrf), (xrf), HBM, ⟨by have := HI2.out; omega⟩, HF3, HTB⟩
            | false =>
              have HGA : Aside0 (wl.getD a 0 = -2) := ⟨HO.out.trans hoe⟩
              have HF3 : Aside0 (o' ++ ((Swiss.enum (sysL l) f (Swiss.put2 wl i a) (c + (sysL l).cst i a) off).map toP ++ ((Swiss.enumJ (sysL l) f wl c off i (a + 1) k1).map toP ++ tl)) = F) := ⟨by have h := HF2.out; rw [if_pos ⟨HGA.out, HMT.out⟩] at h; exact h⟩
              clear HF2
              go_upto_region 16 with fail
              clear hy hob
              have HTD := xm (HTB.out.below (below_drew1 (Below.refl _ _)))
              obtain ⟨ad2, A2, c2_, e, x0, x1, x2, x3, xl_, xc_⟩ := at_T33 HLI.out.g b' H1B.out.1 H1B.out.2
              cases e
              have zA := xR (xm HTD.out.b) Z0.out
              have zB := xR (xm HTD.out.b) Z2.out
              have zC := xR (xm HTD.out.b) x0
              have zD := xR (xm HTD.out.b) x2
              refine start_ (n := 24) (S := Cells [(ad.add (b.toNat * 4), .int .i64 (rd_T33 l b).f0), (⟨(ad.add (b.toNat * 4)).block, (ad.add (b.toNat * 4)).off + 2, none⟩, .int .i64 (rd_T33 l b).f2), (ad.add (b'.toNat * 4), .int .i64 (rd_T33 l b').f0), (⟨(ad.add (b'.toNat * 4)).block, (ad.add (b'.toNat * 4)).off + 2, none⟩, .int .i64 (rd_T33 l b').f2)]) (ds := []) (mk 24 0) (by kernel_rfl) rfl rfl ⟨zA, zB, zC, zD, trivial⟩ (fun hHeld => ?_)
              refine with_tabW sw_prs.tab16 sw_prs.bits16 (fun HT_ HW_ => ?_)
              clear zA zB zC zD x0 x1 x2 x3 xl_ xc_ HTB
              generalize wr.drew = wd at HTD hHeld ⊢
              refine pu_ 0 76 HT_ ?_; refine pu_ 1 77 HT_ ?_; refine pu_ 2 78 HT_ ?_; refine pu_ 3 79 HT_ ?_; refine tc_ 4 80 HT_ HW_ hHeld ?_
              refine pu_ 5 81 HT_ ?_; refine pu_ 6 82 HT_ ?_; refine pu_ 7 83 HT_ ?_; refine pu_ 8 84 HT_ ?_; refine tc_ 9 85 HT_ HW_ hHeld ?_
              refine pu_ 10 86 HT_ ?_; refine pu_ 11 87 HT_ ?_; refine pu_ 12 88 HT_ ?_; refine pu_ 13 89 HT_ ?_; refine pu_ 14 90 HT_ ?_; refine tc_ 15 91 HT_ HW_ hHeld ?_
              refine pu_ 16 92 HT_ ?_; refine pu_ 17 93 HT_ ?_; refine pu_ 18 94 HT_ ?_; refine pu_ 19 95 HT_ ?_; refine tc_ 20 96 HT_ HW_ hHeld ?_
              refine pu_ 21 97 HT_ ?_; refine pu_ 22 16 HT_ ?_; refine pu_ 23 17 HT_ ?_
              refine done_ (done_of HT_.out (by kernel_rfl)) ?_
              clear hHeld
              have hia : i < l.length ∧ a < l.length ∧ i ≠ a := ⟨by have := HI.out.1; have := HWL.out; omega, by have := HI2.out; omega, by have := HI2.out; omega⟩
              have HIA := xm hia
              have hcin := cst_in HLV.out i a hia.1 hia.2.1
              have hun := Swiss.un_put2 wl i a HI.out.2 HGA.out hia.2.2 HI.out.1 (by have := HWL.out; omega)
              obtain ⟨⟨a0, a1⟩, ⟨b0, b1⟩, _⟩ := HLV.out.s b H0B.out.1 H0B.out.2
              obtain ⟨⟨c0, c1⟩, ⟨d0, d1⟩, _⟩ := HLV.out.s b' H1B.out.1 H1B.out.2
              obtain ⟨dd, hdd⟩ : ∃ dd, (rd_T33 l b).f0 - (rd_T33 l b').f0 = dd := ⟨_, rfl⟩
              obtain ⟨ss, hss⟩ : ∃ ss, (rd_T33 l b).f2 + (rd_T33 l b').f2 = ss := ⟨_, rfl⟩
              have h1 := sq_in (a := dd) (m := 40) (by omega) (by omega) (by omega)
              have h2 := sq_in (a := ss) (m := 40) (by omega) (by omega) (by omega)
              have g1 : wrap64 ((rd_T33 l b).f0 - (rd_T33 l b').f0) = dd := by rw [hdd]; exact w64i (by omega) (by omega)
              have g2 : wrap64 ((rd_T33 l b).f2 + (rd_T33 l b').f2) = ss := by rw [hss]; exact w64i (by omega) (by omega)
              obtain ⟨e1, he1⟩ : ∃ e1, 100 * dd = e1 := ⟨_, rfl⟩
              obtain ⟨e2, he2⟩ : ∃ e2, e1 * dd = e2 := ⟨_, rfl⟩
              obtain ⟨e3, he3⟩ : ∃ e3, c + e2 = e3 := ⟨_, rfl⟩
              obtain ⟨e4, he4⟩ : ∃ e4, ss * ss = e4 := ⟨_, rfl⟩
              obtain ⟨c2, hc2⟩ : ∃ c2, e3 + e4 = c2 := ⟨_, rfl⟩
              have hcs : cstL l i a = e2 + e4 := by unfold cstL; rw [← HJ.out, ← HJ2.out, hdd, hss, he1, he2, he4]
              have he22 : e2 = 100 * (dd * dd) := by rw [← he2, ← he1, Int.mul_assoc]
              have hc := HC.out
              have g3 : IntKind.i64.wrap (100 * dd) = e1 := by rw [i64_w, he1]; exact w64i (by omega) (by omega)
              have g4 : IntKind.i64.wrap (e1 * dd) = e2 := by rw [i64_w, he2]; exact w64i (by omega) (by omega)
              have g5 : IntKind.i64.wrap (c + e2) = e3 := by rw [i64_w, he3]; exact w64i (by omega) (by omega)
              have g6 : IntKind.i64.wrap (ss * ss) = e4 := by rw [i64_w, he4]; exact w64i (by omega) (by omega)
              have g7 : IntKind.i64.wrap (e3 + e4) = c2 := by rw [i64_w, hc2]; exact w64i (by omega) (by omega)
              have HC2 : Aside0 (c + (sysL l).cst i a = c2) := ⟨by show c + cstL l i a = c2; omega⟩
              have HC3 : Aside0 (0 ≤ c2 ∧ c2 + 200000 * (Swiss.un (Swiss.put2 wl i a) : Int) ≤ 10000000) := ⟨by omega⟩
              have HUN : Aside0 (Swiss.un (Swiss.put2 wl i a) < f) := ⟨by have := HFU.out; omega⟩
              clear hia hcin hun hdd hss h1 h2 he1 he2 he3 he4 hc2 hcs he22 hc a0 a1 b0 b1 c0 c1 d0 d1
              have hy1 := row_cell HTD.out.p H0B.out.1 (by have := HWL.out; have := H0B.out.2; omega)
              have hy2 := row_cell (row_set HTD.out.p b.toNat b') H1B.out.1 (by rw [List.length_set]; have := HWL.out; have := H1B.out.2; omega)
              go_upto_region 18 with fail
              have hput : (wl.set b.toNat b').set b'.toNat b = Swiss.put2 wl i a := by unfold Swiss.put2; rw [HJ.out, HJ2.out, Int.toNat_natCast, Int.toNat_natCast]
              have HT10 : Aside0 (SB w0 gw (Swiss.put2 wl i a) u0 o' ((wd.setCell ⟨gw, b.toNat, none⟩ (.int .i64 b')).setCell ⟨gw, b'.toNat, none⟩ (.int .i64 b))) := ⟨by rw [← hput]; exact (HTD.out.put HGW.out _ _).put HGW.out _ _⟩
              clear hput HTD hy1 hy2
              generalize ((wd.setCell ⟨gw, b.toNat, none⟩ (.int .i64 b')).setCell ⟨gw, b'.toNat, none⟩ (.int .i64 b)) = w10 at HT10 ⊢
              go_upto_region 19 with ((with_reducible refine gate_callee (f := 31) rfl ?_); refine xL (some 120) Try.func31 #[u0, .slice (some ad) l.length cl, .slice (some ⟨gw, 0, none⟩) l.length l.length, .int .i64 c2, .bool off] rfl ?_; refine (IH.out _ (Swiss.put2 wl i a) c2 off u0 o' (o' ++ (Swiss.enum (sysL l) f (Swiss.put2 wl i a) (c + (sysL l).cst i a) off).map toP) HUN.out (by rw [Swiss.put2_len]; exact HWL.out) HC3.out.1 HC3.out.2 (by rw [HC2.out]) (by have h1 := congrArg List.length HF3.out; rw [← List.append_assoc, List.length_append] at h1; have := HFL.out; omega) HT10.out).mono ?_; rintro e w11 ⟨v1, rfl, hS⟩; refine ⟨_, rfl, ?_⟩; replace HT10 := xm hS; clear hS)
              clear g1 g2 g3 g4 g5 g6 g7
              have hlen2 : (Swiss.put2 wl i a).length = l.length := by rw [Swiss.put2_len]; exact HWL.out
              have hy1 := row_cell HT10.out.p H0B.out.1 (by have := H0B.out.2; omega)
              have hy2 := row_cell (row_set HT10.out.p b.toNat (-2)) H1B.out.1 (by rw [List.length_set]; have := H1B.out.2; omega)
              have hback : ((Swiss.put2 wl i a).set b.toNat (-2)).set b'.toNat (-2) = wl := by rw [HJ.out, HJ2.out, Int.toNat_natCast, Int.toNat_natCast]; exact Swiss.put2_back wl i a HI.out.2 HGA.out HI.out.1 (by have := HWL.out; have := HIA.out; omega)
              have HBK := xm hback
              clear hback hlen2
              go_wp2
              go_roundg k1
              case measure => omega
              case rel => exact ⟨_, a + 1, _, _, (xrf), (xrf), HBM, ⟨by have := HI2.out; omega⟩, ⟨by rw [List.append_assoc]; exact HF3.out⟩, ⟨by have h := (HT10.out.put HGW.out b.toNat (-2)).put HGW.out b'.toNat (-2); rw [HBK.out] at h; exact h⟩⟩
        have hlt : decide (b' < (l.length : Int)) = false := decide_eq_false (by have := HJ2.out; omega)
        have hT := HF1.out
        rw [show gk = 0 by have := HI2.out; omega, Swiss.enumJ, List.map_nil, List.nil_append] at hT
        have HF2 := xm hT
        clear hT HF1 HI2 HJ2 hi2
        obtain ⟨m, hm⟩ : ∃ m : Int, Int.tmod (l.length : Int) 2 = m := ⟨_, rfl⟩
        have HM : Aside0 (m = ((l.length % 2 : Nat) : Int)) := ⟨by rw [← hm, Int.tmod_eq_emod_of_nonneg (by omega)]; omega⟩
        obtain ⟨yb, hyb⟩ : ∃ yb, (rd_T33 l b).f3 = yb := ⟨_, rfl⟩
        have HYB : Aside0 ((sysL l).byeB i = yb) := ⟨by rw [← hyb, HJ.out]; rfl⟩
        have z3 := xR (xm HTB.out.b) Z3.out
        rw [hyb] at z3
        clear hyb
        by_cases hm1 : m = 1
        rotate_left
        · have hmb := beq_eq_false_iff_ne.mpr hm1
          have hF : o' = F := by have h := HF2.out; rw [← HTL.out, if_neg (fun h => by have := h.1.1; have := HM.out; omega), List.map_nil, List.append_nil] at h; exact h
          subst hF
          go_wp2
          go_ret
          exact ⟨_, rfl, HTB.out⟩
        have hmb := beq_iff_eq.mpr hm1
        cases off with
        | true =>
          have hF : o' = F := by have h := HF2.out; rw [← HTL.out, if_neg (fun h => by cases h.1.2), List.map_nil, List.append_nil] at h; exact h
          subst hF
          go_wp2
          go_ret
          exact ⟨_, rfl, HTB.out⟩
        | false =>
          cases yb with
          | true =>
            have hF : o' = F := by have h := HF2.out; rw [← HTL.out, if_neg (fun h => by have := h.2; rw [HYB.out] at this; cases this), List.map_nil, List.append_nil] at h; exact h
            subst hF
            go_wp2
            go_ret
            exact ⟨_, rfl, HTB.out⟩
          | false =>
            have HF3 : Aside0 (o' ++ (Swiss.enum (sysL l) f (wl.set i (-1)) (c + (sysL l).byeC i) true).map toP = F) := ⟨by have h := HF2.out; rw [← HTL.out, if_pos ⟨⟨by have := HM.out; omega, rfl⟩, HYB.out⟩] at h; exact h⟩
            clear HF2 HTL
            have hy1 := row_cell HTB.out.p H0B.out.1 (by have := HWL.out; have := H0B.out.2; omega)
            go_upto_region 22 with fail
            have hset : wl.set b.toNat (-1) = wl.set i (-1) := by rw [HJ.out, Int.toNat_natCast]
            have HT10 : Aside0 (SB w0 gw (wl.set i (-1)) u0 o' (wr.setCell ⟨gw, b.toNat, none⟩ (.int .i64 (-1)))) := ⟨by rw [← hset]; exact HTB.out.put HGW.out _ _⟩
            clear hset HTB hy1 hlt hm hmb z3
            generalize (wr.setCell ⟨gw, b.toNat, none⟩ (.int .i64 (-1))) = w10 at HT10 ⊢
            have HTD := xm (HT10.out.below (below_drew1 (Below.refl _ _)))
            have zA := xR (xm HTD.out.b) Z0.out
            refine start_ (n := 19) (S := Cells [(ad.add (b.toNat * 4), .int .i64 (rd_T33 l b).f0)]) (ds := [17]) (mk 19 0) (by kernel_rfl) rfl rfl ⟨zA, trivial⟩ (fun hHeld => ?_)
            refine with_tabW sw_prs.tab22 sw_prs.bits22 (fun HT_ HW_ => ?_)
            clear zA HT10
            generalize w10.drew = wd at HTD hHeld ⊢
            refine pu_ 0 146 HT_ ?_; refine pu_ 1 147 HT_ ?_; refine pu_ 2 148 HT_ ?_; refine pu_ 3 149 HT_ ?_; refine pu_ 4 150 HT_ ?_; refine pu_ 5 151 HT_ ?_; refine pu_ 6 152 HT_ ?_; refine pu_ 7 153 HT_ ?_; refine tc_ 8 154 HT_ HW_ hHeld ?_
            refine pu_ 9 155 HT_ ?_; refine pu_ 10 156 HT_ ?_; refine pu_ 11 157 HT_ ?_; refine pu_ 12 158 HT_ ?_; refine pu_ 13 159 HT_ ?_; refine tc_ 14 160 HT_ HW_ hHeld ?_
            refine pu_ 15 161 HT_ ?_; refine pu_ 16 162 HT_ ?_
            have hia : i < l.length := by have := HI.out.1; have := HWL.out; omega
            have hcin := bye_in HLV.out i hia
            have hun := Swiss.un_set wl i (-1) HI.out.1 HI.out.2 (by decide)
            obtain ⟨⟨a0, a1⟩, _, _⟩ := HLV.out.s b H0B.out.1 H0B.out.2
            have h1 := sq_in (a := (rd_T33 l b).f0) (m := 40) (by omega) (by omega) (by omega)
            have hby : byeL l i = 100 * (rd_T33 l b).f0 * (rd_T33 l b).f0 := by unfold byeL; rw [← HJ.out]
            obtain ⟨c2, hc2⟩ : ∃ c2, c + byeL l i = c2 := ⟨_, rfl⟩
            have hc := HC.out
            have hval : wrap64 (c + wrap64 (wrap64 (100 * (rd_T33 l b).f0) * (rd_T33 l b).f0)) = c2 := by
              rw [w64i (n := 100 * (rd_T33 l b).f0) (by omega) (by omega), ← hby, w64i (n := byeL l i) (by omega) (by omega), hc2]; exact w64i (by omega) (by omega)
            have HC2 : Aside0 (c + (sysL l).byeC i = c2) := ⟨hc2⟩
            have HC3 : Aside0 (0 ≤ c2 ∧ c2 + 200000 * (Swiss.un (wl.set i (-1)) : Int) ≤ 10000000) := ⟨by omega⟩
            have HUN : Aside0 (Swiss.un (wl.set i (-1)) < f) := ⟨by have := HFU.out; omega⟩
            clear hia hcin hun a0 a1 h1 hby hc2 hc
            have hF3 := HF3.out
            rw [HC2.out] at hF3
            refine last_ (i := 17) (N := some 163) (mk 19 262143) rfl rfl (one_of HT_.out (by kernel_rfl)) (by decide) (fun K hK => ?_)
            refine goes_ Try.func31 (by kernel_rfl) rfl #[u0, .slice (some ad) l.length cl, .slice (some ⟨gw, 0, none⟩) l.length l.length, .int .i64 (wrap64 (c + wrap64 (wrap64 (100 * (rd_T33 l b).f0) * (rd_T33 l b).f0))), .bool true] (by rfl) rfl rfl (by (try simp only [List.map_toArray, List.map_cons, List.map_nil]); first | done | rfl) ?_
            rw [hval]
            refine (IH.out _ (wl.set i (-1)) c2 true u0 o' F HUN.out (by rw [List.length_set]; exact HWL.out) HC3.out.1 HC3.out.2 hF3 HFL.out HTD.out).mono ?_
            rintro e w11 ⟨v1, rfl, hS⟩
            refine ⟨_, rfl, ?_⟩
            have HT10 := xm hS
            clear hS HTD hHeld hval hF3
            refine hK.out _ _ ?_; clear hK K
            refine norm_ (a' := ?_) ?_ ?_; rotate_left; (· show Act.put _ (some 163) _ = _; simp only [putAll, Act.put, List.setIfInBounds_toArray, List.set_cons_zero, List.set_cons_succ, i64_w, i32_w]; rfl)
            refine pu_ 18 0 HT_ ?_
            refine done_ (done_of HT_.out (by kernel_rfl)) ?_
            have hy1 := row_cell HT10.out.p H0B.out.1 (by rw [List.length_set]; have := HWL.out; have := H0B.out.2; omega)
            have hback : (wl.set i (-1)).set b.toNat (-2) = wl := by rw [HJ.out, Int.toNat_natCast]; exact Swiss.set_back wl i (-1) HI.out.2 HI.out.1
            have HBK := xm hback
            clear hback
            go_wp2
            go_ret
            exact ⟨_, rfl, by have h := HT10.out.put HGW.out b.toNat (-2); rw [HBK.out] at h; exact h⟩
def pairsV (l : List S33) : List S37 := (Swiss.enum (sysL l) (l.length + 1) (List.replicate l.length (-2)) 0 false).map toP
theorem prss_any (l : List S33) {A : Option Addr} {cl : Nat} (w : World) (hl : LIn w A cl l) (hv : LVal l) :
    Calls Try.prog 11 #[.slice A l.length cl] w fun e w' => ∃ v0_, e = .returned v0_ ∧ Kd.S k37 37 w' w.heap.size (fun _ => True) v0_ (pairsV l) ∧ Below w.heap.size w w' := by
  have hu31 := Try.underlying31
  have hss_ := @isSome_setCell
  have HL := xm hl
  have HV := xm hv
  have W2 := xm (Below.refl w.heap.size w)
  clear hl hv
  go_enter Try.func11, Try.ntmps11
  go_upto_region 3 with ((with_reducible refine gate_dst (N := 7) rfl ?_); refine make_ints l.length rfl rfl rfl Try.underlying31 info3 HV.out.n.2 ?_; intro gw hg w3 hbox hb; have BP := xm hbox; have GP := xm (Nat.le_of_eq hg.symm); replace W2 := xS W2 hb; clear hb hbox hg)
  go_loopg [10] l.length (fun kq v10 w' => ∃ (a : Nat) (b : Int), v10 = .int .i64 b ∧ Aside0 (b = (a : Int)) ∧ Aside0 (a + kq = l.length) ∧ Aside0 (w'.heap[gw]? = some (.cells ⟨(List.replicate a (-2 : Int) ++ List.replicate (l.length - a) 0).map (Value.int .i64)⟩ 3 (0, 0))) ∧ Aside0 (Below w.heap.size w w'))
  case atStart => exact ⟨0, 0, rfl, ⟨rfl⟩, ⟨by omega⟩, ⟨by rw [Nat.sub_zero]; exact BP.out⟩, W2⟩
  case round =>
    clear BP W2
    obtain ⟨a, b, rfl, HJ, HI, BP, W2⟩ := hrel
    by_cases hi : a = l.length
    rotate_left
    · obtain ⟨k1, rfl⟩ : ∃ k1, gk = k1 + 1 := ⟨gk - 1, by have := HI.out; omega⟩
      have q1 : decide (b < (l.length : Int)) = true := decide_eq_true (by have := HJ.out; have := HI.out; omega)
      have hj0 : 0 ≤ b := by have := HJ.out; omega
      have hj1 : b < (l.length : Int) := by have := HJ.out; have := HI.out; omega
      obtain ⟨bn, hbn⟩ : ∃ bn : Int, IntKind.i64.wrap (b + 1) = bn := ⟨_, rfl⟩
      have HBN : Aside0 (bn = ((a + 1 : Nat) : Int)) := ⟨by rw [← hbn, HJ.out, i64_w]; have := HI.out; have := HV.out.n; unfold wrap64; omega⟩
      have hy := row_cell BP.out hj0 (by rw [List.length_append, List.length_replicate, List.length_replicate]; omega)
      have hset : (List.replicate a (-2 : Int) ++ List.replicate (l.length - a) 0).set b.toNat (-2) = List.replicate (a + 1) (-2) ++ List.replicate (l.length - (a + 1)) 0 := by rw [HJ.out, Int.toNat_natCast]; exact rep_set _ _ (by have := HI.out; omega)
      have HSET := xm hset
      clear hset
      replace hj0 := eq_true hj0
      replace hj1 := eq_true hj1
      go_wp2
      go_roundg k1
      case measure => omega
      case rel => exact ⟨a + 1, bn, (xrf), HBN, ⟨by have := HI.out; omega⟩, ⟨by rw [← HSET.out]; exact row_set BP.out _ _⟩, ⟨xW W2⟩⟩
    have hlt : decide (b < (l.length : Int)) = false := decide_eq_false (by have := HJ.out; omega)
    subst hi
    have hp0 := BP.out
    rw [Nat.sub_self, List.replicate_zero, List.append_nil] at hp0
    have HSB : Aside0 (SB w gw (List.replicate l.length (-2)) (.slice none 0 0) [] wr) := ⟨⟨hp0, Kd.S_nil _ _ _ _ _, W2.out⟩⟩
    have HFL : Aside0 ((pairsV l).length ≤ 1000000000) := ⟨by
      unfold pairsV
      rw [List.length_map]
      refine Nat.le_trans (Swiss.enum_len _ HV.out.n.2 _ _ _ _) (Nat.le_trans (Nat.pow_le_pow_right (n := 8) (by omega) (show l.length + 1 ≤ 9 by have := HV.out.n; omega)) (by decide))⟩
    clear hp0 BP W2 HI HJ
    go_wp2_with ((with_reducible refine gate_callee (f := 31) rfl ?_); refine xL (some 19) Try.func31 #[.slice none 0 0, .slice A l.length cl, .slice (some ⟨gw, 0, none⟩) l.length l.length, .int .i64 0, .bool false] rfl ?_; refine (prs_any HL.out HV.out GP.out false (l.length + 1) _ (List.replicate l.length (-2)) 0 false (.slice none 0 0) [] (pairsV l) (by rw [un_rep]; omega) (List.length_replicate ..) (by omega) (by rw [un_rep]; have := HV.out.n; omega) rfl HFL.out HSB.out).mono ?_; rintro e w5 ⟨v1, rfl, hS⟩; refine ⟨_, rfl, ?_⟩; replace HSB := xm hS; clear hS)
    go_ret
    exact ⟨_, rfl, Kd.S_mono HSB.out.r (fun _ _ => trivial), HSB.out.b⟩
def gamehallref3_Pairings.f (k : Nat) (l : List S33) : Option (List S37) := if lvB l = true then some (pairsV l) else none
theorem gamehallref3_Pairings.mono : ∀ l k, LeO (gamehallref3_Pairings.f k l) (gamehallref3_Pairings.f (k + 1) l) := fun _ _ => LeO.refl _
theorem gamehallref3_Pairings.calls (k : Nat) (A0 : Option Addr) (c0 : Nat) (l0 : List S33) (r : List S37) (w : World) (hr0 : Kd.C k33 w A0 l0.length l0) (hc0 : l0.length ≤ c0) (h : gamehallref3_Pairings.f k l0 = some r) :
    Calls Try.prog 11 #[.slice A0 l0.length c0] w fun e w' => ∃ v0_ : Value, e = .returned (v0_) ∧ Kd.S k37 37 w' w.heap.size (fun _ => True) v0_ r ∧ Below w.heap.size w w' := by
  unfold gamehallref3_Pairings.f at h
  by_cases hc : lvB l0 = true
  · rw [if_pos hc] at h
    obtain rfl := Option.some.inj h
    exact prss_any l0 w ⟨hc0, hr0⟩ (lv_of hc)
  · rw [if_neg hc] at h
    cases h
end Go.Proofs.Ytemfkhafkhkffaa.PSwissPairs
