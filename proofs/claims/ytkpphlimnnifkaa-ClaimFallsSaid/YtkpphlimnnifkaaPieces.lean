/- claim.pieces, by hand: how many pieces a player has, how many can become of a type, whether one takes. -/
import Derived.Test.YtkpphlimnnifkaaGivenRep
namespace Go.Proofs.Ytkpphlimnnifkaa.PClaimFalls
open Go.RowKit Go.Proofs.YtkpphlimnnifkaaW.PrintWords Go.Proofs.YtkpphlimnnifkaaW.PrintLast Go.Proofs.YtkpphlimnnifkaaW.PrintMore
set_option maxHeartbeats 4000000
set_option maxRecDepth 100000
set_option linter.unusedVariables false
set_option linter.unusedSimpArgs false
/-- a row of types: where one lies -/
theorem pc_at {w : World} {L : List S104} {ad : Addr} {i : Int} (hc : Kd.C k104 w (some ad) L.length L) (h0 : 0 ≤ i) (h1 : i < (L.length : Int)) : ∃ B3 b3, w.cell? (ad.add (i.toNat * 4)) = some (.int .u8 (rd_T104 L i).f0) ∧ w.cell? ⟨(ad.add (i.toNat * 4)).block, (ad.add (i.toNat * 4)).off + 1, none⟩ = some (.int .i64 (rd_T104 L i).f1) ∧ w.cell? ⟨(ad.add (i.toNat * 4)).block, (ad.add (i.toNat * 4)).off + 2, none⟩ = some (.int .i64 (rd_T104 L i).f2) ∧ w.cell? ⟨(ad.add (i.toNat * 4)).block, (ad.add (i.toNat * 4)).off + 3, none⟩ = some (.slice B3 (rd_T104 L i).f3.length b3) ∧ (rd_T104 L i).f3.length ≤ b3 ∧ k106.C w B3 (rd_T104 L i).f3.length (rd_T104 L i).f3 := by
  obtain ⟨ad', A3, c3, e, x⟩ := at_T104 hc i h0 h1
  obtain rfl : ad = ad' := Option.some.inj e
  exact ⟨A3, c3, x⟩
theorem pc_ad {w : World} {L : List S104} {A : Option Addr} {i : Int} (hc : Kd.C k104 w A L.length L) (h0 : 0 ≤ i) (h1 : i < (L.length : Int)) : ∃ ad, A = some ad := by
  obtain ⟨ad', A3, c3, e, x⟩ := at_T104 hc i h0 h1
  exact ⟨ad', e⟩
/-- rules' types as the walk wants them -/
structure PVal (L : List S104) : Prop where
  len : L.length ≤ 6
  pro : ∀ j : Int, 0 ≤ j → j < (L.length : Int) → 0 ≤ (rd_T104 L j).f2 ∧ (rd_T104 L j).f2 ≤ (L.length : Int)
  way : ∀ j : Int, 0 ≤ j → j < (L.length : Int) → (rd_T104 L j).f3.length ≤ 1000
/-- whether a type can become another one in some steps -/
def becL (L : List S104) (t : Int) : Nat → Int → Bool
  | 0, k => k == t
  | n + 1, k => if k = t then true else if (rd_T104 L k).f2 = 0 then false else becL L t n ((rd_T104 L k).f2 - 1)
theorem becomes_any (r : S26) {A3 : Option Addr} {c3 : Nat} {A4 : Option Addr} {c4 : Nat} {A7 : Option Addr} {c7 : Nat} (w : World) (hr : RIn w A3 c3 A4 c4 A7 c7 r) (hv : PVal r.f3) (k t : Int) (h0 : 0 ≤ k) (h1 : k < (r.f3.length : Int)) :
    Calls Try.prog 71 #[.agg (rulesV A3 c3 A4 c4 A7 c7 r).toArray, .int .i64 k, .int .i64 t] w fun e w' => e = .returned (.bool (becL r.f3 t 6 k)) ∧ Below w.heap.size w w' := by
  have hu26 := Try.underlying26
  have hu104 := Try.underlying104
  have hu22 := Try.underlying22
  obtain ⟨ad, rfl⟩ := pc_ad hr.g3 h0 h1
  have HR := xm hr
  have HV := xm hv
  clear hr hv
  have HB := xm (Below.refl w.heap.size w)
  have hss_ := @isSome_setCell
  unfold rulesV
  go_enter Try.func71, Try.ntmps71
  go_upto_region 2 with ((with_reducible refine gate_dst (N := 3) rfl ?_); refine xG (cs := #[.string r.f0, .int .i64 r.f1, .int .i64 r.f2, .slice (some ad) r.f3.length c3, .slice A4 r.f4.length c4, .bool r.f5, .bool r.f6, .slice A7 r.f7.length c7, .int .i64 r.f8, .int .i64 r.f9, .int .i64 r.f10]) (t := 26) ?_; intro gb hg w1 hbox hb; have BK := xm hbox; replace HB := xS HB hb; clear hb hbox hg)
  go_loopg [1, 7] 6 (fun kq v1 v7 w' => ∃ (i : Nat) (j kk : Int), v1 = .int .i64 kk ∧ v7 = .int .i64 j ∧ Aside0 (j = (i : Int)) ∧ Aside0 (i + kq = 6) ∧ Aside0 (0 ≤ kk) ∧ Aside0 (kk < (r.f3.length : Int)) ∧ Aside0 (becL r.f3 t kq kk = becL r.f3 t 6 k) ∧ Aside0 (w'.heap[gb]? = some (.cells #[.string r.f0, .int .i64 r.f1, .int .i64 r.f2, .slice (some ad) r.f3.length c3, .slice A4 r.f4.length c4, .bool r.f5, .bool r.f6, .slice A7 r.f7.length c7, .int .i64 r.f8, .int .i64 r.f9, .int .i64 r.f10] 26 (0, 0))) ∧ Aside0 (Below w.heap.size w w'))
  case atStart => exact ⟨0, 0, k, rfl, rfl, ⟨rfl⟩, ⟨rfl⟩, ⟨h0⟩, ⟨h1⟩, ⟨rfl⟩, ⟨xK BK⟩, ⟨xW HB⟩⟩
  case round =>
    clear h0 h1 HB BK
    obtain ⟨i, j, kk, rfl, rfl, HJ, HI, H0, H1, HE, BK, HB⟩ := hrel
    by_cases hi : i = 6
    · have hlt : decide (j < 6) = false := decide_eq_false (by have := HJ.out; omega)
      have hE := HE.out
      rw [show gk = 0 by have := HI.out; omega, becL] at hE
      go_wp2
      go_ret
      exact ⟨by first | rfl | (rw [hE]; rfl), xW HB⟩
    obtain ⟨k1, rfl⟩ : ∃ k1, gk = k1 + 1 := ⟨gk - 1, by have := HI.out; omega⟩
    have q1 : decide (j < 6) = true := decide_eq_true (by have := HJ.out; have := HI.out; omega)
    have hE := HE.out
    rw [becL] at hE
    by_cases hk : kk = t
    · rw [if_pos hk] at hE
      replace hE := hE.symm
      have hkb := beq_iff_eq.mpr hk
      go_wp2
      go_ret
      exact ⟨by first | rfl | (rw [hE]; rfl), xW HB⟩
    rw [if_neg hk] at hE
    have hkb := beq_eq_false_iff_ne.mpr hk
    obtain ⟨B3, b3, z0, z1, z2, z3, zl, zc⟩ := pc_at HR.out.g3 H0.out H1.out
    replace z2 := xR HB z2
    clear z0 z1 z3 zl zc
    have p0 : (0 ≤ kk) = True := eq_true H0.out
    have p1 : (kk < (r.f3.length : Int)) = True := eq_true H1.out
    have hcz := blkc11 BK.out
    by_cases hp : (rd_T104 r.f3 kk).f2 = 0
    · rw [if_pos hp] at hE
      replace hE := hE.symm
      have hpb := beq_iff_eq.mpr hp
      go_wp2
      go_ret
      exact ⟨by first | rfl | (rw [hE]; rfl), xW HB⟩
    rw [if_neg hp] at hE
    have hpb := beq_eq_false_iff_ne.mpr hp
    have hpr := HV.out.pro kk H0.out H1.out
    have hle := HV.out.len
    obtain ⟨kn, hkn⟩ : ∃ kn : Int, (rd_T104 r.f3 kk).f2 - 1 = kn := ⟨_, rfl⟩
    rw [hkn] at hE
    have hw : IntKind.i64.wrap ((rd_T104 r.f3 kk).f2 - 1) = kn := by rw [hkn, i64_w]; unfold wrap64; omega
    obtain ⟨jn, hjn⟩ : ∃ jn : Int, IntKind.i64.wrap (j + 1) = jn := ⟨_, rfl⟩
    have HJN : Aside0 (jn = ((i + 1 : Nat) : Int)) := ⟨by rw [← hjn, HJ.out, i64_w]; have := HI.out; unfold wrap64; omega⟩
    have HN := xm (show 0 ≤ kn ∧ kn < (r.f3.length : Int) from by omega)
    have HE2 := xm hE
    clear hpr hle hkn hE
    go_wp2
    go_roundg k1
    case measure => omega
    case rel => exact ⟨i + 1, jn, kn, (xrf), (xrf), HJN, ⟨by have := HI.out; omega⟩, ⟨HN.out.1⟩, ⟨HN.out.2⟩, HE2, ⟨xK BK⟩, ⟨xW HB⟩⟩
/-- whether some way takes -/
def tkW (n : Int) : List S106 → Bool → Bool
  | [], b => b
  | x :: xs, b => tkW n xs (b || (decide (n > 0) && decide (x.f3 ≠ 0)))
/-- what 'count' makes of its sums -/
def cntB (L : List S104) (t : Int) (x : Int × Int × Bool) (k n : Int) : Int × Int × Bool := (wrap64 (x.1 + n), if becL L t 6 k = true then wrap64 (x.2.1 + n) else x.2.1, tkW n (rd_T104 L k).f3 x.2.2)
theorem drop_wy (xs : List S106) (s : Nat) (h : s < xs.length) : xs.drop s = rd_T106 xs (s : Int) :: xs.drop (s + 1) := by
  rw [List.drop_eq_getElem_cons h, show rd_T106 xs (s : Int) = xs[s] by simp [rd_T106, List.getD_eq_getElem?_getD, h]]
/-- what 'count' finds in memory -/
structure CIn (w0 : World) (ga gr gd gs gt : Nat) (A3 : Option Addr) (c3 : Nat) (A4 : Option Addr) (c4 : Nat) (A7 : Option Addr) (c7 : Nat) (r : S26) (t : Int) (x : Int × Int × Bool) (w : World) : Prop where
  a : w.heap[ga]? = some (.cells #[.int .i64 x.1] 3 (0, 0))
  b : w.heap[gs]? = some (.cells #[.int .i64 x.2.1] 3 (0, 0))
  c : w.heap[gt]? = some (.cells #[.bool x.2.2] 4 (0, 0))
  k : w.heap[gd]? = some (.cells #[.int .i64 t] 3 (0, 0))
  r : w.heap[gr]? = some (.cells #[.string r.f0, .int .i64 r.f1, .int .i64 r.f2, .slice A3 r.f3.length c3, .slice A4 r.f4.length c4, .bool r.f5, .bool r.f6, .slice A7 r.f7.length c7, .int .i64 r.f8, .int .i64 r.f9, .int .i64 r.f10] 26 (0, 0))
  bl : Below w0.heap.size w0 w
structure CNe (w0 : World) (ga gr gd gs gt : Nat) : Prop where
  as_ : ga ≠ gs
  at_ : ga ≠ gt
  ak : ga ≠ gd
  ar : ga ≠ gr
  st : gs ≠ gt
  sk : gs ≠ gd
  sr : gs ≠ gr
  tk : gt ≠ gd
  tr : gt ≠ gr
  a : w0.heap.size ≤ ga
  s : w0.heap.size ≤ gs
  t : w0.heap.size ≤ gt
theorem cnt_any (r : S26) {A3 : Option Addr} {c3 : Nat} {A4 : Option Addr} {c4 : Nat} {A7 : Option Addr} {c7 : Nat} (w0 w : World) (ga gr gd gs gt : Nat) (hr : RIn w0 A3 c3 A4 c4 A7 c7 r) (hv : PVal r.f3) (k n t : Int) (x : Int × Int × Bool) (h0 : 0 ≤ k) (h1 : k < (r.f3.length : Int)) (hn : CNe w0 ga gr gd gs gt) (hc : CIn w0 ga gr gd gs gt A3 c3 A4 c4 A7 c7 r t x w) :
    Calls Try.prog 70 #[.int .i64 k, .int .i64 n, .pointer (some ⟨ga, 0, none⟩), .pointer (some ⟨gr, 0, none⟩), .pointer (some ⟨gd, 0, none⟩), .pointer (some ⟨gs, 0, none⟩), .pointer (some ⟨gt, 0, none⟩)] w fun e w' => (∃ v, e = .returned v) ∧ CIn w0 ga gr gd gs gt A3 c3 A4 c4 A7 c7 r t (cntB r.f3 t x k n) w' := by
  have hu26 := Try.underlying26
  have hu104 := Try.underlying104
  have hu22 := Try.underlying22
  have hu106 := Try.underlying106
  obtain ⟨ad, rfl⟩ := pc_ad hr.g3 h0 h1
  obtain ⟨x1, x2, x3⟩ := x
  have HR := xm hr
  have HV := xm hv
  have HB := xm hc.bl
  have BA := xm hc.a
  have BS := xm hc.b
  have BT := xm hc.c
  have BK := xm hc.k
  have BR := xm hc.r
  have GA := xm hn.a
  have GS := xm hn.s
  have GT := xm hn.t
  have NNas := xm hn.as_; have NNsa := xm (Ne.symm hn.as_); have nnas := hn.as_; have nnsa := Ne.symm hn.as_; have NNat := xm hn.at_; have NNta := xm (Ne.symm hn.at_); have nnat := hn.at_; have nnta := Ne.symm hn.at_; have NNak := xm hn.ak; have NNka := xm (Ne.symm hn.ak); have nnak := hn.ak; have nnka := Ne.symm hn.ak; have NNar := xm hn.ar; have NNra := xm (Ne.symm hn.ar); have nnar := hn.ar; have nnra := Ne.symm hn.ar; have NNst := xm hn.st; have NNts := xm (Ne.symm hn.st); have nnst := hn.st; have nnts := Ne.symm hn.st; have NNsk := xm hn.sk; have NNks := xm (Ne.symm hn.sk); have nnsk := hn.sk; have nnks := Ne.symm hn.sk; have NNsr := xm hn.sr; have NNrs := xm (Ne.symm hn.sr); have nnsr := hn.sr; have nnrs := Ne.symm hn.sr; have NNtk := xm hn.tk; have NNkt := xm (Ne.symm hn.tk); have nntk := hn.tk; have nnkt := Ne.symm hn.tk; have NNtr := xm hn.tr; have NNrt := xm (Ne.symm hn.tr); have nntr := hn.tr; have nnrt := Ne.symm hn.tr
  have H0 := xm h0
  have H1 := xm h1
  clear hc hr hv hn h0 h1
  have hss_ := @isSome_setCell
  obtain ⟨m1, hm1⟩ : ∃ m1 : Int, wrap64 (x1 + n) = m1 := ⟨_, rfl⟩
  obtain ⟨m2, hm2⟩ : ∃ m2 : Int, wrap64 (x2 + n) = m2 := ⟨_, rfl⟩
  have hw1 : IntKind.i64.wrap (x1 + n) = m1 := (i64_w _).trans hm1
  have hw2 : IntKind.i64.wrap (x2 + n) = m2 := (i64_w _).trans hm2
  have HM1 := xm hm1
  have HM2 := xm hm2
  clear hm1 hm2
  have hz1 := blkc1 BA.out
  have hz2 := blkc1 BS.out
  have hz3 := blkc1 BT.out
  have hz4 := blkc1 BK.out
  have hz5 := blkc11 BR.out
  dsimp only at hz1 hz2 hz3
  go_enter Try.func70, Try.ntmps70
  go_upto_if 17 with ((with_reducible refine gate_callee (f := 71) rfl ?_); refine xL (some 17) Try.func71 #[.agg #[.string r.f0, .int .i64 r.f1, .int .i64 r.f2, .slice (some ad) r.f3.length c3, .slice A4 r.f4.length c4, .bool r.f5, .bool r.f6, .slice A7 r.f7.length c7, .int .i64 r.f8, .int .i64 r.f9, .int .i64 r.f10], .int .i64 k, .int .i64 t] rfl ?_; refine (becomes_any r _ (HR.out.below (xW HB)) HV.out k t H0.out H1.out).mono ?_; rintro e w2 ⟨rfl, hb⟩; refine ⟨_, rfl, ?_⟩; have BA2 : Aside0 (w2.heap[ga]? = some (.cells #[.int .i64 m1] 3 (0, 0))) := ⟨xP BA hb⟩; replace BA := BA2; replace BS := xB BS hb; replace BT := xB BT hb; replace BK := xB BK hb; replace BR := xB BR hb; replace HB := xS HB hb; clear hb BA2 hz1 hz2 hz3 hz4 hz5; have hz2 := blkc1 BS.out; dsimp only at hz2)
  obtain ⟨m3, hm3⟩ : ∃ m3 : Int, (if becL r.f3 t 6 k = true then m2 else x2) = m3 := ⟨_, rfl⟩
  have HM3 := xm hm3
  clear hm3
  simp only [Act.put, List.setIfInBounds_toArray, List.set_cons_zero, List.set_cons_succ]
  go_cut [] (fun wc => Aside0 (wc.heap[ga]? = some (.cells #[.int .i64 m1] 3 (0, 0))) ∧ Aside0 (wc.heap[gs]? = some (.cells #[.int .i64 m3] 3 (0, 0))) ∧ Aside0 (wc.heap[gt]? = some (.cells #[.bool x3] 4 (0, 0))) ∧ Aside0 (wc.heap[gd]? = some (.cells #[.int .i64 t] 3 (0, 0))) ∧ Aside0 (wc.heap[gr]? = some (.cells #[.string r.f0, .int .i64 r.f1, .int .i64 r.f2, .slice (some ad) r.f3.length c3, .slice A4 r.f4.length c4, .bool r.f5, .bool r.f6, .slice A7 r.f7.length c7, .int .i64 r.f8, .int .i64 r.f9, .int .i64 r.f10] 26 (0, 0))) ∧ Aside0 (Below w0.heap.size w0 wc))
  case first =>
    cases hbe : becL r.f3 t 6 k with
    | true =>
      have h3 : m2 = m3 := by rw [← HM3.out, hbe, if_pos rfl]
      subst h3
      go_wp2
      go_meet
      case rel => exact ⟨⟨xK BA⟩, ⟨xQ BS⟩, ⟨xK BT⟩, ⟨xK BK⟩, ⟨xK BR⟩, ⟨xW HB⟩⟩
    | false =>
      have h3 : x2 = m3 := by rw [← HM3.out, hbe, if_neg (by decide)]
      subst h3
      go_wp2
      go_meet
      case rel => exact ⟨BA, BS, BT, BK, BR, HB⟩
  case rest =>
    clear BA BS BT BK BR HB hz2
    obtain ⟨BA, BS, BT, BK, BR, HB⟩ := hcut
    obtain ⟨B3, b3, z0, z1, z2, z3, zl, zc⟩ := pc_at HR.out.g3 H0.out H1.out
    obtain ⟨ws, hws⟩ : ∃ ws, (rd_T104 r.f3 k).f3 = ws := ⟨_, rfl⟩
    have HL : Aside0 (ws.length ≤ 1000) := ⟨by rw [← hws]; exact HV.out.way k H0.out H1.out⟩
    rw [hws] at z3 zl zc
    have HWS := xm hws
    have ZL := xm zl
    have ZC := xm zc
    replace z3 := xR HB z3
    clear z0 z1 z2 zl zc hws
    have p0 : (0 ≤ k) = True := eq_true H0.out
    have p1 : (k < (r.f3.length : Int)) = True := eq_true H1.out
    have hz5 := blkc11 BR.out
    go_upto_region 4 with fail
    obtain ⟨tf, htf⟩ : ∃ tf, tkW n ws x3 = tf := ⟨_, rfl⟩
    have HTF := xm htf
    clear htf z3 hz5 p0 p1
    go_loopg [28] ws.length (fun kq v28 w' => ∃ (i : Nat) (j : Int) (b : Bool), v28 = .int .i64 j ∧ Aside0 (j = (i : Int)) ∧ Aside0 (i + kq = ws.length) ∧ Aside0 (tkW n (ws.drop i) b = tf) ∧ Aside0 (w'.heap[ga]? = some (.cells #[.int .i64 m1] 3 (0, 0))) ∧ Aside0 (w'.heap[gs]? = some (.cells #[.int .i64 m3] 3 (0, 0))) ∧ Aside0 (w'.heap[gt]? = some (.cells #[.bool b] 4 (0, 0))) ∧ Aside0 (w'.heap[gd]? = some (.cells #[.int .i64 t] 3 (0, 0))) ∧ Aside0 (w'.heap[gr]? = some (.cells #[.string r.f0, .int .i64 r.f1, .int .i64 r.f2, .slice (some ad) r.f3.length c3, .slice A4 r.f4.length c4, .bool r.f5, .bool r.f6, .slice A7 r.f7.length c7, .int .i64 r.f8, .int .i64 r.f9, .int .i64 r.f10] 26 (0, 0))) ∧ Aside0 (Below w0.heap.size w0 w'))
    case atStart => exact ⟨0, 0, x3, rfl, ⟨rfl⟩, ⟨by omega⟩, HTF, ⟨xK BA⟩, ⟨xK BS⟩, ⟨xK BT⟩, ⟨xK BK⟩, ⟨xK BR⟩, ⟨xW HB⟩⟩
    case round =>
      clear BA BS BT BK BR HB
      obtain ⟨i, j, b, rfl, HJ, HI, HT, BA, BS, BT, BK, BR, HB⟩ := hrel
      by_cases hi : i = ws.length
      · have hlt : decide (j < (ws.length : Int)) = false := decide_eq_false (by have := HJ.out; omega)
        have hT := HT.out
        rw [hi, List.drop_length, tkW] at hT
        subst hT
        go_wp2
        go_end0
        exact ⟨⟨_, rfl⟩, by
          have e1 := HM1.out; have e2 := HM2.out; have e3 := HM3.out; have e4 := HTF.out; have e5 := HWS.out
          have hx : cntB r.f3 t (x1, x2, x3) k n = (m1, m3, b) := by unfold cntB; rw [e1, e5, e4, ← e3, ← e2]
          rw [hx]
          exact ⟨BA.out, BS.out, BT.out, BK.out, BR.out, HB.out⟩⟩
      obtain ⟨k1, rfl⟩ : ∃ k1, gk = k1 + 1 := ⟨gk - 1, by have := HI.out; omega⟩
      have q1 : decide (j < (ws.length : Int)) = true := decide_eq_true (by have := HJ.out; have := HI.out; omega)
      have hj0 : 0 ≤ j := by have := HJ.out; omega
      have hj1 : j < (ws.length : Int) := by have := HJ.out; have := HI.out; omega
      obtain ⟨aw, e, y0, y1, y2, y3⟩ := at_T106 ZC.out j hj0 hj1
      obtain rfl := e
      replace y0 := xR HB y0
      replace y1 := xR HB y1
      replace y2 := xR HB y2
      replace y3 := xR HB y3
      have hT := HT.out
      rw [drop_wy ws i (by have := HI.out; omega), tkW] at hT
      rw [← HJ.out] at hT
      have HT2 := xm hT
      clear hT
      replace hj0 := eq_true hj0
      replace hj1 := eq_true hj1
      obtain ⟨jn, hjn⟩ : ∃ jn : Int, IntKind.i64.wrap (j + 1) = jn := ⟨_, rfl⟩
      have HJN : Aside0 (jn = ((i + 1 : Nat) : Int)) := ⟨by rw [← hjn, HJ.out, i64_w]; have := HI.out; have := HL.out; unfold wrap64; omega⟩
      cases b with
      | true =>
        have hz3 := blkc1 BT.out
        go_wp2_with ((with_reducible refine gate_dst (N := 10) rfl ?_); refine xG (cs := #[.int .i64 0, .int .i64 0, .int .i64 0, .int .i64 0]) (t := 106) ?_; intro gw hg w5 hbox hb; have BW := xm hbox; have GW := xZ HB hg; have NW1 := xN BT hg; have NW2 := xM BT hg; have NW3 := xN BA hg; have NW4 := xM BA hg; have NW5 := xN BS hg; have NW6 := xM BS hg; have NW7 := xN BK hg; have NW8 := xM BK hg; have NW9 := xN BR hg; have NW10 := xM BR hg; replace BA := xB BA hb; replace BS := xB BS hb; replace BT := xB BT hb; replace BK := xB BK hb; replace BR := xB BR hb; replace y0 := (hb.cell (World.block_lt_of_cell? _ _ y0)).trans y0; replace y1 := (hb.cell (World.block_lt_of_cell? _ _ y1)).trans y1; replace y2 := (hb.cell (World.block_lt_of_cell? _ _ y2)).trans y2; replace y3 := (hb.cell (World.block_lt_of_cell? _ _ y3)).trans y3; replace HB := xS HB hb; clear hb hbox hg hz3; have nw1 := NW1.out; have nw2 := NW2.out; have hz3 := blkc1 BT.out; have hz9 := blkc4 BW.out)
        go_roundg k1
        case measure => omega
        case rel => exact ⟨i + 1, jn, true, (xrf), HJN, ⟨by have := HI.out; omega⟩, HT2, ⟨xK BA⟩, ⟨xK BS⟩, ⟨xQ BT⟩, ⟨xK BK⟩, ⟨xK BR⟩, ⟨xW HB⟩⟩
      | false =>
        have hz3 := blkc1 BT.out
        by_cases hn : n > 0
        rotate_left
        · have hnb := decide_eq_false hn
          have HT3 : Aside0 (tkW n (ws.drop (i + 1)) false = tf) := ⟨by have := HT2.out; rw [decide_eq_false hn] at this; exact this⟩
          go_wp2_with ((with_reducible refine gate_dst (N := 10) rfl ?_); refine xG (cs := #[.int .i64 0, .int .i64 0, .int .i64 0, .int .i64 0]) (t := 106) ?_; intro gw hg w5 hbox hb; have BW := xm hbox; have GW := xZ HB hg; have NW1 := xN BT hg; have NW2 := xM BT hg; have NW3 := xN BA hg; have NW4 := xM BA hg; have NW5 := xN BS hg; have NW6 := xM BS hg; have NW7 := xN BK hg; have NW8 := xM BK hg; have NW9 := xN BR hg; have NW10 := xM BR hg; replace BA := xB BA hb; replace BS := xB BS hb; replace BT := xB BT hb; replace BK := xB BK hb; replace BR := xB BR hb; replace y0 := (hb.cell (World.block_lt_of_cell? _ _ y0)).trans y0; replace y1 := (hb.cell (World.block_lt_of_cell? _ _ y1)).trans y1; replace y2 := (hb.cell (World.block_lt_of_cell? _ _ y2)).trans y2; replace y3 := (hb.cell (World.block_lt_of_cell? _ _ y3)).trans y3; replace HB := xS HB hb; clear hb hbox hg hz3; have nw1 := NW1.out; have nw2 := NW2.out; have hz3 := blkc1 BT.out; have hz9 := blkc4 BW.out)
          go_roundg k1
          case measure => omega
          case rel => exact ⟨i + 1, jn, false, (xrf), HJN, ⟨by have := HI.out; omega⟩, HT3, ⟨xK BA⟩, ⟨xK BS⟩, ⟨xQ BT⟩, ⟨xK BK⟩, ⟨xK BR⟩, ⟨xW HB⟩⟩
        have hnb := decide_eq_true hn
        by_cases ht : (rd_T106 ws j).f3 = 0
        · have htb := bne_eq_false_iff_eq.mpr ht
          have HT3 : Aside0 (tkW n (ws.drop (i + 1)) false = tf) := ⟨by have := HT2.out; rw [decide_eq_true hn, decide_eq_false (not_not_intro ht)] at this; exact this⟩
          go_wp2_with ((with_reducible refine gate_dst (N := 10) rfl ?_); refine xG (cs := #[.int .i64 0, .int .i64 0, .int .i64 0, .int .i64 0]) (t := 106) ?_; intro gw hg w5 hbox hb; have BW := xm hbox; have GW := xZ HB hg; have NW1 := xN BT hg; have NW2 := xM BT hg; have NW3 := xN BA hg; have NW4 := xM BA hg; have NW5 := xN BS hg; have NW6 := xM BS hg; have NW7 := xN BK hg; have NW8 := xM BK hg; have NW9 := xN BR hg; have NW10 := xM BR hg; replace BA := xB BA hb; replace BS := xB BS hb; replace BT := xB BT hb; replace BK := xB BK hb; replace BR := xB BR hb; replace y0 := (hb.cell (World.block_lt_of_cell? _ _ y0)).trans y0; replace y1 := (hb.cell (World.block_lt_of_cell? _ _ y1)).trans y1; replace y2 := (hb.cell (World.block_lt_of_cell? _ _ y2)).trans y2; replace y3 := (hb.cell (World.block_lt_of_cell? _ _ y3)).trans y3; replace HB := xS HB hb; clear hb hbox hg hz3; have nw1 := NW1.out; have nw2 := NW2.out; have hz3 := blkc1 BT.out; have hz9 := blkc4 BW.out)
          go_roundg k1
          case measure => omega
          case rel => exact ⟨i + 1, jn, false, (xrf), HJN, ⟨by have := HI.out; omega⟩, HT3, ⟨xK BA⟩, ⟨xK BS⟩, ⟨xQ BT⟩, ⟨xK BK⟩, ⟨xK BR⟩, ⟨xW HB⟩⟩
        · have htb := bne_iff_ne.mpr ht
          have HT3 : Aside0 (tkW n (ws.drop (i + 1)) true = tf) := ⟨by have := HT2.out; rw [decide_eq_true hn, decide_eq_true ht] at this; exact this⟩
          go_wp2_with ((with_reducible refine gate_dst (N := 10) rfl ?_); refine xG (cs := #[.int .i64 0, .int .i64 0, .int .i64 0, .int .i64 0]) (t := 106) ?_; intro gw hg w5 hbox hb; have BW := xm hbox; have GW := xZ HB hg; have NW1 := xN BT hg; have NW2 := xM BT hg; have NW3 := xN BA hg; have NW4 := xM BA hg; have NW5 := xN BS hg; have NW6 := xM BS hg; have NW7 := xN BK hg; have NW8 := xM BK hg; have NW9 := xN BR hg; have NW10 := xM BR hg; replace BA := xB BA hb; replace BS := xB BS hb; replace BT := xB BT hb; replace BK := xB BK hb; replace BR := xB BR hb; replace y0 := (hb.cell (World.block_lt_of_cell? _ _ y0)).trans y0; replace y1 := (hb.cell (World.block_lt_of_cell? _ _ y1)).trans y1; replace y2 := (hb.cell (World.block_lt_of_cell? _ _ y2)).trans y2; replace y3 := (hb.cell (World.block_lt_of_cell? _ _ y3)).trans y3; replace HB := xS HB hb; clear hb hbox hg hz3; have nw1 := NW1.out; have nw2 := NW2.out; have hz3 := blkc1 BT.out; have hz9 := blkc4 BW.out)
          go_roundg k1
          case measure => omega
          case rel => exact ⟨i + 1, jn, true, (xrf), HJN, ⟨by have := HI.out; omega⟩, HT3, ⟨xK BA⟩, ⟨xK BS⟩, ⟨xQ BT⟩, ⟨xK BK⟩, ⟨xK BR⟩, ⟨xW HB⟩⟩
theorem cnt_w {w0 w w1 : World} {ga gr gd gs gt : Nat} {A3 : Option Addr} {c3 : Nat} {A4 : Option Addr} {c4 : Nat} {A7 : Option Addr} {c7 : Nat} {r : S26} {t : Int} {x : Int × Int × Bool} (h : CIn w0 ga gr gd gs gt A3 c3 A4 c4 A7 c7 r t x w) (hb : Below w.heap.size w w1) : CIn w0 ga gr gd gs gt A3 c3 A4 c4 A7 c7 r t x w1 :=
  ⟨blk_below h.a hb, blk_below h.b hb, blk_below h.c hb, blk_below h.k hb, blk_below h.r hb, below_step h.bl hb⟩
def ownC (c : Int) : Int := if c = 0 then -1 else Int.tmod (wrap64 (c - 1)) 2
def kindC (c : Int) : Int := wrap64 (Int.tdiv (wrap64 (c - 1)) 2)
theorem own_c (c : Int) : moves_Owner.f c = some (ownC c) := by unfold moves_Owner.f ownC; split <;> rfl
def cellsF (L : List S104) (t pl : Int) : List Int → Int × Int × Bool → Int × Int × Bool
  | [], x => x
  | c :: cs, x => cellsF L t pl cs (if ownC c = pl then cntB L t x (kindC c) 1 else x)
def handsF (L : List S104) (t : Int) : Int → List Int → Int × Int × Bool → Int × Int × Bool
  | _, [], x => x
  | k, n :: ns, x => handsF L t (k + 1) ns (cntB L t x k n)
def handOf (p : S41) (pl : Int) : List Int := if pl = 0 then p.f1.f0 else p.f1.f1
theorem drop_int (xs : List Int) (s : Nat) (h : s < xs.length) : xs.drop s = rd xs (s : Int) :: xs.drop (s + 1) := by
  rw [List.drop_eq_getElem_cons h, show rd xs (s : Int) = xs[s] by simp [rd, List.getD_eq_getElem?_getD, h]]
theorem mem_int (xs : List Int) (s : Nat) (h : s < xs.length) : rd xs (s : Int) ∈ xs := by
  rw [show rd xs (s : Int) = xs[s] by simp [rd, List.getD_eq_getElem?_getD, h]]; exact List.getElem_mem _
/-- what the walk wants of a position -/
structure QVal (L : List S104) (p : S41) (pl : Int) : Prop where
  c : ∀ c ∈ p.f0, 0 ≤ c ∧ c ≤ 2 * (L.length : Int)
  cl : p.f0.length ≤ 1000
  w : pl = 0 ∨ pl = 1
  h : (handOf p pl).length ≤ L.length
theorem kind_in {n c pl : Int} (h0 : 0 ≤ c) (h1 : c ≤ 2 * n) (hn : n ≤ 6) (hp : pl = 0 ∨ pl = 1) (ho : ownC c = pl) : 0 ≤ kindC c ∧ kindC c < n := by
  unfold ownC at ho
  unfold kindC
  have hc : c ≠ 0 := fun e => by rw [if_pos e] at ho; omega
  have e1 : wrap64 (c - 1) = c - 1 := by unfold wrap64; omega
  rw [e1]
  have e2 : Int.tdiv (c - 1) 2 = (c - 1) / 2 := Int.tdiv_eq_ediv_of_nonneg (by omega)
  rw [e2]
  unfold wrap64
  omega
def claim_pieces.T14 : Bool × List (List Nat × List Nat) := (true, [([], []), ([], []), ([], []), ([0, 0], [0]), ([1, 3, 0, 1, 3], [1]), ([2, 4, 0, 1, 2, 3, 4], [2])])
def claim_pieces.B14 : List Nat := [0, 0, 0, 1, 11, 31]
theorem claim_pieces.tab14 : rtab .any (opsOf Try.f50 14) = claim_pieces.T14 := by kernel_rfl
theorem claim_pieces.bits14 : waitsOk claim_pieces.T14.2 claim_pieces.B14 = true := by kernel_rfl
theorem pieces_any (r : S26) (p : S41) {A3 : Option Addr} {c3 : Nat} {A4 : Option Addr} {c4 : Nat} {A7 : Option Addr} {c7 : Nat} {P0 : Option Addr} {d0 : Nat} {P1 : Option Addr} {d1 : Nat} {P2 : Option Addr} {d2 : Nat} (w : World) (hr : RIn w A3 c3 A4 c4 A7 c7 r) (hp : PIn w P0 d0 P1 d1 P2 d2 p) (hv : PVal r.f3) (pl t : Int) (hq : QVal r.f3 p pl) (x1 x2 : Int) (x3 : Bool) (hx : handsF r.f3 t 0 (handOf p pl) (cellsF r.f3 t pl p.f0 (0, 0, false)) = (x1, x2, x3)) :
    Calls Try.prog 50 #[.agg (rulesV A3 c3 A4 c4 A7 c7 r).toArray, .agg #[.slice P0 p.f0.length d0, .slice P1 p.f1.f0.length d1, .slice P2 p.f1.f1.length d2, .int .i64 p.f2, .int .i64 p.f3], .int .i64 pl, .int .i64 t] w fun e w' => e = .returned (.tuple #[.int .i64 x1, .int .i64 x2, .bool x3]) ∧ Below w.heap.size w w' := by
  have hu26 := Try.underlying26
  have hu41 := Try.underlying41
  have hu39 := Try.underlying39
  have HR := xm hr
  have HP := xm hp
  have HV := xm hv
  have HQ := xm hq
  have HX := xm hx
  clear hr hp hv hq hx
  have HB := xm (Below.refl w.heap.size w)
  have hss_ := @isSome_setCell
  unfold rulesV
  go_enter Try.func50, Try.ntmps50
  go_upto_region 1 with (first
      | ((with_reducible refine gate_dst (N := 4) rfl ?_); refine xG (cs := #[.string r.f0, .int .i64 r.f1, .int .i64 r.f2, .slice A3 r.f3.length c3, .slice A4 r.f4.length c4, .bool r.f5, .bool r.f6, .slice A7 r.f7.length c7, .int .i64 r.f8, .int .i64 r.f9, .int .i64 r.f10]) (t := 26) ?_; intro gr hg w1 hbox hb; have BR := xm hbox; replace HB := xS HB hb; clear hb hbox hg)
      | ((with_reducible refine gate_dst (N := 5) rfl ?_); refine xG (cs := #[.slice P0 p.f0.length d0, .slice P1 p.f1.f0.length d1, .slice P2 p.f1.f1.length d2, .int .i64 p.f2, .int .i64 p.f3]) (t := 41) ?_; intro gp hg w2 hbox hb; have BP := xm hbox; replace BR := xB BR hb; replace HB := xS HB hb; clear hb hbox hg)
      | ((with_reducible refine gate_dst (N := 7) rfl ?_); refine xG (cs := #[.int .i64 t]) (t := 3) ?_; intro gd hg w3 hbox hb; have BK := xm hbox; replace BR := xB BR hb; replace BP := xB BP hb; replace HB := xS HB hb; clear hb hbox hg))
  have W0 : Aside0 (Below w3.heap.size w3 w3) := ⟨Below.refl _ _⟩
  have B03 := xm HB.out
  have BP3 := xm BP.out
  go_upto_region 3 with (first
      | ((with_reducible refine gate_dst (N := 11) rfl ?_); refine xG (cs := #[.int .i64 0]) (t := 3) ?_; intro ga hg w4 hbox hb; have BA := xm hbox; have NBRBA := xN BR hg; have NBABR := xM BR hg; have nBRBA := NBRBA.out; have nBABR := NBABR.out; replace BR := xB BR hb; replace BP := xB BP hb; have NBKBA := xN BK hg; have NBABK := xM BK hg; have nBKBA := NBKBA.out; have nBABK := NBABK.out; replace BK := xB BK hb; have GA := xm (show w3.heap.size ≤ ga from Nat.le_of_eq hg.symm); have WA := xZ HB hg; replace HB := xS HB hb; replace W0 := xS W0 hb; clear hb hbox hg)
      | ((with_reducible refine gate_dst (N := 12) rfl ?_); refine xG (cs := #[.int .i64 0]) (t := 3) ?_; intro gs hg w5 hbox hb; have BS := xm hbox; have NBRBS := xN BR hg; have NBSBR := xM BR hg; have nBRBS := NBRBS.out; have nBSBR := NBSBR.out; replace BR := xB BR hb; replace BP := xB BP hb; have NBKBS := xN BK hg; have NBSBK := xM BK hg; have nBKBS := NBKBS.out; have nBSBK := NBSBK.out; replace BK := xB BK hb; have NBABS := xN BA hg; have NBSBA := xM BA hg; have nBABS := NBABS.out; have nBSBA := NBSBA.out; replace BA := xB BA hb; have GS := xZ W0 hg; have WS := xZ HB hg; replace HB := xS HB hb; replace W0 := xS W0 hb; clear hb hbox hg)
      | ((with_reducible refine gate_dst (N := 13) rfl ?_); refine xG (cs := #[.bool false]) (t := 4) ?_; intro gt hg w6 hbox hb; have BT := xm hbox; have NBRBT := xN BR hg; have NBTBR := xM BR hg; have nBRBT := NBRBT.out; have nBTBR := NBTBR.out; replace BR := xB BR hb; replace BP := xB BP hb; have NBKBT := xN BK hg; have NBTBK := xM BK hg; have nBKBT := NBKBT.out; have nBTBK := NBTBK.out; replace BK := xB BK hb; have NBABT := xN BA hg; have NBTBA := xM BA hg; have nBABT := NBABT.out; have nBTBA := NBTBA.out; replace BA := xB BA hb; have NBSBT := xN BS hg; have NBTBS := xM BS hg; have nBSBT := NBSBT.out; have nBTBS := NBTBS.out; replace BS := xB BS hb; have GT := xZ W0 hg; have WT := xZ HB hg; replace HB := xS HB hb; replace W0 := xS W0 hb; have hz1 := blkc1 BA.out; have hz2 := blkc1 BS.out; have hz3 := blkc1 BT.out; clear hb hbox hg)
      | fail)
  have HC : Aside0 (CIn w3 ga gr gd gs gt A3 c3 A4 c4 A7 c7 r t (0, 0, false) (((w6.setCell ⟨ga, 0, none⟩ (.int .i64 0)).setCell ⟨gs, 0, none⟩ (.int .i64 0)).setCell ⟨gt, 0, none⟩ (.bool false))) := ⟨⟨xQ BA, xQ BS, xQ BT, xK BK, xK BR, xW W0⟩⟩
  have HB2 : Aside0 (Below w.heap.size w (((w6.setCell ⟨ga, 0, none⟩ (.int .i64 0)).setCell ⟨gs, 0, none⟩ (.int .i64 0)).setCell ⟨gt, 0, none⟩ (.bool false))) := ⟨xW HB⟩
  have BP2 : Aside0 ((((w6.setCell ⟨ga, 0, none⟩ (.int .i64 0)).setCell ⟨gs, 0, none⟩ (.int .i64 0)).setCell ⟨gt, 0, none⟩ (.bool false)).heap[gp]? = some (.cells #[.slice P0 p.f0.length d0, .slice P1 p.f1.f0.length d1, .slice P2 p.f1.f1.length d2, .int .i64 p.f2, .int .i64 p.f3] 41 (0, 0))) := ⟨blk_below BP3.out (xW W0)⟩
  have HN : Aside0 (CNe w3 ga gr gd gs gt) := ⟨⟨nBABS, nBABT, nBABK, nBABR, nBSBT, nBSBK, nBSBR, nBTBK, nBTBR, GA.out, GS.out, GT.out⟩⟩
  have HR3 := xm (HR.out.below B03.out)
  have HP3 := xm (HP.out.below B03.out)
  clear BA BS BT BK BR BP HB W0 hz1 hz2 hz3 NBRBA NBABR NBKBA NBABK
  clear HR HP
  generalize (((w6.setCell ⟨ga, 0, none⟩ (.int .i64 0)).setCell ⟨gs, 0, none⟩ (.int .i64 0)).setCell ⟨gt, 0, none⟩ (.bool false)) = wx at HC HB2 BP2 ⊢
  have hz5 := blkc5 BP2.out
  go_upto_region 4 with fail
  clear hz5
  go_loopg [23] p.f0.length (fun kq v23 w' => ∃ (i : Nat) (j : Int) (x : Int × Int × Bool), v23 = .int .i64 j ∧ Aside0 (j = (i : Int)) ∧ Aside0 (i + kq = p.f0.length) ∧ Aside0 (handsF r.f3 t 0 (handOf p pl) (cellsF r.f3 t pl (p.f0.drop i) x) = (x1, x2, x3)) ∧ Aside0 (CIn w3 ga gr gd gs gt A3 c3 A4 c4 A7 c7 r t x w') ∧ Aside0 (w'.heap[gp]? = some (.cells #[.slice P0 p.f0.length d0, .slice P1 p.f1.f0.length d1, .slice P2 p.f1.f1.length d2, .int .i64 p.f2, .int .i64 p.f3] 41 (0, 0))) ∧ Aside0 (Below w.heap.size w w'))
  case atStart => exact ⟨0, 0, _, rfl, ⟨rfl⟩, ⟨by omega⟩, HX, HC, BP2, HB2⟩
  case round =>
    clear HX HC BP2 HB2
    obtain ⟨i, j, x, rfl, HJ, HI, HX, HC, BP, HB⟩ := hrel
    by_cases hi : i = p.f0.length
    rotate_left
    · obtain ⟨k1, rfl⟩ : ∃ k1, gk = k1 + 1 := ⟨gk - 1, by have := HI.out; omega⟩
      have q1 : decide (j < (p.f0.length : Int)) = true := decide_eq_true (by have := HJ.out; have := HI.out; omega)
      have hj0 : 0 ≤ j := by have := HJ.out; omega
      have hj1 : j < (p.f0.length : Int) := by have := HJ.out; have := HI.out; omega
      obtain ⟨ac, e, y0⟩ := Kd.at_int HP3.out.g0 j hj0 hj1
      cases e
      replace y0 := xR (xm HC.out.bl) y0
      have hX := HX.out
      rw [drop_int p.f0 i (by have := HI.out; omega), cellsF, ← HJ.out] at hX
      have hm := HQ.out.c _ (mem_int p.f0 i (by have := HI.out; omega))
      rw [← HJ.out] at hm
      obtain ⟨c, hc⟩ : ∃ c, rd p.f0 j = c := ⟨_, rfl⟩
      rw [hc] at hX hm y0
      have HM := xm hm
      clear hm hc
      replace hj0 := eq_true hj0
      replace hj1 := eq_true hj1
      obtain ⟨jn, hjn⟩ : ∃ jn : Int, IntKind.i64.wrap (j + 1) = jn := ⟨_, rfl⟩
      have HJN : Aside0 (jn = ((i + 1 : Nat) : Int)) := ⟨by rw [← hjn, HJ.out, i64_w]; have := HI.out; have := HQ.out.cl; unfold wrap64; omega⟩
      by_cases ho : ownC c = pl
      · rw [if_pos ho] at hX
        have HX2 := xm hX
        have HK := xm (kind_in HM.out.1 HM.out.2 (by have := HV.out.len; omega) HQ.out.w ho)
        have hob := beq_iff_eq.mpr ho
        clear hX
        go_wp2_with (first
          | ((with_reducible refine gate_callee (f := 72) rfl ?_); refine xL (some 28) Try.func72 #[.int .i64 c] rfl ?_; refine (moves_Owner.calls c _ _ (own_c c)).mono ?_; rintro e w2 ⟨rfl, hd⟩; have hb := hd.below; refine ⟨_, rfl, ?_⟩; replace HC := xm (cnt_w HC.out hb); replace BP := xB BP hb; replace HB := xS HB hb; clear hb hd)
          | ((with_reducible refine gate_callee (f := 57) rfl ?_); refine xL (some 33) Try.func57 #[.int .i64 c] rfl ?_; refine (moves_Kind.calls c (kindC c) _ rfl).mono ?_; rintro e w2 ⟨rfl, hd⟩; have hb := hd.below; refine ⟨_, rfl, ?_⟩; replace HC := xm (cnt_w HC.out hb); replace BP := xB BP hb; replace HB := xS HB hb; clear hb hd)
          | (go_at_call 70; refine (cnt_any r w3 _ ga gr gd gs gt HR3.out HV.out (kindC c) 1 t x HK.out.1 HK.out.2 HN.out HC.out).mono ?_; rintro e w2 ⟨⟨v, rfl⟩, hc2⟩; (try replace BP := xm (blk_below BP3.out hc2.bl)); replace HB := xm (below_step B03.out hc2.bl); replace HC := xm hc2; clear hc2))
        go_roundg k1
        case measure => omega
        case rel => exact ⟨i + 1, jn, _, (xrf), HJN, ⟨by have := HI.out; omega⟩, HX2, HC, BP, HB⟩
      · rw [if_neg ho] at hX
        have HX2 := xm hX
        have hob := beq_eq_false_iff_ne.mpr ho
        clear hX
        go_wp2_with ((with_reducible refine gate_callee (f := 72) rfl ?_); refine xL (some 28) Try.func72 #[.int .i64 c] rfl ?_; refine (moves_Owner.calls c _ _ (own_c c)).mono ?_; rintro e w2 ⟨rfl, hd⟩; have hb := hd.below; refine ⟨_, rfl, ?_⟩; replace HC := xm (cnt_w HC.out hb); replace BP := xB BP hb; replace HB := xS HB hb; clear hb hd)
        go_roundg k1
        case measure => omega
        case rel => exact ⟨i + 1, jn, _, (xrf), HJN, ⟨by have := HI.out; omega⟩, HX2, HC, BP, HB⟩
    have hlt : decide (j < (p.f0.length : Int)) = false := decide_eq_false (by have := HJ.out; omega)
    have hX := HX.out
    rw [hi, List.drop_length, cellsF] at hX
    have HX2 := xm hX
    clear hX HX
    have hz5 := blkc5 BP.out
    obtain ⟨PH, dh, hlh, gh, yh⟩ : ∃ (PH : Option Addr) (dh : Nat), (handOf p pl).length ≤ dh ∧ Kd.C (Kd.int .i64) w3 PH (handOf p pl).length (handOf p pl) ∧ wr.cell? ⟨gp, 1 + pl.toNat, none⟩ = some (.slice PH (handOf p pl).length dh) := by
      rcases HQ.out.w with e | e
      · subst e; exact ⟨P1, d1, HP3.out.l1, HP3.out.g1, yB BP 1⟩
      · subst e; exact ⟨P2, d2, HP3.out.l2, HP3.out.g2, yB BP 2⟩
    have GH := xm gh
    clear hlh gh
    have p0 : (0 ≤ pl) = True := eq_true (by rcases HQ.out.w with e | e <;> omega)
    have p1 : (pl < 2) = True := eq_true (by rcases HQ.out.w with e | e <;> omega)
    go_upto_region 10 with fail
    have hhl : (handOf p pl).length ≤ 6 := Nat.le_trans HQ.out.h HV.out.len
    have HHL := xm hhl
    have HLL := xm HQ.out.h
    obtain ⟨hs, hhs⟩ : ∃ hs, handOf p pl = hs := ⟨_, rfl⟩
    rw [hhs] at GH HX2 HHL HLL ⊢
    clear hhl hhs yh p0 p1 hz5
    go_loopg [41] hs.length (fun kq v41 w' => ∃ (i : Nat) (j : Int) (x : Int × Int × Bool), v41 = .int .i64 j ∧ Aside0 (j = (i : Int)) ∧ Aside0 (i + kq = hs.length) ∧ Aside0 (handsF r.f3 t (i : Int) (hs.drop i) x = (x1, x2, x3)) ∧ Aside0 (CIn w3 ga gr gd gs gt A3 c3 A4 c4 A7 c7 r t x w') ∧ Aside0 (Below w.heap.size w w'))
    case atStart => exact ⟨0, 0, _, rfl, ⟨rfl⟩, ⟨by omega⟩, HX2, HC, HB⟩
    case round =>
      clear HX2 HC BP HB HI HJ hlt hi
      obtain ⟨i, j, x, rfl, HJ, HI, HX, HC, HB⟩ := hrel
      by_cases hi : i = hs.length
      rotate_left
      · obtain ⟨k1, rfl⟩ : ∃ k1, gk = k1 + 1 := ⟨gk - 1, by have := HI.out; omega⟩
        have q1 : decide (j < (hs.length : Int)) = true := decide_eq_true (by have := HJ.out; have := HI.out; omega)
        have hj0 : 0 ≤ j := by have := HJ.out; omega
        have hj1 : j < (hs.length : Int) := by have := HJ.out; have := HI.out; omega
        have HK := xm (show 0 ≤ j ∧ j < (r.f3.length : Int) from ⟨hj0, by have := HLL.out; omega⟩)
        obtain ⟨ac, e, y0⟩ := Kd.at_int GH.out j hj0 hj1
        cases e
        replace y0 := xR (xm HC.out.bl) y0
        have hX := HX.out
        rw [drop_int hs i (by have := HI.out; omega), handsF, ← HJ.out] at hX
        obtain ⟨n, hn⟩ : ∃ n, rd hs j = n := ⟨_, rfl⟩
        rw [hn] at hX y0
        have HX2 := xm hX
        clear hX hn
        replace hj0 := eq_true hj0
        replace hj1 := eq_true hj1
        obtain ⟨jn, hjn⟩ : ∃ jn : Int, IntKind.i64.wrap (j + 1) = jn := ⟨_, rfl⟩
        have HJN : Aside0 (jn = ((i + 1 : Nat) : Int)) := ⟨by rw [← hjn, HJ.out, i64_w]; have := HI.out; have := HHL.out; unfold wrap64; omega⟩
        go_wp2_with (go_at_call 70; refine (cnt_any r w3 _ ga gr gd gs gt HR3.out HV.out j n t x HK.out.1 HK.out.2 HN.out HC.out).mono ?_; rintro e w2 ⟨⟨v, rfl⟩, hc2⟩; (try replace BP := xm (blk_below BP3.out hc2.bl)); replace HB := xm (below_step B03.out hc2.bl); replace HC := xm hc2; clear hc2)
        go_roundg k1
        case measure => omega
        case rel => exact ⟨i + 1, jn, _, (xrf), HJN, ⟨by have := HI.out; omega⟩, ⟨by have := HX2.out; rw [HJ.out] at this ⊢; exact this⟩, HC, HB⟩
      have hlt : decide (j < (hs.length : Int)) = false := decide_eq_false (by have := HJ.out; omega)
      have hX := HX.out
      rw [hi, List.drop_length, handsF] at hX
      subst hX
      have HCD := xm (cnt_w HC.out (below_drew1 (Below.refl _ _)))
      have HBD := xm (below_drew1 HB.out)
      go_upto_region 14 with fail
      have zA := yB (xm HCD.out.a) 0
      have zS := yB (xm HCD.out.b) 0
      have zT := yB (xm HCD.out.c) 0
      refine start_ (n := 6) (S := Cells [(⟨ga, 0, none⟩, .int .i64 x1), (⟨gs, 0, none⟩, .int .i64 x2), (⟨gt, 0, none⟩, .bool x3)]) (ds := []) (mk 6 0) (by kernel_rfl) rfl rfl ⟨zA, zS, zT, trivial⟩ (fun hHeld => ?_)
      refine with_tabW claim_pieces.tab14 claim_pieces.bits14 (fun HT_ HW_ => ?_)
      clear zA zS zT HCD HC
      generalize wr.drew = wd at HBD hHeld ⊢
      refine tc_ 0 51 HT_ HW_ hHeld ?_; refine tc_ 1 52 HT_ HW_ hHeld ?_; refine tc_ 2 53 HT_ HW_ hHeld ?_; refine pu_ 3 8 HT_ ?_; refine pu_ 4 9 HT_ ?_; refine pu_ 5 10 HT_ ?_
      refine done_ (done_of HT_.out (by kernel_rfl)) ?_
      clear hHeld
      go_wp2
      go_ret3
      exact ⟨xer, xW HBD⟩
/-- the two, to be decided -/
def pvB (L : List S104) : Bool := decide (L.length ≤ 6) && L.all (fun x => decide (0 ≤ x.f2 ∧ x.f2 ≤ (L.length : Int)) && decide (x.f3.length ≤ 1000))
def qvB (L : List S104) (p : S41) (pl : Int) : Bool := (p.f0.all (fun c => decide (0 ≤ c ∧ c ≤ 2 * (L.length : Int))) && decide (p.f0.length ≤ 1000)) && (decide (pl = 0 ∨ pl = 1) && decide ((handOf p pl).length ≤ L.length))
theorem pc_mem (L : List S104) (j : Int) (h0 : 0 ≤ j) (h1 : j < (L.length : Int)) : rd_T104 L j ∈ L := by
  have h : j.toNat < L.length := by omega
  rw [show rd_T104 L j = L[j.toNat] by simp [rd_T104, List.getD_eq_getElem?_getD, h]]; exact List.getElem_mem _
theorem pv_of {L : List S104} (h : pvB L = true) : PVal L := by
  unfold pvB at h
  obtain ⟨h1, h2⟩ := Bool.and_eq_true_iff.1 h
  have h3 := fun j h0 h1 => Bool.and_eq_true_iff.1 (List.all_eq_true.1 h2 _ (pc_mem L j h0 h1))
  exact ⟨of_decide_eq_true h1, fun j h0 h1 => of_decide_eq_true (h3 j h0 h1).1, fun j h0 h1 => of_decide_eq_true (h3 j h0 h1).2⟩
theorem qv_of {L : List S104} {p : S41} {pl : Int} (h : qvB L p pl = true) : QVal L p pl := by
  unfold qvB at h
  obtain ⟨h1, h2⟩ := Bool.and_eq_true_iff.1 h
  obtain ⟨h3, h4⟩ := Bool.and_eq_true_iff.1 h1
  obtain ⟨h5, h6⟩ := Bool.and_eq_true_iff.1 h2
  exact ⟨fun c hc => of_decide_eq_true (List.all_eq_true.1 h3 c hc), of_decide_eq_true h4, of_decide_eq_true h5, of_decide_eq_true h6⟩
def piecesV (L : List S104) (p : S41) (pl t : Int) : Int × Int × Bool := handsF L t 0 (handOf p pl) (cellsF L t pl p.f0 (0, 0, false))
def claim_pieces.f (k : Nat) (a0 : ByteArray) (a1 a2 : Int) (l3 : List S104) (l4 : List Int) (a5 a6 : Bool) (l7 : List S98) (a8 a9 a10 : Int) (b0 b1 b2 : List Int) (b3 b4 pl t : Int) : Option (Int × Int × Bool) := if (pvB l3 && qvB l3 (posQ b0 b1 b2 b3 b4) pl) = true then some (piecesV l3 (posQ b0 b1 b2 b3 b4) pl t) else none
theorem claim_pieces.mono : ∀ a0 a1 a2 a3 a4 a5 a6 a7 a8 a9 a10 b0 b1 b2 b3 b4 pl t k, LeO (claim_pieces.f k a0 a1 a2 a3 a4 a5 a6 a7 a8 a9 a10 b0 b1 b2 b3 b4 pl t) (claim_pieces.f (k + 1) a0 a1 a2 a3 a4 a5 a6 a7 a8 a9 a10 b0 b1 b2 b3 b4 pl t) := fun _ _ _ _ _ _ _ _ _ _ _ _ _ _ _ _ _ _ _ => LeO.refl _
theorem claim_pieces.calls (k : Nat) (a0_0 : ByteArray) (a0_1 : Int) (a0_2 : Int) (A0_3 : Option Addr) (c0_3 : Nat) (l0_3 : List S104) (A0_4 : Option Addr) (c0_4 : Nat) (l0_4 : List Int) (a0_5 : Bool) (a0_6 : Bool) (A0_7 : Option Addr) (c0_7 : Nat) (l0_7 : List S98) (a0_8 : Int) (a0_9 : Int) (a0_10 : Int) (A1_0 : Option Addr) (c1_0 : Nat) (l1_0 : List Int) (A1_1 : Option Addr) (c1_1 : Nat) (l1_1 : List Int) (A1_2 : Option Addr) (c1_2 : Nat) (l1_2 : List Int) (a1_3 : Int) (a1_4 : Int) (a2 a3 : Int) (r1 r2 : Int) (r3 : Bool) (w : World) (hr0_3 : Kd.C k104 w A0_3 l0_3.length l0_3) (hc0_3 : l0_3.length ≤ c0_3) (hr0_4 : Kd.C (Kd.int .i64) w A0_4 l0_4.length l0_4) (hc0_4 : l0_4.length ≤ c0_4) (hr0_7 : Kd.C k98 w A0_7 l0_7.length l0_7) (hc0_7 : l0_7.length ≤ c0_7) (hr1_0 : Kd.C (Kd.int .i64) w A1_0 l1_0.length l1_0) (hc1_0 : l1_0.length ≤ c1_0) (hr1_1 : Kd.C (Kd.int .i64) w A1_1 l1_1.length l1_1) (hc1_1 : l1_1.length ≤ c1_1) (hr1_2 : Kd.C (Kd.int .i64) w A1_2 l1_2.length l1_2) (hc1_2 : l1_2.length ≤ c1_2) (h : claim_pieces.f k a0_0 a0_1 a0_2 l0_3 l0_4 a0_5 a0_6 l0_7 a0_8 a0_9 a0_10 l1_0 l1_1 l1_2 a1_3 a1_4 a2 a3 = some (r1, r2, r3)) :
    Calls Try.prog 50 #[.agg #[.string a0_0, .int .i64 a0_1, .int .i64 a0_2, .slice A0_3 l0_3.length c0_3, .slice A0_4 l0_4.length c0_4, .bool a0_5, .bool a0_6, .slice A0_7 l0_7.length c0_7, .int .i64 a0_8, .int .i64 a0_9, .int .i64 a0_10], .agg #[.slice A1_0 l1_0.length c1_0, .slice A1_1 l1_1.length c1_1, .slice A1_2 l1_2.length c1_2, .int .i64 a1_3, .int .i64 a1_4], .int .i64 a2, .int .i64 a3] w fun e w' => e = .returned (.tuple #[.int .i64 r1, .int .i64 r2, .bool r3]) ∧ Below w.heap.size w w' := by
  unfold claim_pieces.f at h
  by_cases hc : (pvB l0_3 && qvB l0_3 (posQ l1_0 l1_1 l1_2 a1_3 a1_4) a2) = true
  · rw [if_pos hc] at h
    obtain ⟨h1, h2⟩ := Bool.and_eq_true_iff.1 hc
    exact pieces_any ⟨a0_0, a0_1, a0_2, l0_3, l0_4, a0_5, a0_6, l0_7, a0_8, a0_9, a0_10⟩ (posQ l1_0 l1_1 l1_2 a1_3 a1_4) w ⟨hc0_3, hr0_3, hc0_4, hr0_4, hc0_7, hr0_7⟩ ⟨hc1_0, hr1_0, hc1_1, hr1_1, hc1_2, hr1_2⟩ (pv_of h1) a2 a3 (qv_of h2) r1 r2 r3 (Option.some.inj h)
  · rw [if_neg hc] at h
    cases h
end Go.Proofs.Ytkpphlimnnifkaa.PClaimFalls
