/- MovetextReads: the plain law. -/
import Derived.Test.YtolcbijcoafkpaaMoveText
namespace Go.Proofs.Ytolcbijcoafkpaa.Pure
open Go.RowKit Go.Proofs.Ytolcbijcoafkpaa.PMovetextReads Go.Proofs.YtolcbijcoafkpaaW.PrintWords Go.Proofs.YtolcbijcoafkpaaW.PrintLast
set_option linter.unusedSimpArgs false
set_option linter.unusedVariables false
namespace Co
open Aid
theorem eqM (x m : S37) : (x.f0 == m.f0 && (x.f1 == m.f1 && (x.f2 == m.f2))) = true ↔ x = m := by
  cases x; cases m
  simp only [Bool.and_eq_true, beq_iff_eq, S37.mk.injEq]
theorem Text_l0 (r : S26) (p : S29) (hr : VR r) (hp : VP r p) (l : List S37) (hl : l.length ≤ 100000) (hx : ∀ x ∈ l, MI r p x) (m : S37) : ∀ (d i : Nat), i + d = l.length →
    Ev (fun k => movetext_Text.l0 k l (l.length : Int) (i : Int) r.f0 r.f1 r.f2 r.f3 r.f4 r.f5 r.f6 r.f7 r.f8 r.f9 r.f10 p.f0 p.f1.f0 p.f1.f1 p.f2 p.f3 m.f0 m.f1 m.f2) (if m ∈ l.drop i then (txt r p l m, 0) else ((⟨#[]⟩ : ByteArray), 13)) := by
  intro d
  induction d with
  | zero =>
    intro i hi
    refine Ev.step (fun k => by rw [movetext_Text.l0]) ?_
    rw [List.drop_of_length_le (by omega), if_neg (by simp)]
    exact ite (fun h => absurd h (by omega)) (fun _ => now rfl)
  | succ d ih =>
    intro i hi
    have hi1 : i < l.length := by omega
    have hi2 : (i : Int) < (l.length : Int) := by omega
    have hmx := hx l[i] (List.getElem_mem hi1)
    have hgx := rdM l i hi1
    have hwn := wn1 i (by omega)
    rw [List.drop_eq_getElem_cons hi1]
    refine Ev.step (fun k => by rw [movetext_Text.l0]) ?_
    refine ite (fun _ => ?_) (fun h => absurd hi2 h)
    refine ite (fun _ => ?_) (fun h => absurd (Int.natCast_nonneg _) h)
    refine ite (fun _ => ?_) (fun h => absurd hi2 h)
    rw [hgx, hwn]
    generalize l[i] = x at hmx ⊢
    refine ite (fun h => ?_) (fun h => ?_)
    · have hm := (eqM x m).1 h
      rw [hm] at hmx
      rw [if_pos (by rw [hm]; simp)]
      exact Ev.bind (text_f r p hr hp l hl hx m hmx) (now rfl)
    · have hm : ¬ x = m := fun q => h ((eqM x m).2 q)
      have e := ih (i + 1) (by omega)
      by_cases hd : m ∈ l.drop (i + 1)
      · rw [if_pos hd] at e
        rw [if_pos (by simp [hd])]; exact e
      · rw [if_neg hd] at e
        rw [if_neg (by simp [hd]; exact fun q => hm q.symm)]; exact e
theorem Text_f (r : S26) (p : S29) (hr : VR r) (hp : VP r p) (hc : Ev (fun k => place_Check.f k r.f0 r.f1 r.f2 r.f3 r.f4 r.f5 r.f6 r.f7 r.f8 r.f9 r.f10 p.f0 p.f1.f0 p.f1.f1 p.f2 p.f3) 0) (m : S37) : Ev (fun k => movetext_Text.f k r.f0 r.f1 r.f2 r.f3 r.f4 r.f5 r.f6 r.f7 r.f8 r.f9 r.f10 p.f0 p.f1.f0 p.f1.f1 p.f2 p.f3 m.f0 m.f1 m.f2) (if m ∈ onceM (rawM r p) then (txt r p (onceM (rawM r p)) m, 0) else ((⟨#[]⟩ : ByteArray), 13)) := by
  obtain ⟨hl, hx⟩ := once_in r p hr hp
  unfold movetext_Text.f
  refine Ev.bind hc ?_
  refine ite (fun _ => ?_) (fun h => absurd rfl h)
  refine Ev.bind (gen_f r p hr hp) ?_
  have h := Text_l0 r p hr hp _ hl hx m _ 0 (Nat.zero_add _)
  rw [List.drop_zero] at h
  exact h
theorem evOf {α : Type} {g : Nat → Option α} {r : α} (hg : ∀ k, LeO (g k) (g (k + 1))) {k : Nat} (h : g k = some r) : Ev g r := by
  refine ⟨k, fun n hn => ?_⟩
  induction n with
  | zero => obtain rfl : k = 0 := by omega
            exact h
  | succ n ih =>
    by_cases hk : k ≤ n
    · exact hg n r (ih hk)
    · obtain rfl : k = n + 1 := by omega
      exact h
def tic : S26 := ⟨⟨#[84, 73, 67]⟩, 3, 3, [⟨83, 5, 0, []⟩], List.replicate 9 0, false, false, [⟨0, 0, 3, false⟩], 2, 0, 0⟩
def beg : S29 := ⟨List.replicate 9 0, ⟨[5], [5]⟩, 0, 0⟩
theorem tic_v : VR tic := ⟨by decide, by decide, by decide, by decide +kernel, by decide +kernel, by decide +kernel, by decide⟩
theorem beg_v : VP tic beg := ⟨by decide, by decide +kernel, by decide, by decide, by decide, by decide, by decide, by decide⟩
set_option maxRecDepth 100000 in
theorem beg_f : Ev (fun k => place_Begin.f k tic.f0 tic.f1 tic.f2 tic.f3 tic.f4 tic.f5 tic.f6 tic.f7 tic.f8 tic.f9 tic.f10) (beg.f0, beg.f1.f0, beg.f1.f1, beg.f2, beg.f3, 0) := by
  exact evOf (fun k => place_Begin.mono _ _ _ _ _ _ _ _ _ _ _ k) (k := 400) (by decide +kernel)
set_option maxRecDepth 100000 in
theorem beg_c : Ev (fun k => place_Check.f k tic.f0 tic.f1 tic.f2 tic.f3 tic.f4 tic.f5 tic.f6 tic.f7 tic.f8 tic.f9 tic.f10 beg.f0 beg.f1.f0 beg.f1.f1 beg.f2 beg.f3) 0 := by
  exact evOf (fun k => place_Check.mono _ _ _ _ _ _ _ _ _ _ _ _ _ _ _ _ k) (k := 400) (by decide +kernel)
theorem beg_m : (⟨-1, 4, 0⟩ : S37) ∈ onceM (rawM tic beg) := ((once_spec _).2 _).2 (by decide +kernel)
theorem beg_t (l : List S37) : ((txt tic beg l ⟨-1, 4, 0⟩).toList == ([83, 64, 98, 50] : List UInt8)) = true := by
  unfold txt
  rw [if_pos (by decide), ByteArray.toList_eq]
  decide +kernel
theorem writes_f : Ev (fun k => gamehalllaw3_writes.f k) true := by
  unfold gamehalllaw3_writes.f
  have T : gamehalllaw3_tic.f = some (tic.f0, tic.f1, tic.f2, tic.f3, tic.f4, tic.f5, tic.f6, tic.f7, tic.f8, tic.f9, tic.f10) := rfl
  refine bind_now T ?_
  refine Ev.bind beg_f ?_
  refine bind_now T ?_
  refine bind_now (a := (-1, 4, 0)) rfl ?_
  have t := Text_f tic beg tic_v beg_v beg_c ⟨-1, 4, 0⟩
  rw [if_pos beg_m] at t
  refine Ev.bind t ?_
  refine ite (fun _ => ?_) (fun h => absurd rfl h)
  refine ite (fun _ => ?_) (fun h => absurd rfl h)
  exact now (beg_t (onceM (rawM tic beg)))
/-! letters -/
def L (r : S26) (t : Int) : Int := (rd_T62 r.f3 t).f0
structure LR (r : S26) : Prop where
  a : ∀ t, 0 ≤ t → t < (r.f3.length : Int) → 65 ≤ L r t ∧ L r t ≤ 90
  d : ∀ s t, 0 ≤ s → s < t → t < (r.f3.length : Int) → L r s ≠ L r t
theorem twice_no (l : List S62) (c : Int) : ∀ d j, ¬ Rc.twice l c d j = true → ∀ i : Nat, j ≤ i → i < j + d → (rd_T62 l (i : Int)).f0 ≠ c := by
  intro d
  induction d with
  | zero => intro j _ i h1 h2; omega
  | succ d ih =>
    intro j h i h1 h2
    rw [Rc.twice] at h
    by_cases hc : (rd_T62 l (j : Int)).f0 = c
    · rw [if_pos hc] at h; exact absurd rfl h
    · rw [if_neg hc] at h
      by_cases e : i = j
      · rw [e]; exact hc
      · exact ih (j + 1) h i (by omega) (by omega)
theorem lr_of (r : S26) (h : Rc.bodyE r = 0) : LR r := by
  have hp : ∀ j, j < r.f3.length → Rc.pieceE r.f3 j = 0 := by
    unfold Rc.bodyE at h
    split at h
    · exact absurd h (by decide)
    split at h
    · exact absurd h (by decide)
    split at h
    · exact absurd h (by decide)
    split at h
    · rename_i h4; exact fun j hj => pieces_all r.f3 _ 0 h4 j (by omega) (by omega)
    · rename_i h4; exact absurd h h4
  constructor
  · intro t h0 h1
    obtain ⟨n, rfl⟩ := Int.eq_ofNat_of_zero_le h0
    have := hp n (by omega)
    unfold Rc.pieceE at this
    split at this
    · exact absurd this (by decide)
    · rename_i g; exact Classical.not_not.1 g
  · intro s t h0 h1 h2
    obtain ⟨m, rfl⟩ := Int.eq_ofNat_of_zero_le h0
    obtain ⟨n, rfl⟩ := Int.eq_ofNat_of_zero_le (show 0 ≤ t by omega)
    have := hp n (by omega)
    unfold Rc.pieceE at this
    split at this
    · exact absurd this (by decide)
    split at this
    · exact absurd this (by decide)
    rename_i g
    exact twice_no _ _ _ _ g m (by omega) (by omega)
theorem place_let (r : S26) (p : S29) (hr : wf26 r) (hp : wf29 p) : ∃ e, Ev (fun k => place_Check.f k r.f0 r.f1 r.f2 r.f3 r.f4 r.f5 r.f6 r.f7 r.f8 r.f9 r.f10 p.f0 p.f1.f0 p.f1.f1 p.f2 p.f3) e ∧ (e = 0 → VR r ∧ VP r p ∧ LR r) := by
  obtain ⟨b, h1⟩ := Rc.name_code r.f0 (by have := hr.1; simpa using this)
  have h2 := Rc.check_f r hr b h1
  have h3 : (if b = true then Rc.bodyE r else 6) = 0 → VR r ∧ LR r := by
    intro h
    cases b
    · simp at h
    · exact ⟨vr_of r (by simpa using h), lr_of r (by simpa using h)⟩
  refine ⟨_, check_pl r p hp _ h2 (fun h => (h3 h).1), fun h => ?_⟩
  by_cases h0 : (if b = true then Rc.bodyE r else 6) = 0
  · rw [if_pos h0] at h; exact ⟨(h3 h0).1, vp_of r p h, (h3 h0).2⟩
  · rw [if_neg h0] at h; exact absurd h h0
/-! no two moves have one text -/
def EP (c : Int) : Prop := (Go.Utf8.encode c).data.toList = [U c]
instance (c : Int) : Decidable (EP c) := by unfold EP; exact inferInstance
theorem EP_dec : ∀ i : Fin 26, EP (65 + (i.val : Int)) := by decide +kernel
theorem EP_of {c : Int} (h : 65 ≤ c ∧ c ≤ 90) : EP c := by
  obtain ⟨n, hn⟩ := Int.eq_ofNat_of_zero_le (show 0 ≤ c - 65 by omega)
  have := EP_dec ⟨n, by omega⟩
  rw [show (65 + ((⟨n, by omega⟩ : Fin 26).val : Int)) = c by show 65 + (n : Int) = c; omega] at this
  exact this
theorem UL_dec : ∀ i j : Fin 26, U (65 + (i.val : Int)) = U (65 + (j.val : Int)) → i = j := by decide +kernel
theorem UL {c d : Int} (h : 65 ≤ c ∧ c ≤ 90) (k : 65 ≤ d ∧ d ≤ 90) (e : U c = U d) : c = d := by
  obtain ⟨n, hn⟩ := Int.eq_ofNat_of_zero_le (show 0 ≤ c - 65 by omega)
  obtain ⟨m, hm⟩ := Int.eq_ofNat_of_zero_le (show 0 ≤ d - 65 by omega)
  have := UL_dec ⟨n, by omega⟩ ⟨m, by omega⟩ (by
    show U (65 + (n : Int)) = U (65 + (m : Int))
    rw [show 65 + (n : Int) = c by omega, show 65 + (m : Int) = d by omega]; exact e)
  have : n = m := congrArg Fin.val this
  omega
theorem UR_dec : ∀ (i : Fin 26) (b : Fin 8), U (65 + (i.val : Int)) ≠ U (49 + (b.val : Int)) := by decide +kernel
theorem UR {c b : Int} (h : 65 ≤ c ∧ c ≤ 90) (k : 0 ≤ b ∧ b < 8) : U c ≠ U (49 + b) := by
  obtain ⟨n, hn⟩ := Int.eq_ofNat_of_zero_le (show 0 ≤ c - 65 by omega)
  obtain ⟨m, rfl⟩ := Int.eq_ofNat_of_zero_le k.1
  have := UR_dec ⟨n, by omega⟩ ⟨m, by omega⟩
  intro e
  apply this
  show U (65 + (n : Int)) = U (49 + (m : Int))
  rw [show 65 + (n : Int) = c by omega]; exact e
theorem U64_dec : ∀ b : Fin 8, U (97 + (b.val : Int)) ≠ 64 ∧ U (49 + (b.val : Int)) ≠ 64 := by decide +kernel
theorem U64 {b : Int} (k : 0 ≤ b ∧ b < 8) : U (97 + b) ≠ 64 ∧ U (49 + b) ≠ 64 := by
  obtain ⟨m, rfl⟩ := Int.eq_ofNat_of_zero_le k.1
  exact U64_dec ⟨m, by omega⟩
theorem enc_l (r : S26) (h : LR r) (t : Int) (h0 : 0 ≤ t) (h1 : t < (r.f3.length : Int)) : (enc r t).data.toList = [U (L r t)] := EP_of (h.a t h0 h1)
def tailL (r : S26) (k q : Int) : List UInt8 := if q = k then [] else [61, U (L r q)]
theorem txtM_l (r : S26) (p : S29) (hr : VR r) (hp : VP r p) (h : LR r) (m : S37) (hm : MI r p m) (k0 : 0 ≤ knd (rd p.f0 m.f0)) (k1 : knd (rd p.f0 m.f0) < (r.f3.length : Int)) (mk : ByteArray) :
    (txtM r p m mk).data.toList = U (L r (knd (rd p.f0 m.f0))) :: ((mk.data.toList ++ (if rd p.f0 m.f1 = 0 then [] else [120])) ++ (U (97 + m.f1 % r.f1) :: U (49 + m.f1 / r.f1) :: tailL r (knd (rd p.f0 m.f0)) m.f2)) := by
  have hn := hp.n
  have hs := (SQ_facts r hr m.f1 hm.t.1 (by have := hm.t.2; omega)).2.2.2
  have e := enc_l r h _ k0 k1
  have e' := enc_l r h m.f2 hm.k.1 hm.k.2
  unfold txtM tailL
  simp only []
  split <;> split <;> simp [ByteArray.data_append, hs, e, e']
theorem drop_l (r : S26) (p : S29) (hr : VR r) (hp : VP r p) (h : LR r) (l : List S37) (m : S37) (hm : MI r p m) (h0 : m.f0 < 0) : (txt r p l m).data.toList = [U (L r m.f2), 64, U (97 + m.f1 % r.f1), U (49 + m.f1 / r.f1)] := by
  have hn := hp.n
  have hs := (SQ_facts r hr m.f1 hm.t.1 (by have := hm.t.2; omega)).2.2.2
  have e := enc_l r h m.f2 hm.k.1 hm.k.2
  unfold txt
  rw [if_pos h0]
  simp [ByteArray.data_append, hs, e]
theorem sq_eq (r : S26) (hr : VR r) (x y : Int) (h1 : x % r.f1 = y % r.f1) (h2 : x / r.f1 = y / r.f1) : x = y := by
  rw [← Int.mul_ediv_add_emod x r.f1, ← Int.mul_ediv_add_emod y r.f1, h1, h2]
theorem L_inj (r : S26) (h : LR r) (s t : Int) (s0 : 0 ≤ s) (s1 : s < (r.f3.length : Int)) (t0 : 0 ≤ t) (t1 : t < (r.f3.length : Int)) (e : U (L r s) = U (L r t)) : s = t := by
  have e := UL (h.a s s0 s1) (h.a t t0 t1) e
  rcases Int.lt_trichotomy s t with q | q | q
  · exact absurd e (h.d s t s0 q t1)
  · exact q
  · exact absurd e.symm (h.d t s t0 q s1)
theorem ext_M (x y : S37) (h0 : x.f0 = y.f0) (h1 : x.f1 = y.f1) (h2 : x.f2 = y.f2) : x = y := by
  cases x; cases y; simp only [S37.mk.injEq]; exact ⟨h0, h1, h2⟩
/-- the mark's first letter -/
theorem mark_l (r : S26) (hr : VR r) (n : Int) (n0 : 0 ≤ n) (n1 : n < r.f1 * r.f2) (f g o : Bool) : (mark (SQ r n) f g o).data.toList = if o = true then (if f = true then (if g = true then [U (97 + n % r.f1), U (49 + n / r.f1)] else [U (49 + n / r.f1)]) else [U (97 + n % r.f1)]) else [] := by
  have hs := SQ_facts r hr n n0 n1
  unfold mark
  split
  · split
    · split
      · exact hs.2.2.2
      · exact hs.2.2.1
    · exact hs.2.1
  · rfl
theorem txt_inj (r : S26) (p : S29) (hr : VR r) (hp : VP r p) (h : LR r) (l : List S37) (hx : ∀ x ∈ l, MI r p x) (x y : S37) (hxl : x ∈ l) (hyl : y ∈ l) (e : (txt r p l x).data.toList = (txt r p l y).data.toList) : x = y := by
  have hn := hp.n
  have mx := hx x hxl
  have my := hx y hyl
  have cx := sq_co r hr x.f1 mx.t.1 (by have := mx.t.2; omega)
  have cy := sq_co r hr y.f1 my.t.1 (by have := my.t.2; omega)
  -- a move's second letter is no '@'
  have noat : ∀ z, z ∈ l → ¬ z.f0 < 0 → ∀ a c d, (txt r p l z).data.toList ≠ [a, 64, c, d] := by
    intro z hz h0 a c d q
    have mz := hx z hz
    have zz := mz.f.resolve_left (by omega)
    have kz := own_pos hr hp z.f0 zz.1 zz.2.1 zz.2.2
    have kk := knd_lt _ (r.f3.length : Int) ⟨kz.1, kz.2.2.1⟩
    have cz := sq_co r hr z.f0 zz.1 (by omega)
    have ct := sq_co r hr z.f1 mz.t.1 (by have := mz.t.2; omega)
    unfold txt at q
    rw [if_neg h0, txtM_l r p hr hp h z mz kk.1 kk.2] at q
    unfold markP at q
    rw [mark_l r hr z.f0 zz.1 (by omega)] at q
    have q2 := (List.cons.inj q).2
    split at q2
    · split at q2
      · split at q2
        · exact (U64 cz.1).1 (List.cons.inj q2).1
        · exact (U64 cz.2).2 (List.cons.inj q2).1
      · exact (U64 cz.1).1 (List.cons.inj q2).1
    · split at q2
      · exact (U64 ct.1).1 (List.cons.inj q2).1
      · exact absurd (List.cons.inj q2).1 (by decide)
  by_cases x0 : x.f0 < 0
  · by_cases y0 : y.f0 < 0
    · rw [drop_l r p hr hp h l x mx x0, drop_l r p hr hp h l y my y0] at e
      obtain ⟨e1, e2⟩ := List.cons.inj e
      obtain ⟨_, e3⟩ := List.cons.inj e2
      obtain ⟨e4, e5⟩ := List.cons.inj e3
      obtain ⟨e6, _⟩ := List.cons.inj e5
      refine ext_M x y ?_ (sq_eq r hr _ _ ((U_facts cx.1 cy.1).1.1 e4) ((U_facts cx.2 cy.2).2.1.1 e6)) (L_inj r h _ _ mx.k.1 mx.k.2 my.k.1 my.k.2 e1)
      rcases mx.f with a | a
      · rcases my.f with b | b
        · rw [a, b]
        · omega
      · omega
    · rw [drop_l r p hr hp h l x mx x0] at e
      exact absurd e.symm (noat y hyl y0 _ _ _)
  · by_cases y0 : y.f0 < 0
    · rw [drop_l r p hr hp h l y my y0] at e
      exact absurd e (noat x hxl x0 _ _ _)
    · have xx := mx.f.resolve_left (by omega)
      have yy := my.f.resolve_left (by omega)
      have kx := own_pos hr hp x.f0 xx.1 xx.2.1 xx.2.2
      have ky := own_pos hr hp y.f0 yy.1 yy.2.1 yy.2.2
      have kkx := knd_lt _ (r.f3.length : Int) ⟨kx.1, kx.2.2.1⟩
      have kky := knd_lt _ (r.f3.length : Int) ⟨ky.1, ky.2.2.1⟩
      have sx := sq_co r hr x.f0 xx.1 (by omega)
      have sy := sq_co r hr y.f0 yy.1 (by omega)
      have ex : txt r p l x = txtM r p x (markP r p l x) := by unfold txt; rw [if_neg x0]
      have ey : txt r p l y = txtM r p y (markP r p l y) := by unfold txt; rw [if_neg y0]
      rw [ex, ey, txtM_l r p hr hp h x mx kkx.1 kkx.2, txtM_l r p hr hp h y my kky.1 kky.2] at e
      obtain ⟨e1, e2⟩ := List.cons.inj e
      have ek := L_inj r h _ _ kkx.1 kkx.2 kky.1 kky.2 e1
      rw [ek] at e2
      -- what stands behind
      have tl : x.f2 = y.f2 ∧ (tailL r (knd (rd p.f0 y.f0)) x.f2).length = (tailL r (knd (rd p.f0 y.f0)) y.f2).length := by
        have lst := congrArg List.getLast? e2
        unfold tailL at lst ⊢
        by_cases qx : x.f2 = knd (rd p.f0 y.f0)
        · by_cases qy : y.f2 = knd (rd p.f0 y.f0)
          · exact ⟨by rw [qx, qy], by rw [if_pos qx, if_pos qy]⟩
          · rw [if_pos qx, if_neg qy] at lst
            simp at lst
            exact absurd lst.symm (UR (h.a y.f2 my.k.1 my.k.2) cx.2)
        · by_cases qy : y.f2 = knd (rd p.f0 y.f0)
          · rw [if_neg qx, if_pos qy] at lst
            simp at lst
            exact absurd lst (UR (h.a x.f2 mx.k.1 mx.k.2) cy.2)
          · rw [if_neg qx, if_neg qy] at lst
            simp at lst
            exact ⟨L_inj r h _ _ mx.k.1 mx.k.2 my.k.1 my.k.2 lst, by rw [if_neg qx, if_neg qy]; rfl⟩
      obtain ⟨e3, e4⟩ := List.append_inj' e2 (by simp only [List.length_cons]; rw [tl.2])
      obtain ⟨e5, e6⟩ := List.cons.inj e4
      obtain ⟨e7, _⟩ := List.cons.inj e6
      have et := sq_eq r hr x.f1 y.f1 ((U_facts cx.1 cy.1).1.1 e5) ((U_facts cx.2 cy.2).2.1.1 e7)
      rw [et] at e3
      have em := List.append_cancel_right e3
      refine ext_M x y ?_ et tl.1
      apply Classical.byContradiction
      intro hne
      have s1 : same p x y = true := decide_eq_true ⟨yy.1, fun q => hne q.symm, et.symm, ek.symm⟩
      have s2 : same p y x = true := decide_eq_true ⟨xx.1, hne, et, ek⟩
      have o1 : l.any (same p x) = true := List.any_eq_true.2 ⟨y, hyl, s1⟩
      have o2 : l.any (same p y) = true := List.any_eq_true.2 ⟨x, hxl, s2⟩
      have F1 : x.f0 % r.f1 = y.f0 % r.f1 → l.any (fileB r p x) = true := fun q => List.any_eq_true.2 ⟨y, hyl, by unfold fileB; rw [s1, decide_eq_true q.symm]; rfl⟩
      have G1 : x.f0 / r.f1 = y.f0 / r.f1 → l.any (rowB r p x) = true := fun q => List.any_eq_true.2 ⟨y, hyl, by unfold rowB; rw [s1, decide_eq_true q.symm]; rfl⟩
      unfold markP at em
      rw [mark_l r hr x.f0 xx.1 (by omega), mark_l r hr y.f0 yy.1 (by omega), if_pos o1, if_pos o2] at em
      have CC := (U_facts sx.1 sy.1).1
      have RR := (U_facts sx.2 sy.2).2.1
      have CR := (U_facts sx.1 sy.2).2.2
      have RC := (U_facts sy.1 sx.2).2.2
      by_cases f1 : l.any (fileB r p x) = true
      · rw [if_pos f1] at em
        by_cases g1 : l.any (rowB r p x) = true
        · rw [if_pos g1] at em
          split at em
          · split at em
            · exact hne (sq_eq r hr _ _ (CC.1 (List.cons.inj em).1) (RR.1 (List.cons.inj (List.cons.inj em).2).1))
            · cases (List.cons.inj em).2
          · cases (List.cons.inj em).2
        · rw [if_neg g1] at em
          split at em
          · split at em
            · cases (List.cons.inj em).2
            · exact g1 (G1 (RR.1 (List.cons.inj em).1))
          · exact RC (List.cons.inj em).1.symm
      · rw [if_neg f1] at em
        split at em
        · split at em
          · cases (List.cons.inj em).2
          · exact CR (List.cons.inj em).1
        · exact f1 (F1 (CC.1 (List.cons.inj em).1))
/-! lists -/
theorem List_l0 (r : S26) (p : S29) (hr : VR r) (hp : VP r p) (l : List S37) (hl : l.length ≤ 100000) (hx : ∀ x ∈ l, MI r p x) : ∀ (d i : Nat) (out : List ByteArray), i + d = l.length → out.length + d ≤ 200000 →
    Ev (fun k => movetext_List.l0 k l out (l.length : Int) (i : Int) r.f0 r.f1 r.f2 r.f3 r.f4 r.f5 r.f6 r.f7 r.f8 r.f9 r.f10 p.f0 p.f1.f0 p.f1.f1 p.f2 p.f3) (out ++ (l.drop i).map (txt r p l), 0) := by
  intro d
  induction d with
  | zero =>
    intro i out hi _
    refine Ev.step (fun k => by rw [movetext_List.l0]) ?_
    rw [List.drop_of_length_le (by omega), List.map_nil, List.append_nil]
    exact ite (fun h => absurd h (by omega)) (fun _ => now rfl)
  | succ d ih =>
    intro i out hi ho
    have hi1 : i < l.length := by omega
    have hi2 : (i : Int) < (l.length : Int) := by omega
    have hmx := hx l[i] (List.getElem_mem hi1)
    have hgx := rdM l i hi1
    have hwn := wn1 i (by omega)
    rw [List.drop_eq_getElem_cons hi1, List.map_cons]
    refine Ev.step (fun k => by rw [movetext_List.l0]) ?_
    refine ite (fun _ => ?_) (fun h => absurd hi2 h)
    refine ite (fun _ => ?_) (fun h => absurd (Int.natCast_nonneg _) h)
    refine ite (fun _ => ?_) (fun h => absurd hi2 h)
    rw [hgx, hwn]
    refine Ev.bind (text_f r p hr hp l hl hx _ hmx) ?_
    refine ite (fun _ => ?_) (fun h => absurd (by omega) h)
    have e := ih (i + 1) (out ++ [txt r p l l[i]]) (by omega) (by simp; omega)
    rw [List.append_assoc] at e
    exact e
theorem List_f (r : S26) (p : S29) (hr : VR r) (hp : VP r p) (hc : Ev (fun k => place_Check.f k r.f0 r.f1 r.f2 r.f3 r.f4 r.f5 r.f6 r.f7 r.f8 r.f9 r.f10 p.f0 p.f1.f0 p.f1.f1 p.f2 p.f3) 0) : Ev (fun k => movetext_List.f k r.f0 r.f1 r.f2 r.f3 r.f4 r.f5 r.f6 r.f7 r.f8 r.f9 r.f10 p.f0 p.f1.f0 p.f1.f1 p.f2 p.f3) ((onceM (rawM r p)).map (txt r p (onceM (rawM r p))), 0) := by
  obtain ⟨hl, hx⟩ := once_in r p hr hp
  unfold movetext_List.f
  refine Ev.bind hc ?_
  refine ite (fun _ => ?_) (fun h => absurd rfl h)
  refine Ev.bind (gen_f r p hr hp) ?_
  exact List_l0 r p hr hp _ hl hx _ 0 [] (Nat.zero_add _) (by simp; omega)
theorem rdB (l : List S37) (f : S37 → ByteArray) (i : Nat) (h : i < l.length) : rdOf ByteArray.empty (l.map f) (i : Int) = f l[i] := by simp [rdOf, List.getD_eq_getElem?_getD, h]
def rdres (f : S37 → ByteArray) (s : ByteArray) : List S37 → Int × Int × Int × Int
  | [] => (0, 0, 0, 13)
  | x :: xs => if (f x).toList = s.toList then (x.f0, x.f1, x.f2, 0) else rdres f s xs
theorem rdres_of (f : S37 → ByteArray) (s : ByteArray) : ∀ l : List S37, (∀ x ∈ l, ¬ (f x).toList = s.toList) ∧ rdres f s l = (0, 0, 0, 13) ∨ ∃ x ∈ l, (f x).toList = s.toList ∧ rdres f s l = (x.f0, x.f1, x.f2, 0)
  | [] => .inl ⟨fun x h => (by cases h), rfl⟩
  | x :: xs => by
    rw [rdres]
    by_cases h : (f x).toList = s.toList
    · exact .inr ⟨x, by simp, h, by rw [if_pos h]⟩
    · rw [if_neg h]
      rcases rdres_of f s xs with ⟨h1, h2⟩ | ⟨y, h1, h2, h3⟩
      · refine .inl ⟨fun y hy => ?_, h2⟩
        rcases List.mem_cons.1 hy with e | e
        · rw [e]; exact h
        · exact h1 y e
      · exact .inr ⟨y, by simp [h1], h2, h3⟩
theorem Read_l0 (r : S26) (p : S29) (hr : VR r) (hp : VP r p) (l : List S37) (hL : l = onceM (rawM r p)) (hl : l.length ≤ 100000) (s : ByteArray) (f : S37 → ByteArray) : ∀ (d i : Nat), i + d = l.length →
    Ev (fun k => movetext_Read.l0 k s (l.map f) ((l.map f).length : Int) (i : Int) r.f0 r.f1 r.f2 r.f3 r.f4 r.f5 r.f6 r.f7 r.f8 r.f9 r.f10 p.f0 p.f1.f0 p.f1.f1 p.f2 p.f3) (rdres f s (l.drop i)) := by
  have hll : (l.map f).length = l.length := List.length_map _
  intro d
  induction d with
  | zero =>
    intro i hi
    refine Ev.step (fun k => by rw [movetext_Read.l0]) ?_
    rw [List.drop_of_length_le (by omega), rdres]
    exact ite (fun h => absurd h (by omega)) (fun _ => now rfl)
  | succ d ih =>
    intro i hi
    have hi1 : i < l.length := by omega
    have hi2 : (i : Int) < ((l.map f).length : Int) := by omega
    have hwn := wn1 i (by omega)
    rw [List.drop_eq_getElem_cons hi1, rdres]
    refine Ev.step (fun k => by rw [movetext_Read.l0]) ?_
    refine ite (fun _ => ?_) (fun h => absurd hi2 h)
    refine ite (fun _ => ?_) (fun h => absurd (Int.natCast_nonneg _) h)
    refine ite (fun _ => ?_) (fun h => absurd hi2 h)
    rw [rdB l f i hi1, hwn]
    refine ite (fun h => ?_) (fun h => ?_)
    · rw [if_pos h]
      have g := gen_f r p hr hp
      rw [← hL] at g
      refine Ev.bind g ?_
      refine ite (fun _ => now (by rw [rdM l i hi1])) (fun h => absurd (by omega) h)
    · rw [if_neg h]; exact ih (i + 1) (by omega)
theorem law_l0 (r : S26) (p : S29) (hr : VR r) (hp : VP r p) (hc : Ev (fun k => place_Check.f k r.f0 r.f1 r.f2 r.f3 r.f4 r.f5 r.f6 r.f7 r.f8 r.f9 r.f10 p.f0 p.f1.f0 p.f1.f1 p.f2 p.f3) 0) (l : List S37) (hL : l = onceM (rawM r p)) (s : ByteArray) (g : S37 → ByteArray) (hg : g = txt r p l) (a b c e : Int) : ∀ (d i : Nat) (q u v w : Int), i + d = l.length →
    (∀ x ∈ l.drop i, (g x).toList = s.toList → e = 0 ∧ x = ⟨a, b, c⟩) → (e = q ∧ a = u ∧ b = v ∧ c = w ∨ ∃ x ∈ l.drop i, (g x).toList = s.toList) →
    Ev (fun k => gamehalllaw3_MovetextReads.l0 k s (l.map g) e l q (l.length : Int) (i : Int) r.f0 r.f1 r.f2 r.f3 r.f4 r.f5 r.f6 r.f7 r.f8 r.f9 r.f10 p.f0 p.f1.f0 p.f1.f1 p.f2 p.f3 a b c u v w) true := by
  have hll : (l.map g).length = l.length := List.length_map _
  obtain ⟨hl, hx⟩ := once_in r p hr hp
  rw [← hL] at hl hx
  intro d
  induction d with
  | zero =>
    intro i q u v w hi _ h2
    rw [List.drop_of_length_le (by omega)] at h2
    refine Ev.step (fun k => by rw [gamehalllaw3_MovetextReads.l0]) ?_
    refine ite (fun h => absurd h (by omega)) (fun _ => ?_)
    rcases h2 with ⟨h3, h4, h5, h6⟩ | ⟨x, h, _⟩
    · exact ite (fun _ => now (by rw [h4, h5, h6]; simp)) (fun h => absurd h3 h)
    · cases h
  | succ d ih =>
    intro i q u v w hi h1 h2
    have hi1 : i < l.length := by omega
    have hi2 : (i : Int) < (l.length : Int) := by omega
    have hmx := hx l[i] (List.getElem_mem hi1)
    have hwn := wn1 i (by omega)
    rw [List.drop_eq_getElem_cons hi1] at h1 h2
    refine Ev.step (fun k => by rw [gamehalllaw3_MovetextReads.l0]) ?_
    refine ite (fun _ => ?_) (fun h => absurd hi2 h)
    refine ite (fun _ => ?_) (fun h => absurd (Int.natCast_nonneg _) h)
    refine ite (fun _ => ?_) (fun h => absurd hi2 h)
    rw [rdB l g i hi1, rdM l i hi1, hwn]
    have rf := ref_f r p hr hp hc l[i] hmx
    rw [← hL] at rf
    have hgi : g l[i] = txt r p l l[i] := by rw [hg]
    refine Ev.bind rf ?_
    rw [← hgi]
    refine ite (fun _ => ?_) (fun h => absurd (by omega) h)
    refine ite (fun _ => ?_) (fun h => absurd rfl h)
    refine ite (fun hm => ?_) (fun hm => ?_)
    · obtain ⟨z1, z2⟩ := h1 _ List.mem_cons_self hm
      rw [z2]
      exact ih (i + 1) 0 a b c (by omega) (fun x hx => h1 x (List.mem_cons_of_mem _ hx)) (.inl ⟨z1, rfl, rfl, rfl⟩)
    · refine ih (i + 1) q u v w (by omega) (fun x hx => h1 x (List.mem_cons_of_mem _ hx)) ?_
      rcases h2 with h3 | ⟨x, h3, h4⟩
      · exact .inl h3
      · rcases List.mem_cons.1 h3 with h5 | h5
        · rw [h5] at h4; exact absurd h4 hm
        · exact .inr ⟨x, h5, h4⟩
theorem law_f (r : S26) (p : S29) (s : ByteArray) (hr : wf26 r) (hp : wf29 p) : Ev (fun k => gamehalllaw3_MovetextReads.f k r.f0 r.f1 r.f2 r.f3 r.f4 r.f5 r.f6 r.f7 r.f8 r.f9 r.f10 p.f0 p.f1.f0 p.f1.f1 p.f2 p.f3 s) true := by
  obtain ⟨e, h2, h4⟩ := place_let r p hr hp
  unfold gamehalllaw3_MovetextReads.f
  refine Ev.bind writes_f ?_
  refine ite (fun _ => ?_) (fun h => absurd rfl h)
  refine bind_now (a := decide ((r.f4.length : Int) > 20)) rfl ?_
  refine ite (fun _ => now rfl) (fun _ => ?_)
  by_cases h0 : e = 0
  · subst h0
    obtain ⟨vr, vp, lr⟩ := h4 rfl
    obtain ⟨hl, hx⟩ := once_in r p vr vp
    have li := List_f r p vr vp h2
    have al : Ev (fun k => moves_All.f k r.f0 r.f1 r.f2 r.f3 r.f4 r.f5 r.f6 r.f7 r.f8 r.f9 r.f10 p.f0 p.f1.f0 p.f1.f1 p.f2 p.f3) (onceM (rawM r p), 0) := by
      unfold moves_All.f
      refine Ev.bind h2 ?_
      refine ite (fun _ => ?_) (fun h => absurd rfl h)
      exact Ev.bind (gen_f r p vr vp) (now rfl)
    have re : Ev (fun k => movetext_Read.f k r.f0 r.f1 r.f2 r.f3 r.f4 r.f5 r.f6 r.f7 r.f8 r.f9 r.f10 p.f0 p.f1.f0 p.f1.f1 p.f2 p.f3 s) (rdres (txt r p (onceM (rawM r p))) s (onceM (rawM r p))) := by
      unfold movetext_Read.f
      refine Ev.bind li ?_
      refine ite (fun _ => ?_) (fun h => absurd rfl h)
      exact Read_l0 r p vr vp _ rfl hl s _ _ 0 (Nat.zero_add _)
    have L0 := law_l0 r p vr vp h2 (onceM (rawM r p)) rfl s _ rfl
    have inj := txt_inj r p vr vp lr (onceM (rawM r p)) hx
    refine Ev.bind li ?_
    refine Ev.bind re ?_
    refine Ev.bind al ?_
    refine ite (fun _ => ?_) (fun h => absurd rfl h)
    refine ite (fun _ => ?_) (fun h => absurd rfl h)
    refine Ev.step (fun k => by rw [gamehalllaw3_MovetextReads.j0]) ?_
    generalize onceM (rawM r p) = l at hl hx li al re L0 inj ⊢
    refine ite (fun h => absurd h (by rw [List.length_map]; simp)) (fun _ => ?_)
    rcases rdres_of (txt r p l) s l with ⟨h5, h6⟩ | ⟨x, h5, h6, h7⟩
    · rw [h6]
      exact L0 0 0 0 13 l.length 0 13 0 0 0 (by omega) (fun x hx h => absurd h (h5 x (List.mem_of_mem_drop hx))) (.inl ⟨rfl, rfl, rfl, rfl⟩)
    · rw [h7]
      refine L0 x.f0 x.f1 x.f2 0 l.length 0 13 0 0 0 (by omega) (fun y hy h => ⟨rfl, ?_⟩) (.inr ⟨x, by rw [List.drop_zero]; exact h5, h6⟩)
      exact inj y x (List.mem_of_mem_drop hy) h5 (by rw [← ByteArray.toList_eq, ← ByteArray.toList_eq, h, h6])
  · have li : Ev (fun k => movetext_List.f k r.f0 r.f1 r.f2 r.f3 r.f4 r.f5 r.f6 r.f7 r.f8 r.f9 r.f10 p.f0 p.f1.f0 p.f1.f1 p.f2 p.f3) ([], e) := by
      unfold movetext_List.f
      refine Ev.bind h2 ?_
      exact ite (fun h => absurd h h0) (fun _ => now rfl)
    have al : Ev (fun k => moves_All.f k r.f0 r.f1 r.f2 r.f3 r.f4 r.f5 r.f6 r.f7 r.f8 r.f9 r.f10 p.f0 p.f1.f0 p.f1.f1 p.f2 p.f3) ([], e) := by
      unfold moves_All.f
      refine Ev.bind h2 ?_
      exact ite (fun h => absurd h h0) (fun _ => now rfl)
    have re : Ev (fun k => movetext_Read.f k r.f0 r.f1 r.f2 r.f3 r.f4 r.f5 r.f6 r.f7 r.f8 r.f9 r.f10 p.f0 p.f1.f0 p.f1.f1 p.f2 p.f3 s) (0, 0, 0, e) := by
      unfold movetext_Read.f
      refine Ev.bind li ?_
      exact ite (fun h => absurd h h0) (fun _ => now rfl)
    refine Ev.bind li ?_
    refine Ev.bind re ?_
    refine Ev.bind al ?_
    refine ite (fun h => absurd h h0) (fun _ => ?_)
    refine ite (fun _ => ?_) (fun h => absurd rfl h)
    refine ite (fun _ => ?_) (fun h => absurd rfl h)
    exact ite (fun _ => now rfl) (fun h => absurd rfl h)
end Co
theorem MovetextReads : gamehalllaw3_MovetextReads.Pure := by
  intro x0 x1 a2 h0 h1 _
  obtain ⟨K, e⟩ := Co.law_f x0 x1 a2 h0 h1
  exact ⟨K, e K (Nat.le_refl K)⟩
end Go.Proofs.Ytolcbijcoafkpaa.Pure
