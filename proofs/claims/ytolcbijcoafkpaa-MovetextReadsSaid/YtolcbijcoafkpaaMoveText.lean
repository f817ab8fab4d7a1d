/- movetext.text and the reference's MoveText write the same text. -/
import Derived.Test.YtolcbijcoafkpaaMoveOnce
import Derived.Test.YtolcbijcoafkpaaPlaceSide
import Derived.Test.YtolcbijcoafkpaaPMovetextReadsx13
namespace Go.Proofs.Ytolcbijcoafkpaa.Pure
open Go.RowKit Go.Proofs.Ytolcbijcoafkpaa.PMovetextReads Go.Proofs.YtolcbijcoafkpaaW.PrintWords Go.Proofs.YtolcbijcoafkpaaW.PrintLast
set_option linter.unusedSimpArgs false
set_option linter.unusedVariables false
namespace Co
open Aid
/-- what a move of the list is -/
structure MI (r : S26) (p : S29) (m : S37) : Prop where
  f : m.f0 = -1 ∨ 0 ≤ m.f0 ∧ m.f0 < (p.f0.length : Int) ∧ own (rd p.f0 m.f0) = p.f2
  t : 0 ≤ m.f1 ∧ m.f1 < (p.f0.length : Int)
  k : 0 ≤ m.f2 ∧ m.f2 < (r.f3.length : Int)
theorem own_pos {r : S26} {p : S29} (hr : VR r) (hp : VP r p) (s : Int) (h0 : 0 ≤ s) (h1 : s < (p.f0.length : Int)) (ho : own (rd p.f0 s) = p.f2) : 1 ≤ rd p.f0 s ∧ rd p.f0 s ≤ 12 ∧ rd p.f0 s ≤ 2 * (r.f3.length : Int) ∧ rd p.f0 s = 2 * knd (rd p.f0 s) + p.f2 + 1 := by
  have hc := hp.cell hr s h0 h1
  have ht := hp.t
  unfold own at ho
  split at ho
  · omega
  · unfold knd; omega
theorem raw_in (r : S26) (p : S29) (hr : VR r) (hp : VP r p) (m : S37) (h : m ∈ rawM r p) : MI r p m := by
  unfold rawM drops at h
  rw [List.mem_append] at h
  simp only [List.mem_flatMap, List.mem_range'_1] at h
  rcases h with ⟨t, ht, h⟩ | ⟨s, hs, h⟩
  · unfold dropK at h
    split at h
    · simp only [List.mem_flatMap, List.mem_range'_1] at h
      obtain ⟨s, hs, h⟩ := h
      unfold dropS at h
      split at h
      · rw [List.mem_singleton.1 h]
        exact ⟨.inl rfl, ⟨by show (0 : Int) ≤ (s : Int); omega, by show (s : Int) < _; omega⟩, by show (0 : Int) ≤ (t : Int); omega, by show (t : Int) < _; omega⟩
      · cases h
    · cases h
  · unfold pieceM at h
    split at h
    · rename_i ho
      obtain ⟨w, hw, h⟩ := List.mem_flatMap.1 h
      unfold wayM at h
      obtain ⟨q, hq, e⟩ := List.mem_map.1 h
      obtain ⟨j, _, hb, hq2⟩ := ray_far r p _ _ _ _ _ _ _ hq
      have hn := hp.n
      have hs2 := sq_in hr hb
      have hc := own_pos hr hp (s : Int) (by omega) (by omega) ho
      have hk := knd_lt _ (r.f3.length : Int) ⟨hc.1, hc.2.2.1⟩
      rw [← e]
      exact ⟨.inr ⟨by show (0 : Int) ≤ (s : Int); omega, by show (s : Int) < _; omega, ho⟩, ⟨by show 0 ≤ q; rw [hq2]; exact hs2.2.2.1, by show q < _; rw [hq2, hn]; exact hs2.2.2.2⟩, arr_in r hr _ _ _ hk.1 hk.2⟩
    · cases h
theorem once_in (r : S26) (p : S29) (hr : VR r) (hp : VP r p) : (onceM (rawM r p)).length ≤ 100000 ∧ ∀ m ∈ onceM (rawM r p), MI r p m :=
  ⟨Nat.le_trans (once_len _) (raw_len r p hr hp), fun m h => raw_in r p hr hp m (((once_spec _).2 m).1 h)⟩
/-! squares -/
def U (n : Int) : UInt8 := UInt8.ofNat n.toNat
def S (a b : Int) : ByteArray := strOfNums [97 + a, 49 + b]
def e1 (a : Int) : ByteArray := Go.Utf8.encode (bt (⟨#[97, 98, 99, 100, 101, 102, 103, 104]⟩ : ByteArray) a)
def e2 (b : Int) : ByteArray := Go.Utf8.encode (bt (⟨#[49, 50, 51, 52, 53, 54, 55, 56]⟩ : ByteArray) b)
def SP (a b : Int) : Prop := e1 a ++ e2 b = S a b ∧ (S a b).size = 2 ∧ ((S a b).extract 0 1).data.toList = [U (97 + a)] ∧ ((S a b).extract 1 (S a b).size).data.toList = [U (49 + b)] ∧ (S a b).data.toList = [U (97 + a), U (49 + b)]
instance (a b : Int) : Decidable (SP a b) := by unfold SP; exact inferInstance
theorem S_dec : ∀ a b : Fin 8, SP (a.val : Int) (b.val : Int) := by decide +kernel
theorem S_facts {a b : Int} (ha : 0 ≤ a ∧ a < 8) (hb : 0 ≤ b ∧ b < 8) : SP a b := by
  obtain ⟨n, rfl⟩ := Int.eq_ofNat_of_zero_le ha.1
  obtain ⟨m, rfl⟩ := Int.eq_ofNat_of_zero_le hb.1
  exact S_dec ⟨n, by omega⟩ ⟨m, by omega⟩
theorem U_dec : ∀ a b : Fin 8, (U (97 + (a.val : Int)) = U (97 + (b.val : Int)) ↔ (a.val : Int) = (b.val : Int)) ∧ (U (49 + (a.val : Int)) = U (49 + (b.val : Int)) ↔ (a.val : Int) = (b.val : Int)) ∧ U (97 + (a.val : Int)) ≠ U (49 + (b.val : Int)) := by decide +kernel
theorem U_facts {a b : Int} (ha : 0 ≤ a ∧ a < 8) (hb : 0 ≤ b ∧ b < 8) : (U (97 + a) = U (97 + b) ↔ a = b) ∧ (U (49 + a) = U (49 + b) ↔ a = b) ∧ U (97 + a) ≠ U (49 + b) := by
  obtain ⟨n, rfl⟩ := Int.eq_ofNat_of_zero_le ha.1
  obtain ⟨m, rfl⟩ := Int.eq_ofNat_of_zero_le hb.1
  exact U_dec ⟨n, by omega⟩ ⟨m, by omega⟩
theorem sq_co (r : S26) (hr : VR r) (n : Int) (h0 : 0 ≤ n) (h1 : n < r.f1 * r.f2) : (0 ≤ n % r.f1 ∧ n % r.f1 < 8) ∧ 0 ≤ n / r.f1 ∧ n / r.f1 < 8 := by
  have h := (onB_of r hr n h0 h1).1
  unfold onB at h
  have := hr.w; have := hr.h
  omega
def SQ (r : S26) (n : Int) : ByteArray := S (n % r.f1) (n / r.f1)
theorem square_f (r : S26) (hr : VR r) (n : Int) (h0 : 0 ≤ n) (h1 : n < r.f1 * r.f2) : movetext_square.f r.f0 r.f1 r.f2 r.f3 r.f4 r.f5 r.f6 r.f7 r.f8 r.f9 r.f10 n = some (SQ r n) := by
  have hc := sq_co r hr n h0 h1
  have hw := hr.w
  unfold movetext_square.f SQ S
  rw [if_neg (by omega), Int.tmod_eq_emod_of_nonneg h0, Int.tdiv_eq_ediv_of_nonneg h0]
  generalize n % r.f1 = a at hc ⊢
  generalize n / r.f1 = b at hc ⊢
  rw [w64 (n := b) (by omega) (by omega), w64 (n := 97 + a) (by omega) (by omega), w64 (n := 49 + b) (by omega) (by omega), Int.emod_eq_of_lt (by omega) (by omega), Int.emod_eq_of_lt (by omega) (by omega)]
theorem ref_sq (r : S26) (hr : VR r) (n : Int) (h0 : 0 ≤ n) (h1 : n < r.f1 * r.f2) : gamehallref3_Square.f r.f1 n = some (SQ r n) := by
  have hc := sq_co r hr n h0 h1
  have hw := hr.w
  unfold gamehallref3_Square.f SQ
  rw [if_neg (by omega), Int.tmod_eq_emod_of_nonneg h0, Int.tdiv_eq_ediv_of_nonneg h0]
  generalize n % r.f1 = a at hc ⊢
  generalize n / r.f1 = b at hc ⊢
  have hs := S_facts hc.1 hc.2
  have hz : (e1 a).size + (e2 b).size = 2 := by rw [← ByteArray.size_append, hs.1]; exact hs.2.1
  rw [w64 (n := b) (by omega) (by omega), if_pos hc.1.1, if_pos hc.1.2, if_pos hc.2.1, if_pos hc.2.2]
  show (if (e1 a).size + (e2 b).size ≤ _ then some (e1 a ++ e2 b) else none) = _
  rw [if_pos (by omega), hs.1]
theorem SQ_facts (r : S26) (hr : VR r) (n : Int) (h0 : 0 ≤ n) (h1 : n < r.f1 * r.f2) : (SQ r n).size = 2 ∧ ((SQ r n).extract 0 1).data.toList = [U (97 + n % r.f1)] ∧ ((SQ r n).extract 1 (SQ r n).size).data.toList = [U (49 + n / r.f1)] ∧ (SQ r n).data.toList = [U (97 + n % r.f1), U (49 + n / r.f1)] := by
  have hc := sq_co r hr n h0 h1
  exact (S_facts hc.1 hc.2).2
def enc (r : S26) (t : Int) : ByteArray := Go.Utf8.encode ((rd_T62 r.f3 t).f0)
theorem enc_le (n : Int) : (Go.Utf8.encode n).size ≤ 4 := by
  unfold Go.Utf8.encode
  simp only []
  repeat' (first | split | exact Nat.le_of_ble_eq_true rfl)
/-! the mark: the program -/
def same (p : S29) (m x : S37) : Bool := decide (0 ≤ x.f0 ∧ x.f0 ≠ m.f0 ∧ x.f1 = m.f1 ∧ knd (rd p.f0 x.f0) = knd (rd p.f0 m.f0))
def fileB (r : S26) (p : S29) (m x : S37) : Bool := same p m x && decide (x.f0 % r.f1 = m.f0 % r.f1)
def rowB (r : S26) (p : S29) (m x : S37) : Bool := same p m x && decide (x.f0 / r.f1 = m.f0 / r.f1)
def mark (s : ByteArray) (f g o : Bool) : ByteArray := if o = true then (if f = true then (if g = true then s else s.extract 1 s.size) else s.extract 0 1) else ⟨#[]⟩
theorem wn1 (i : Nat) (h : i ≤ 1000000) : wrap64 ((i : Int) + 1) = ((i + 1 : Nat) : Int) := by rw [w64s (by omega) (by omega)]; omega
theorem rdM (l : List S37) (i : Nat) (h : i < l.length) : rd_T37 l (i : Int) = l[i] := by simp [rd_T37, List.getD_eq_getElem?_getD, h]
theorem from_l0 (r : S26) (p : S29) (hr : VR r) (hp : VP r p) (l : List S37) (hl : l.length ≤ 100000) (hx : ∀ x ∈ l, MI r p x) (m : S37) (hm : MI r p m) (h0 : 0 ≤ m.f0) : ∀ (d i : Nat) (f g o : Bool), i + d = l.length →
    Ev (fun k => movetext_from.l0 k f g o l (l.length : Int) (i : Int) r.f0 r.f1 r.f2 r.f3 r.f4 r.f5 r.f6 r.f7 r.f8 r.f9 r.f10 p.f0 p.f1.f0 p.f1.f1 p.f2 p.f3 m.f0 m.f1 m.f2) (mark (SQ r m.f0) (f || (l.drop i).any (fileB r p m)) (g || (l.drop i).any (rowB r p m)) (o || (l.drop i).any (same p m))) := by
  have hn := hp.n
  have hw := hr.w
  have hm2 : m.f0 < (p.f0.length : Int) ∧ own (rd p.f0 m.f0) = p.f2 := (hm.f.resolve_left (by omega)).2
  have hmc := own_pos hr hp m.f0 h0 hm2.1 hm2.2
  have hms := sq_co r hr m.f0 h0 (by omega)
  intro d
  induction d with
  | zero =>
    intro i f g o hi
    rw [List.drop_of_length_le (by omega)]
    simp only [List.any_nil, Bool.or_false]
    have hs := (SQ_facts r hr m.f0 h0 (by omega)).1
    refine Ev.step (fun k => by rw [movetext_from.l0]) ?_
    refine ite (fun h => absurd h (by omega)) (fun _ => ?_)
    refine bind_now (square_f r hr m.f0 h0 (by omega)) ?_
    refine ite (fun ho => ?_) (fun ho => now (by unfold mark; rw [if_neg ho]))
    refine ite (fun hf => ?_) (fun hf => ?_)
    · refine ite (fun hg => now (by unfold mark; rw [if_pos ho, if_pos hf, if_pos hg])) (fun hg => ?_)
      exact ite (fun _ => now (by unfold mark; rw [if_pos ho, if_pos hf, if_neg hg])) (fun h => absurd (by omega) h)
    · refine ite (fun _ => ?_) (fun h => absurd (by decide) h)
      exact ite (fun _ => now (by unfold mark; rw [if_pos ho, if_neg hf])) (fun h => absurd (by omega) h)
  | succ d ih =>
    intro i f g o hi
    have hi1 : i < l.length := by omega
    have hi2 : (i : Int) < (l.length : Int) := by omega
    have hmx := hx l[i] (List.getElem_mem hi1)
    rw [List.drop_eq_getElem_cons hi1]
    simp only [List.any_cons, ← Bool.or_assoc]
    have hgx := rdM l i hi1
    have hwn := wn1 i (by omega)
    refine Ev.step (fun k => by rw [movetext_from.l0]) ?_
    refine ite (fun _ => ?_) (fun h => absurd hi2 h)
    refine ite (fun _ => ?_) (fun h => absurd (Int.natCast_nonneg _) h)
    refine ite (fun _ => ?_) (fun h => absurd hi2 h)
    rw [hgx, hwn]
    generalize l[i] = x at hmx ⊢
    have next : ∀ f' g' o' : Bool, f' = (f || fileB r p m x) → g' = (g || rowB r p m x) → o' = (o || same p m x) → Ev (fun k => movetext_from.l0 k f' g' o' l (l.length : Int) ((i + 1 : Nat) : Int) r.f0 r.f1 r.f2 r.f3 r.f4 r.f5 r.f6 r.f7 r.f8 r.f9 r.f10 p.f0 p.f1.f0 p.f1.f1 p.f2 p.f3 m.f0 m.f1 m.f2) (mark (SQ r m.f0) (f || fileB r p m x || (l.drop (i + 1)).any (fileB r p m)) (g || rowB r p m x || (l.drop (i + 1)).any (rowB r p m)) (o || same p m x || (l.drop (i + 1)).any (same p m))) := by
      intro f' g' o' h1 h2 h3
      rw [← h1, ← h2, ← h3]
      exact ih (i + 1) f' g' o' (by omega)
    have skip : same p m x = false → Ev (fun k => movetext_from.l0 k f g o l (l.length : Int) ((i + 1 : Nat) : Int) r.f0 r.f1 r.f2 r.f3 r.f4 r.f5 r.f6 r.f7 r.f8 r.f9 r.f10 p.f0 p.f1.f0 p.f1.f1 p.f2 p.f3 m.f0 m.f1 m.f2) (mark (SQ r m.f0) (f || fileB r p m x || (l.drop (i + 1)).any (fileB r p m)) (g || rowB r p m x || (l.drop (i + 1)).any (rowB r p m)) (o || same p m x || (l.drop (i + 1)).any (same p m))) := by
      intro h
      exact next f g o (by unfold fileB; rw [h]; simp) (by unfold rowB; rw [h]; simp) (by rw [h]; simp)
    refine ite (fun h1 => skip (decide_eq_false (fun hh => by omega))) (fun h1 => ?_)
    refine ite (fun h2 => skip (decide_eq_false (fun hh => hh.2.1 h2))) (fun h2 => ?_)
    refine ite (fun h3 => ?_) (fun h3 => skip (decide_eq_false (fun hh => h3 hh.2.2.1)))
    have hxx := hmx.f.resolve_left (by omega)
    have hxc := own_pos hr hp x.f0 hxx.1 hxx.2.1 hxx.2.2
    have hxs := sq_co r hr x.f0 hxx.1 (by omega)
    refine ite (fun _ => ?_) (fun h => absurd hxx.1 h)
    refine ite (fun _ => ?_) (fun h => absurd hxx.2.1 h)
    refine bind_now (kind_f _ ⟨hxc.1, hxc.2.1⟩) ?_
    refine ite (fun _ => ?_) (fun h => absurd h0 h)
    refine ite (fun _ => ?_) (fun h => absurd hm2.1 h)
    refine bind_now (kind_f _ ⟨hmc.1, hmc.2.1⟩) ?_
    refine ite (fun h4 => ?_) (fun h4 => skip (decide_eq_false (fun hh => h4 hh.2.2.2)))
    have hs : same p m x = true := decide_eq_true ⟨hxx.1, h2, h3, h4⟩
    have eF : ((Int.tmod x.f0 r.f1) == (Int.tmod m.f0 r.f1)) = fileB r p m x := by
      unfold fileB; rw [hs, Bool.true_and, Int.tmod_eq_emod_of_nonneg hxx.1, Int.tmod_eq_emod_of_nonneg h0]; rfl
    have eG : ((wrap64 (Int.tdiv x.f0 r.f1)) == (wrap64 (Int.tdiv m.f0 r.f1))) = rowB r p m x := by
      unfold rowB; rw [hs, Bool.true_and, Int.tdiv_eq_ediv_of_nonneg hxx.1, Int.tdiv_eq_ediv_of_nonneg h0, w64 (by omega) (by omega), w64 (by omega) (by omega)]; rfl
    rw [eF, eG]
    refine ite (fun hf => ?_) (fun hf => ?_)
    · refine ite (fun hg => next true true true (by rw [hf, Bool.true_or]) (by rw [hg, Bool.true_or]) (by rw [hs, Bool.or_true])) (fun hg => ?_)
      exact ite (fun h => absurd h (by omega)) (fun _ => next true _ true (by rw [hf, Bool.true_or]) (by rw [Bool.eq_false_iff.2 hg, Bool.false_or]) (by rw [hs, Bool.or_true]))
    · refine ite (fun h => absurd h (by omega)) (fun _ => ?_)
      refine ite (fun hg => next _ true true (by rw [Bool.eq_false_iff.2 hf, Bool.false_or]) (by rw [hg, Bool.true_or]) (by rw [hs, Bool.or_true])) (fun hg => ?_)
      exact next _ _ true (by rw [Bool.eq_false_iff.2 hf, Bool.false_or]) (by rw [Bool.eq_false_iff.2 hg, Bool.false_or]) (by rw [hs, Bool.or_true])
def markP (r : S26) (p : S29) (l : List S37) (m : S37) : ByteArray := mark (SQ r m.f0) (l.any (fileB r p m)) (l.any (rowB r p m)) (l.any (same p m))
theorem from_f (r : S26) (p : S29) (hr : VR r) (hp : VP r p) (l : List S37) (hl : l.length ≤ 100000) (hx : ∀ x ∈ l, MI r p x) (m : S37) (hm : MI r p m) (h0 : 0 ≤ m.f0) : Ev (fun k => movetext_from.f k r.f0 r.f1 r.f2 r.f3 r.f4 r.f5 r.f6 r.f7 r.f8 r.f9 r.f10 p.f0 p.f1.f0 p.f1.f1 p.f2 p.f3 l m.f0 m.f1 m.f2) (markP r p l m) := by
  have h := from_l0 r p hr hp l hl hx m hm h0 l.length 0 false false false (by omega)
  simp only [List.drop_zero, Bool.false_or] at h
  exact h
/-! the text -/
def txtM (r : S26) (p : S29) (m : S37) (mk : ByteArray) : ByteArray :=
  let b := enc r (knd (rd p.f0 m.f0)) ++ mk
  let b2 := if rd p.f0 m.f1 = 0 then b else b ++ (⟨#[120]⟩ : ByteArray)
  let b3 := b2 ++ SQ r m.f1
  if m.f2 = knd (rd p.f0 m.f0) then b3 else b3 ++ ((⟨#[61]⟩ : ByteArray) ++ enc r m.f2)
def txt (r : S26) (p : S29) (l : List S37) (m : S37) : ByteArray := if m.f0 < 0 then (enc r m.f2 ++ (⟨#[64]⟩ : ByteArray)) ++ SQ r m.f1 else txtM r p m (markP r p l m)
theorem mark_le (s : ByteArray) (f g o : Bool) : (mark s f g o).size ≤ s.size := by
  unfold mark
  split
  · split
    · split
      · exact Nat.le_refl _
      · rw [ByteArray.size_extract]; omega
    · rw [ByteArray.size_extract]; omega
  · exact Nat.zero_le _
theorem z1 (n : UInt8) : (⟨#[n]⟩ : ByteArray).size = 1 := rfl
theorem text_f (r : S26) (p : S29) (hr : VR r) (hp : VP r p) (l : List S37) (hl : l.length ≤ 100000) (hx : ∀ x ∈ l, MI r p x) (m : S37) (hm : MI r p m) : Ev (fun k => movetext_text.f k r.f0 r.f1 r.f2 r.f3 r.f4 r.f5 r.f6 r.f7 r.f8 r.f9 r.f10 p.f0 p.f1.f0 p.f1.f1 p.f2 p.f3 l m.f0 m.f1 m.f2) (txt r p l m) := by
  have hn := hp.n
  have ht := hm.t
  have hk := hm.k
  have hsq := square_f r hr m.f1 ht.1 (by omega)
  have hsz := (SQ_facts r hr m.f1 ht.1 (by omega)).1
  unfold movetext_text.f txt
  have E : ∀ t, (Go.Utf8.encode ((rd_T62 r.f3 t).f0)) = enc r t := fun _ => rfl
  have Z : ∀ t, (enc r t).size ≤ 4 := fun t => enc_le _
  simp only [E]
  refine ite (fun h0 => ?_) (fun h0 => ?_)
  · rw [if_pos h0]
    have z := Z m.f2
    refine ite (fun _ => ?_) (fun h => absurd hk.1 h)
    refine ite (fun _ => ?_) (fun h => absurd hk.2 h)
    refine ite (fun _ => ?_) (fun h => absurd (by omega) h)
    refine bind_now hsq ?_
    exact ite (fun _ => now rfl) (fun h => absurd (by rw [ByteArray.size_append, z1, hsz]; omega) h)
  · rw [if_neg h0]
    have h0 : 0 ≤ m.f0 := by omega
    have hm2 : m.f0 < (p.f0.length : Int) ∧ own (rd p.f0 m.f0) = p.f2 := (hm.f.resolve_left (by omega)).2
    have hmc := own_pos hr hp m.f0 h0 hm2.1 hm2.2
    have hkn := knd_lt _ (r.f3.length : Int) ⟨hmc.1, hmc.2.2.1⟩
    have hmk : (markP r p l m).size ≤ 2 := Nat.le_trans (mark_le _ _ _ _) (Nat.le_of_eq (SQ_facts r hr m.f0 h0 (by omega)).1)
    have zk := Z (knd (rd p.f0 m.f0))
    have z2 := Z m.f2
    refine ite (fun _ => ?_) (fun h => absurd h0 h)
    refine ite (fun _ => ?_) (fun h => absurd hm2.1 h)
    refine bind_now (kind_f _ ⟨hmc.1, hmc.2.1⟩) ?_
    refine ite (fun _ => ?_) (fun h => absurd hkn.1 h)
    refine ite (fun _ => ?_) (fun h => absurd hkn.2 h)
    refine Ev.bind (from_f r p hr hp l hl hx m hm h0) ?_
    refine ite (fun _ => ?_) (fun h => absurd (by omega) h)
    refine ite (fun _ => ?_) (fun h => absurd ht.1 h)
    refine ite (fun _ => ?_) (fun h => absurd ht.2 h)
    unfold txtM
    simp only []
    generalize hM : markP r p l m = M at hmk ⊢
    refine ite (fun hc => ?_) (fun hc => ?_)
    · refine bind_now hsq ?_
      rw [if_pos hc]
      refine ite (fun _ => ?_) (fun h => absurd (by simp only [ByteArray.size_append]; omega) h)
      refine ite (fun hq => now (by rw [if_pos hq])) (fun hq => ?_)
      refine ite (fun _ => ?_) (fun h => absurd hk.1 h)
      refine ite (fun _ => ?_) (fun h => absurd hk.2 h)
      refine ite (fun _ => ?_) (fun h => absurd (by omega) h)
      exact ite (fun _ => now (by rw [if_neg hq])) (fun h => absurd (by simp only [ByteArray.size_append, z1]; omega) h)
    · refine ite (fun _ => ?_) (fun h => absurd (by simp only [ByteArray.size_append]; omega) h)
      refine bind_now hsq ?_
      rw [if_neg hc]
      refine ite (fun _ => ?_) (fun h => absurd (by simp only [ByteArray.size_append, z1]; omega) h)
      refine ite (fun hq => now (by rw [if_pos hq])) (fun hq => ?_)
      refine ite (fun _ => ?_) (fun h => absurd hk.1 h)
      refine ite (fun _ => ?_) (fun h => absurd hk.2 h)
      refine ite (fun _ => ?_) (fun h => absurd (by omega) h)
      exact ite (fun _ => now (by rw [if_neg hq])) (fun h => absurd (by simp only [ByteArray.size_append, z1]; omega) h)
/-! the mark: the reference -/
def base (p : S29) (m x : S37) : Bool := decide (0 ≤ x.f0 ∧ x.f1 = m.f1 ∧ x.f0 ≠ m.f0 ∧ rd p.f0 x.f0 = rd p.f0 m.f0)
def seen (r : S26) (mk : ByteArray) (n : Int) : Prop := mk.toList = [] ∨ mk.toList = ((SQ r n).extract 0 1).toList ∨ mk.toList = ((SQ r n).extract 1 (SQ r n).size).toList ∨ mk.toList = (SQ r n).toList
instance (r : S26) (mk : ByteArray) (n : Int) : Decidable (seen r mk n) := by unfold seen; exact inferInstance
def hit (r : S26) (p : S29) (m : S37) (mk : ByteArray) (x : S37) : Bool := base p m x && decide (seen r mk x.f0)
def fin (b : Bool) (mk ow : ByteArray) : Bool := if b = true then false else (mk.toList != ow.toList)
theorem mt_l1 (r : S26) (p : S29) (hr : VR r) (hp : VP r p) (l : List S37) (hl : l.length ≤ 100000) (hx : ∀ x ∈ l, MI r p x) (m : S37) (tx ow mk : ByteArray) (ms : List ByteArray) (y z : Int) (res : ByteArray) : ∀ (d i : Nat) (al : Bool), i + d = l.length →
    Ev (fun k => gamehallref3_MoveText.j3 k tx (rd p.f0 m.f0) l ow mk ms y z (fin (al && !(l.drop i).any (hit r p m mk)) mk ow) r.f0 r.f1 r.f2 r.f3 r.f4 r.f5 r.f6 r.f7 r.f8 r.f9 r.f10 p.f0 p.f1.f0 p.f1.f1 p.f2 p.f3 m.f0 m.f1 m.f2) res →
    Ev (fun k => gamehallref3_MoveText.l1 k tx (rd p.f0 m.f0) l ow mk al ms y z (l.length : Int) (i : Int) r.f0 r.f1 r.f2 r.f3 r.f4 r.f5 r.f6 r.f7 r.f8 r.f9 r.f10 p.f0 p.f1.f0 p.f1.f1 p.f2 p.f3 m.f0 m.f1 m.f2) res := by
  have hn := hp.n
  intro d
  induction d with
  | zero =>
    intro i al hi e
    rw [List.drop_of_length_le (by omega)] at e
    simp only [List.any_nil, Bool.not_false, Bool.and_true] at e
    refine Ev.step (fun k => by rw [gamehallref3_MoveText.l1]) ?_
    refine ite (fun h => absurd h (by omega)) (fun _ => ?_)
    unfold fin at e
    exact ite (fun h => by rw [if_pos h] at e; exact e) (fun h => by rw [if_neg h] at e; exact e)
  | succ d ih =>
    intro i al hi e
    have hi1 : i < l.length := by omega
    have hi2 : (i : Int) < (l.length : Int) := by omega
    have hmx := hx l[i] (List.getElem_mem hi1)
    rw [List.drop_eq_getElem_cons hi1] at e
    simp only [List.any_cons] at e
    have hgx := rdM l i hi1
    have hwn := wn1 i (by omega)
    have next := ih (i + 1)
    rw [← hwn] at next
    refine Ev.step (fun k => by rw [gamehallref3_MoveText.l1]) ?_
    refine ite (fun _ => ?_) (fun h => absurd hi2 h)
    refine ite (fun _ => ?_) (fun h => absurd (Int.natCast_nonneg _) h)
    refine ite (fun _ => ?_) (fun h => absurd hi2 h)
    rw [hgx]
    generalize l[i] = x at hmx e ⊢
    have skip : base p m x = false → Ev (fun k => gamehallref3_MoveText.j2 k tx (rd p.f0 m.f0) l ow mk al ms y z (l.length : Int) (i : Int) true r.f0 r.f1 r.f2 r.f3 r.f4 r.f5 r.f6 r.f7 r.f8 r.f9 r.f10 p.f0 p.f1.f0 p.f1.f1 p.f2 p.f3 m.f0 m.f1 m.f2 x.f0 x.f1 x.f2) res := by
      intro h
      refine Ev.step (fun k => by rw [gamehallref3_MoveText.j2]) ?_
      refine ite (fun _ => ?_) (fun h => absurd rfl h)
      refine next al (by omega) ?_
      have hh : hit r p m mk x = false := by unfold hit; rw [h, Bool.false_and]
      rw [hh, Bool.false_or] at e; exact e
    have take : base p m x = true → Ev (fun k => gamehallref3_MoveText.j2 k tx (rd p.f0 m.f0) l ow mk al ms y z (l.length : Int) (i : Int) false r.f0 r.f1 r.f2 r.f3 r.f4 r.f5 r.f6 r.f7 r.f8 r.f9 r.f10 p.f0 p.f1.f0 p.f1.f1 p.f2 p.f3 m.f0 m.f1 m.f2 x.f0 x.f1 x.f2) res := by
      intro h
      have hb := of_decide_eq_true h
      have hxx := hmx.f.resolve_left (by omega)
      have hsz := (SQ_facts r hr x.f0 hxx.1 (by omega)).1
      have yes : seen r mk x.f0 → Ev (fun k => gamehallref3_MoveText.l1 k tx (rd p.f0 m.f0) l ow mk false ms y z (l.length : Int) (wrap64 ((i : Int) + 1)) r.f0 r.f1 r.f2 r.f3 r.f4 r.f5 r.f6 r.f7 r.f8 r.f9 r.f10 p.f0 p.f1.f0 p.f1.f1 p.f2 p.f3 m.f0 m.f1 m.f2) res := by
        intro hs
        refine next false (by omega) ?_
        have hh : hit r p m mk x = true := by unfold hit; rw [h, Bool.true_and]; exact decide_eq_true hs
        rw [hh, Bool.true_or, Bool.not_true, Bool.and_false] at e
        rw [Bool.false_and]; exact e
      refine Ev.step (fun k => by rw [gamehallref3_MoveText.j2]) ?_
      refine ite (fun h => absurd h (by decide)) (fun _ => ?_)
      refine bind_now (ref_sq r hr x.f0 hxx.1 (by omega)) ?_
      refine ite (fun q => yes (.inl q)) (fun q1 => ?_)
      refine ite (fun _ => ?_) (fun h => absurd (by decide) h)
      refine ite (fun _ => ?_) (fun h => absurd (by omega) h)
      refine ite (fun q => yes (.inr (.inl q))) (fun q2 => ?_)
      refine ite (fun q => yes (.inr (.inr (.inl q)))) (fun q3 => ?_)
      refine ite (fun q => yes (.inr (.inr (.inr q)))) (fun q4 => ?_)
      refine next al (by omega) ?_
      have hh : hit r p m mk x = false := by
        unfold hit; rw [h, Bool.true_and]; exact decide_eq_false (fun q => q.elim q1 (fun q => q.elim q2 (fun q => q.elim q3 q4)))
      rw [hh, Bool.false_or] at e; exact e
    refine ite (fun h1 => skip (decide_eq_false (fun hh => by omega))) (fun h1 => ?_)
    refine ite (fun h2 => ?_) (fun h2 => skip (decide_eq_false (fun hh => h2 hh.2.1)))
    refine ite (fun h3 => skip (decide_eq_false (fun hh => hh.2.2.1 h3))) (fun h3 => ?_)
    have hxx := hmx.f.resolve_left (by omega)
    refine ite (fun _ => ?_) (fun h => absurd hxx.1 h)
    refine ite (fun _ => ?_) (fun h => absurd hxx.2.1 h)
    by_cases h4 : rd p.f0 x.f0 = rd p.f0 m.f0
    · rw [show ((rd p.f0 x.f0) != (rd p.f0 m.f0)) = false by rw [h4]; simp]
      exact take (decide_eq_true ⟨hxx.1, h2, h3, h4⟩)
    · rw [show ((rd p.f0 x.f0) != (rd p.f0 m.f0)) = true by simpa using h4]
      exact skip (decide_eq_false (fun hh => h4 hh.2.2.2))
theorem mt_j3 (r : S26) (p : S29) (hr : VR r) (hp : VP r p) (l : List S37) (m : S37) (hm : MI r p m) (h0 : 0 ≤ m.f0) (ow mk : ByteArray) (hmk : mk.size ≤ 2) (ms : List ByteArray) (y z : Int) : Ev (fun k => gamehallref3_MoveText.j3 k (SQ r m.f1) (rd p.f0 m.f0) l ow mk ms y z false r.f0 r.f1 r.f2 r.f3 r.f4 r.f5 r.f6 r.f7 r.f8 r.f9 r.f10 p.f0 p.f1.f0 p.f1.f1 p.f2 p.f3 m.f0 m.f1 m.f2) (txtM r p m mk) := by
  have hn := hp.n
  have ht := hm.t
  have hk := hm.k
  have htu := hp.t
  have hr6 := hr.t
  have hsz := (SQ_facts r hr m.f1 ht.1 (by omega)).1
  have E : ∀ t, (Go.Utf8.encode ((rd_T62 r.f3 t).f0)) = enc r t := fun _ => rfl
  have Z : ∀ t, (enc r t).size ≤ 4 := fun t => enc_le _
  have hm2 : m.f0 < (p.f0.length : Int) ∧ own (rd p.f0 m.f0) = p.f2 := (hm.f.resolve_left (by omega)).2
  have hmc := own_pos hr hp m.f0 h0 hm2.1 hm2.2
  have hkn := knd_lt _ (r.f3.length : Int) ⟨hmc.1, hmc.2.2.1⟩
  have hcT := hp.cell hr m.f1 ht.1 ht.2
  have ek : wrap64 (Int.tdiv (wrap64 (rd p.f0 m.f0 - 1)) 2) = knd (rd p.f0 m.f0) := by
    have hk := kind_f (rd p.f0 m.f0) ⟨hmc.1, hmc.2.1⟩
    unfold moves_Kind.f at hk
    exact Option.some.inj hk
  have ew : wrap64 (wrap64 (wrap64 (2 * m.f2) + p.f2) + 1) = 2 * m.f2 + p.f2 + 1 := by
    rw [w64 (n := 2 * m.f2) (by omega) (by omega), w64 (n := 2 * m.f2 + p.f2) (by omega) (by omega), w64 (by omega) (by omega)]
  have zk := Z (knd (rd p.f0 m.f0))
  have z2 := Z m.f2
  refine Ev.step (fun k => by rw [gamehallref3_MoveText.j3]) ?_
  simp only [E]
  rw [ek, ew]
  refine ite (fun h => absurd h (by decide)) (fun _ => ?_)
  refine ite (fun _ => ?_) (fun h => absurd hkn.1 h)
  refine ite (fun _ => ?_) (fun h => absurd hkn.2 h)
  refine ite (fun _ => ?_) (fun h => absurd (by omega) h)
  refine ite (fun _ => ?_) (fun h => absurd ht.1 h)
  refine ite (fun _ => ?_) (fun h => absurd ht.2 h)
  unfold txtM
  simp only []
  refine ite (fun hc => ?_) (fun hc => ?_)
  · rw [if_neg (c := rd p.f0 m.f1 = 0) (by omega)]
    refine ite (fun _ => ?_) (fun h => absurd (by simp only [ByteArray.size_append]; omega) h)
    refine ite (fun _ => ?_) (fun h => absurd (by simp only [ByteArray.size_append, z1]; omega) h)
    refine ite (fun hq => now (by rw [if_pos (by omega)])) (fun hq => ?_)
    refine ite (fun _ => ?_) (fun h => absurd hk.1 h)
    refine ite (fun _ => ?_) (fun h => absurd hk.2 h)
    refine ite (fun _ => ?_) (fun h => absurd (by omega) h)
    exact ite (fun _ => now (by rw [if_neg (by omega)])) (fun h => absurd (by simp only [ByteArray.size_append, z1]; omega) h)
  · rw [if_pos (c := rd p.f0 m.f1 = 0) (by omega)]
    refine ite (fun _ => ?_) (fun h => absurd (by simp only [ByteArray.size_append]; omega) h)
    refine ite (fun hq => now (by rw [if_pos (by omega)])) (fun hq => ?_)
    refine ite (fun _ => ?_) (fun h => absurd hk.1 h)
    refine ite (fun _ => ?_) (fun h => absurd hk.2 h)
    refine ite (fun _ => ?_) (fun h => absurd (by omega) h)
    exact ite (fun _ => now (by rw [if_neg (by omega)])) (fun h => absurd (by simp only [ByteArray.size_append, z1]; omega) h)
def marks (s : ByteArray) : List ByteArray := [(⟨#[]⟩ : ByteArray), s.extract 0 1, s.extract 1 s.size, s]
theorem mt_l0 (r : S26) (p : S29) (hr : VR r) (hp : VP r p) (l : List S37) (hl : l.length ≤ 100000) (hx : ∀ x ∈ l, MI r p x) (m : S37) (hm : MI r p m) (h0 : 0 ≤ m.f0) (i : Nat) (hi : i < 4) (mk : ByteArray) (hk : rdOf ByteArray.empty (marks (SQ r m.f0)) (i : Int) = mk) (hz : mk.size ≤ 2) (res : ByteArray)
    (h1 : l.any (hit r p m mk) = false ∨ mk.toList = (SQ r m.f0).toList → res = txtM r p m mk)
    (h2 : ¬ (l.any (hit r p m mk) = false ∨ mk.toList = (SQ r m.f0).toList) → Ev (fun k => gamehallref3_MoveText.l0 k (SQ r m.f1) (rd p.f0 m.f0) l (SQ r m.f0) (marks (SQ r m.f0)) 4 ((i + 1 : Nat) : Int) r.f0 r.f1 r.f2 r.f3 r.f4 r.f5 r.f6 r.f7 r.f8 r.f9 r.f10 p.f0 p.f1.f0 p.f1.f1 p.f2 p.f3 m.f0 m.f1 m.f2) res) :
    Ev (fun k => gamehallref3_MoveText.l0 k (SQ r m.f1) (rd p.f0 m.f0) l (SQ r m.f0) (marks (SQ r m.f0)) 4 (i : Int) r.f0 r.f1 r.f2 r.f3 r.f4 r.f5 r.f6 r.f7 r.f8 r.f9 r.f10 p.f0 p.f1.f0 p.f1.f1 p.f2 p.f3 m.f0 m.f1 m.f2) res := by
  have hwn := wn1 i (by omega)
  refine Ev.step (fun k => by rw [gamehallref3_MoveText.l0]) ?_
  refine ite (fun _ => ?_) (fun h => absurd (by omega) h)
  refine ite (fun _ => ?_) (fun h => absurd (by omega) h)
  refine ite (fun _ => ?_) (fun h => absurd (show (i : Int) < ((marks (SQ r m.f0)).length : Int) by show (i : Int) < 4; omega) h)
  rw [hk]
  refine mt_l1 r p hr hp l hl hx m _ _ mk _ _ _ res l.length 0 true (by omega) ?_
  rw [List.drop_zero, Bool.true_and]
  by_cases hc : l.any (hit r p m mk) = false ∨ mk.toList = (SQ r m.f0).toList
  · have hf : fin (!l.any (hit r p m mk)) mk (SQ r m.f0) = false := by
      unfold fin
      rcases hc with h | h
      · rw [if_pos (by rw [h]; rfl)]
      · split
        · rfl
        · rw [h]; simp
    rw [hf, h1 hc]
    exact mt_j3 r p hr hp l m hm h0 _ mk hz _ _ _
  · have hf : fin (!l.any (hit r p m mk)) mk (SQ r m.f0) = true := by
      unfold fin
      have a : l.any (hit r p m mk) = true := by simpa using fun h => hc (.inl h)
      have b : ¬ mk.toList = (SQ r m.f0).toList := fun h => hc (.inr h)
      rw [if_neg (by rw [a]; decide)]; simpa using b
    rw [hf]
    refine Ev.step (fun k => by rw [gamehallref3_MoveText.j3]) ?_
    refine ite (fun _ => ?_) (fun h => absurd rfl h)
    rw [hwn]; exact h2 hc
theorem any_eq {α : Type} (l : List α) (f g : α → Bool) (h : ∀ x ∈ l, f x = g x) : l.any f = l.any g := by
  induction l with
  | nil => rfl
  | cons x xs ih => rw [List.any_cons, List.any_cons, h x (by simp), ih (fun y hy => h y (by simp [hy]))]
theorem base_same (r : S26) (p : S29) (hr : VR r) (hp : VP r p) (m x : S37) (hm : MI r p m) (h0 : 0 ≤ m.f0) (hx : MI r p x) : base p m x = same p m x := by
  unfold base same
  congr 1
  apply propext
  have hm2 : m.f0 < (p.f0.length : Int) ∧ own (rd p.f0 m.f0) = p.f2 := (hm.f.resolve_left (by omega)).2
  have hmc := (own_pos hr hp m.f0 h0 hm2.1 hm2.2).2.2.2
  constructor
  · rintro ⟨a, b, c, d⟩; exact ⟨a, c, b, by rw [d]⟩
  · rintro ⟨a, c, b, d⟩
    have hxx := hx.f.resolve_left (by omega)
    have hxc := (own_pos hr hp x.f0 a hxx.2.1 hxx.2.2).2.2.2
    exact ⟨a, b, c, by rw [hxc, hmc, d]⟩
theorem seen_0 (r : S26) (n : Int) : seen r ⟨#[]⟩ n := .inl (by rw [ByteArray.toList_eq])
theorem seen_1 (r : S26) (hr : VR r) (a n : Int) (a0 : 0 ≤ a) (a1 : a < r.f1 * r.f2) (n0 : 0 ≤ n) (n1 : n < r.f1 * r.f2) : seen r ((SQ r a).extract 0 1) n ↔ n % r.f1 = a % r.f1 := by
  have ha := SQ_facts r hr a a0 a1
  have hn := SQ_facts r hr n n0 n1
  have ca := sq_co r hr a a0 a1
  have cn := sq_co r hr n n0 n1
  unfold seen
  simp only [ByteArray.toList_eq]
  rw [ha.2.1, hn.2.1, hn.2.2.1, hn.2.2.2]
  constructor
  · rintro (h | h | h | h)
    · cases h
    · exact ((U_facts ca.1 cn.1).1.1 (List.cons.inj h).1).symm
    · exact absurd (List.cons.inj h).1 (U_facts ca.1 cn.2).2.2
    · cases (List.cons.inj h).2
  · intro h; rw [h]; exact .inr (.inl rfl)
theorem seen_2 (r : S26) (hr : VR r) (a n : Int) (a0 : 0 ≤ a) (a1 : a < r.f1 * r.f2) (n0 : 0 ≤ n) (n1 : n < r.f1 * r.f2) : seen r ((SQ r a).extract 1 (SQ r a).size) n ↔ n / r.f1 = a / r.f1 := by
  have ha := SQ_facts r hr a a0 a1
  have hn := SQ_facts r hr n n0 n1
  have ca := sq_co r hr a a0 a1
  have cn := sq_co r hr n n0 n1
  unfold seen
  simp only [ByteArray.toList_eq]
  rw [ha.2.2.1, hn.2.1, hn.2.2.1, hn.2.2.2]
  constructor
  · rintro (h | h | h | h)
    · cases h
    · exact absurd (List.cons.inj h).1.symm (U_facts cn.1 ca.2).2.2
    · exact ((U_facts ca.2 cn.2).2.1.1 (List.cons.inj h).1).symm
    · cases (List.cons.inj h).2
  · intro h; rw [h]; exact .inr (.inr (.inl rfl))
theorem ref_f (r : S26) (p : S29) (hr : VR r) (hp : VP r p) (hc : Ev (fun k => place_Check.f k r.f0 r.f1 r.f2 r.f3 r.f4 r.f5 r.f6 r.f7 r.f8 r.f9 r.f10 p.f0 p.f1.f0 p.f1.f1 p.f2 p.f3) 0) (m : S37) (hm : MI r p m) : Ev (fun k => gamehallref3_MoveText.f k r.f0 r.f1 r.f2 r.f3 r.f4 r.f5 r.f6 r.f7 r.f8 r.f9 r.f10 p.f0 p.f1.f0 p.f1.f1 p.f2 p.f3 m.f0 m.f1 m.f2) (txt r p (onceM (rawM r p)) m) := by
  have hn := hp.n
  have ht := hm.t
  have hk := hm.k
  have hsz := (SQ_facts r hr m.f1 ht.1 (by omega)).1
  have E : ∀ t, (Go.Utf8.encode ((rd_T62 r.f3 t).f0)) = enc r t := fun _ => rfl
  have Z : ∀ t, (enc r t).size ≤ 4 := fun t => enc_le _
  obtain ⟨hl, hx⟩ := once_in r p hr hp
  unfold gamehallref3_MoveText.f txt
  refine bind_now (ref_sq r hr m.f1 ht.1 (by omega)) ?_
  refine ite (fun h0 => ?_) (fun h0 => ?_)
  · rw [if_pos h0]
    have z := Z m.f2
    have e := E m.f2
    refine ite (fun _ => ?_) (fun h => absurd hk.1 h)
    refine ite (fun _ => ?_) (fun h => absurd hk.2 h)
    rw [e]
    refine ite (fun _ => ?_) (fun h => absurd (by omega) h)
    exact ite (fun _ => now rfl) (fun h => absurd (by rw [ByteArray.size_append, z1, hsz]; omega) h)
  · rw [if_neg h0]
    have h0 : 0 ≤ m.f0 := by omega
    have hm2 : m.f0 < (p.f0.length : Int) ∧ own (rd p.f0 m.f0) = p.f2 := (hm.f.resolve_left (by omega)).2
    have all : Ev (fun k => moves_All.f k r.f0 r.f1 r.f2 r.f3 r.f4 r.f5 r.f6 r.f7 r.f8 r.f9 r.f10 p.f0 p.f1.f0 p.f1.f1 p.f2 p.f3) (onceM (rawM r p), 0) := by
      unfold moves_All.f
      refine Ev.bind hc ?_
      refine ite (fun _ => ?_) (fun h => absurd rfl h)
      exact Ev.bind (gen_f r p hr hp) (now rfl)
    have hs := SQ_facts r hr m.f0 h0 (by omega)
    refine ite (fun _ => ?_) (fun h => absurd h0 h)
    refine ite (fun _ => ?_) (fun h => absurd hm2.1 h)
    refine Ev.bind all ?_
    refine bind_now (ref_sq r hr m.f0 h0 (by omega)) ?_
    refine ite (fun _ => ?_) (fun h => absurd (by decide) h)
    refine ite (fun _ => ?_) (fun h => absurd (by omega) h)
    refine bind_now (a := marks (SQ r m.f0)) rfl ?_
    generalize onceM (rawM r p) = l at hl hx
    show Ev (fun k => gamehallref3_MoveText.l0 k (SQ r m.f1) (rd p.f0 m.f0) l (SQ r m.f0) (marks (SQ r m.f0)) 4 ((0 : Nat) : Int) r.f0 r.f1 r.f2 r.f3 r.f4 r.f5 r.f6 r.f7 r.f8 r.f9 r.f10 p.f0 p.f1.f0 p.f1.f1 p.f2 p.f3 m.f0 m.f1 m.f2) _
    have H0 : l.any (hit r p m ⟨#[]⟩) = l.any (same p m) := any_eq l _ _ (fun x h => by
      unfold hit; rw [base_same r p hr hp m x hm h0 (hx x h), decide_eq_true (seen_0 r x.f0), Bool.and_true])
    have H1 : l.any (hit r p m ((SQ r m.f0).extract 0 1)) = l.any (fileB r p m) := any_eq l _ _ (fun x h => by
      unfold hit fileB; rw [base_same r p hr hp m x hm h0 (hx x h)]
      cases hb : same p m x
      · rfl
      · have hh := of_decide_eq_true hb
        have hxx := (hx x h).f.resolve_left (by omega)
        rw [Bool.true_and, Bool.true_and, decide_eq_decide]
        exact seen_1 r hr m.f0 x.f0 h0 (by omega) hxx.1 (by omega))
    have H2 : l.any (hit r p m ((SQ r m.f0).extract 1 (SQ r m.f0).size)) = l.any (rowB r p m) := any_eq l _ _ (fun x h => by
      unfold hit rowB; rw [base_same r p hr hp m x hm h0 (hx x h)]
      cases hb : same p m x
      · rfl
      · have hh := of_decide_eq_true hb
        have hxx := (hx x h).f.resolve_left (by omega)
        rw [Bool.true_and, Bool.true_and, decide_eq_decide]
        exact seen_2 r hr m.f0 x.f0 h0 (by omega) hxx.1 (by omega))
    have L0 : ¬ (⟨#[]⟩ : ByteArray).toList = (SQ r m.f0).toList := by
      rw [ByteArray.toList_eq, ByteArray.toList_eq, hs.2.2.2]; intro h; cases h
    have L1 : ¬ ((SQ r m.f0).extract 0 1).toList = (SQ r m.f0).toList := by
      rw [ByteArray.toList_eq, ByteArray.toList_eq, hs.2.2.2, hs.2.1]; intro h; cases (List.cons.inj h).2
    have L2 : ¬ ((SQ r m.f0).extract 1 (SQ r m.f0).size).toList = (SQ r m.f0).toList := by
      rw [ByteArray.toList_eq, ByteArray.toList_eq, hs.2.2.2, hs.2.2.1]; intro h; cases (List.cons.inj h).2
    have hz : (SQ r m.f0).size = 2 := hs.1
    have go := mt_l0 r p hr hp l hl hx m hm h0
    unfold markP mark
    refine go 0 (by decide) ⟨#[]⟩ rfl (Nat.zero_le _) _ (fun h => ?_) (fun h => ?_)
    · rw [H0] at h
      rw [if_neg (by rw [h.resolve_right L0]; decide)]
    rw [H0] at h
    have ho : l.any (same p m) = true := by simpa using fun q => h (.inl q)
    rw [if_pos ho]
    refine go 1 (by decide) ((SQ r m.f0).extract 0 1) rfl (by rw [ByteArray.size_extract]; omega) _ (fun h => ?_) (fun h => ?_)
    · rw [H1] at h
      rw [if_neg (by rw [h.resolve_right L1]; decide)]
    rw [H1] at h
    have hf : l.any (fileB r p m) = true := by simpa using fun q => h (.inl q)
    rw [if_pos hf]
    refine go 2 (by decide) ((SQ r m.f0).extract 1 (SQ r m.f0).size) rfl (by rw [ByteArray.size_extract]; omega) _ (fun h => ?_) (fun h => ?_)
    · rw [H2] at h
      rw [if_neg (by rw [h.resolve_right L2]; decide)]
    rw [H2] at h
    have hg : l.any (rowB r p m) = true := by simpa using fun q => h (.inl q)
    rw [if_pos hg]
    exact go 3 (by decide) (SQ r m.f0) rfl (by omega) _ (fun _ => rfl) (fun h => absurd (.inr rfl) h)
end Co
end Go.Proofs.Ytolcbijcoafkpaa.Pure
