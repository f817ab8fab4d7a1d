/- RuletextPrints: the words of the texts, and what the small functions return. -/
import Derived.Test.YtkkgpabjpnkjjaaDoorRtFacts
namespace Go.Proofs.YtkkgpabjpnkjjaaDoor.Pure
open Go.RowKit Go.Proofs.YtkkgpabjpnkjjaaDoor.PRuletextPrints Go.Proofs.YtkkgpabjpnkjjaaDoorW.PrintWords Go.Proofs.YtkkgpabjpnkjjaaDoorW.PrintLast
set_option linter.unusedSimpArgs false
set_option linter.unusedVariables false
namespace Co
open Aid
def U (n : Int) : UInt8 := UInt8.ofNat n.toNat
def B (x : List UInt8) : ByteArray := ⟨x.toArray⟩
theorem B_l (x : List UInt8) : (B x).data.toList = x := by simp [B]
theorem zl (a : ByteArray) : a.size = a.data.toList.length := by simp
theorem dl (a b : ByteArray) : (a ++ b).data.toList = a.data.toList ++ b.data.toList := by simp [ByteArray.data_append]
theorem ext_b {a b : ByteArray} (h : a.data.toList = b.data.toList) : a = b := by
  obtain ⟨⟨x⟩⟩ := a; obtain ⟨⟨y⟩⟩ := b
  have : x = y := h
  rw [this]
theorem eqB {a : ByteArray} {x : List UInt8} (h : a.data.toList = x) : a = B x := ext_b (by rw [h, B_l])
def it (n : Int) : List UInt8 := Lib.itoa n
theorem dd_le : ∀ (k n : Nat), n < 10 ^ (k + 1) → (Lib.decDigits n).length ≤ k + 1 := by
  intro k
  induction k with
  | zero => intro n h; rw [Lib.decDigits, dif_pos (by omega)]; exact Nat.le_refl _
  | succ k ih =>
    intro n h
    rw [Lib.decDigits]
    split
    · simp
    · have := ih (n / 10) (by rw [Nat.pow_succ] at h; omega)
      simp; exact this
theorem it_le (n : Int) (h0 : -1000000 < n) (h1 : n < 1000000) : (it n).length ≤ 7 := by
  unfold it Lib.itoa
  split
  · have := dd_le 5 n.natAbs (by omega)
    simp; omega
  · have := dd_le 5 n.toNat (by omega)
    omega
theorem itoa_f (n : Int) (h0 : -1000000 < n) (h1 : n < 1000000) : strconv_Itoa.f n = some (B (it n)) := by
  unfold strconv_Itoa.f; rw [if_pos (by omega)]; rfl
theorem dig : ∀ i : Fin 10, (⟨#[48, 49, 50, 51, 52, 53, 54, 55, 56, 57]⟩ : ByteArray).extract i.val (i.val + 1) = B [UInt8.ofNat (48 + i.val)] := by decide +kernel
theorem dec_n : ∀ n : Nat, n < 1000000 → Ev (fun k => gamehallref1_Dec.f k (n : Int)) (B (Lib.decDigits n)) := by
  intro n
  induction n using Nat.strongRecOn with
  | _ n ih =>
    intro hn
    refine Ev.step (fun k => by rw [gamehallref1_Dec.f]) ?_
    refine ite (fun h => absurd h (by omega)) (fun _ => ?_)
    rw [Lib.decDigits]
    by_cases h9 : n < 10
    · rw [dif_pos h9]
      have hw : wrap64 ((n : Int) + 1) = ((n + 1 : Nat) : Int) := by rw [w64s (by omega) (by omega)]; omega
      rw [hw]
      refine ite (fun h => absurd h (by omega)) (fun _ => ?_)
      refine ite (fun _ => ?_) (fun h => absurd (by omega) h)
      refine ite (fun _ => ?_) (fun h => absurd (by omega) h)
      refine ite (fun _ => now ?_) (fun h => absurd (by omega) h)
      exact dig ⟨n, h9⟩
    · rw [dif_neg h9]
      have h1 : Int.tdiv (n : Int) 10 = ((n / 10 : Nat) : Int) := by rw [Int.tdiv_eq_ediv_of_nonneg (by omega)]; omega
      have h2 : Int.tmod (n : Int) 10 = ((n % 10 : Nat) : Int) := by rw [Int.tmod_eq_emod_of_nonneg (by omega)]; omega
      have hw : wrap64 (((n / 10 : Nat) : Int)) = ((n / 10 : Nat) : Int) := w64 (by omega) (by omega)
      rw [h1, h2, hw]
      have e1 := ih (n / 10) (by omega) (by omega)
      have e2 := ih (n % 10) (by omega) (by omega)
      have l1 := dd_le 5 (n / 10) (by omega)
      have l2 := dd_le 5 (n % 10) (by omega)
      have e3 : Lib.decDigits (n % 10) = [UInt8.ofNat (48 + n % 10)] := by rw [Lib.decDigits, dif_pos (by omega)]
      refine ite (fun _ => ?_) (fun h => absurd (by omega) h)
      refine Ev.bind e1 (Ev.bind e2 ?_)
      refine ite (fun _ => now (eqB ?_)) (fun h => absurd ?_ h)
      · rw [dl, B_l, B_l, e3]
      · rw [zl, zl, B_l, B_l]; omega
theorem dec_f (n : Int) (h0 : -1000000 < n) (h1 : n < 1000000) : Ev (fun k => gamehallref1_Dec.f k n) (B (it n)) := by
  by_cases hn : n < 0
  · refine Ev.step (fun k => by rw [gamehallref1_Dec.f]) ?_
    refine ite (fun _ => ?_) (fun h => absurd hn h)
    rw [w64 (n := -n) (by omega) (by omega), show -n = ((n.natAbs : Nat) : Int) by omega]
    refine Ev.bind (dec_n n.natAbs (by omega)) ?_
    have l1 := dd_le 5 n.natAbs (by omega)
    refine ite (fun _ => now (eqB ?_)) (fun h => absurd ?_ h)
    · rw [dl, B_l]; unfold it Lib.itoa; rw [if_pos hn]; rfl
    · rw [zl, B_l]; omega
  · have e := dec_n n.toNat (by omega)
    rw [show ((n.toNat : Nat) : Int) = n by omega] at e
    unfold it Lib.itoa; rw [if_neg hn]; exact e
/-! letters -/
theorem e32_dec : ∀ i : Fin 26, Go.Utf8.encode (wrap32 (65 + (i.val : Int))) = B [U (65 + (i.val : Int))] := by decide +kernel
theorem e32 {c : Int} (h : 65 ≤ c ∧ c ≤ 90) : Go.Utf8.encode (wrap32 c) = B [U c] := by
  obtain ⟨n, hn⟩ := Int.eq_ofNat_of_zero_le (show 0 ≤ c - 65 by omega)
  have := e32_dec ⟨n, by omega⟩
  rw [show (65 + ((⟨n, by omega⟩ : Fin 26).val : Int)) = c by show 65 + (n : Int) = c; omega] at this
  exact this
theorem e97_dec : ∀ i : Fin 26, Go.Utf8.encode (97 + (i.val : Int)) = B [U (97 + (i.val : Int))] := by decide +kernel
theorem e97 {c : Int} (h : 65 ≤ c ∧ c ≤ 90) : Go.Utf8.encode ((((c - 65) % 256) + 97) % 256) = B [U (c + 32)] := by
  obtain ⟨n, hn⟩ := Int.eq_ofNat_of_zero_le (show 0 ≤ c - 65 by omega)
  have := e97_dec ⟨n, by omega⟩
  rw [show (97 + ((⟨n, by omega⟩ : Fin 26).val : Int)) = c + 32 by show 97 + (n : Int) = c + 32; omega] at this
  rw [show (((c - 65) % 256) + 97) % 256 = c + 32 by omega]
  exact this
theorem rdL {r : S26} (lr : LR r) (t : Int) (h0 : 0 ≤ t) (h1 : t < (r.f3.length : Int)) : 65 ≤ (rd_T38 r.f3 t).f0 ∧ (rd_T38 r.f3 t).f0 ≤ 90 := lr.a t h0 h1
/-! the lines -/
def piece1 (r : S26) (p : S38) : List UInt8 := [112, 105, 101, 99, 101, 32] ++ ([U p.f0] ++ ([32] ++ (it p.f1 ++ ([32] ++ (if p.f2 > 0 then [U (L r (p.f2 - 1))] else [45])))))
def takeT (n : Int) : List UInt8 := (rdOf ByteArray.empty takesL n).data.toList
def way1 (w : S47) : List UInt8 := [119, 97, 121, 32] ++ (it w.f0 ++ ([32] ++ (it w.f1 ++ ([32] ++ (it w.f2 ++ ([32] ++ takeT w.f3))))))
def cell1 (r : S26) (c : Int) : List UInt8 := if c = 0 then [46] else if c % 2 = 1 then [U (L r (c / 2))] else [U (L r (c / 2 - 1) + 32)]
def rowC (r : S26) (y : Int) : List Int := (r.f4.take ((y + 1) * r.f1).toNat).drop (y * r.f1).toNat
def row1 (r : S26) (y : Int) : List UInt8 := [114, 111, 119, 32] ++ (rowC r y).flatMap (cell1 r)
def how (x : S42) : List UInt8 := if x.f3 = true then [108, 111, 115, 101, 115] else [119, 105, 110, 115]
def end1 (r : S26) (x : S42) : List UInt8 :=
  if x.f0 = 0 then [101, 110, 100, 32, 108, 105, 110, 101, 32] ++ (it x.f2 ++ ([32] ++ how x))
  else if x.f0 = 1 then [101, 110, 100, 32, 114, 101, 97, 99, 104, 32] ++ ([U (L r x.f1)] ++ ([32] ++ how x))
  else [101, 110, 100, 32, 116, 97, 107, 101, 32] ++ ([U (L r x.f1)] ++ ([32] ++ (it x.f2 ++ ([32] ++ how x))))
def blkT (n : Int) : List UInt8 := (rdOf ByteArray.empty blockedL n).data.toList
def last3 (r : S26) : List (List UInt8) := [[98, 108, 111, 99, 107, 101, 100, 32] ++ blkT r.f8, [113, 117, 105, 101, 116, 32] ++ it r.f9, [114, 101, 112, 101, 97, 116, 32] ++ it r.f10]
def game1 (r : S26) : List UInt8 := [103, 97, 109, 101, 32] ++ (r.f0.data.toList ++ ([32] ++ (it r.f1 ++ ([32] ++ it r.f2))))
def pieceL (r : S26) (p : S38) : List (List UInt8) := piece1 r p :: p.f3.map way1
def rowsD (r : S26) : Nat → List (List UInt8)
  | 0 => []
  | n + 1 => row1 r (n : Int) :: rowsD r n
def falls1 (r : S26) : List (List UInt8) := if r.f5 = true then [[102, 97, 108, 108, 115]] else []
def keeps1 (r : S26) : List (List UInt8) := if r.f6 = true then [[107, 101, 101, 112, 115]] else []
def nl (ls : List (List UInt8)) : List UInt8 := ls.flatMap (· ++ [10])
theorem nl_app (a b : List (List UInt8)) : nl (a ++ b) = nl a ++ nl b := by unfold nl; rw [List.flatMap_append]
theorem nl_one (a : List UInt8) : nl [a] = a ++ [10] := by simp [nl]
theorem nl_cons (a : List UInt8) (ls : List (List UInt8)) : nl (a :: ls) = a ++ ([10] ++ nl ls) := by simp [nl]
theorem join_nl : ∀ ls : List (List UInt8), ls ≠ [] → Lib.join ls [10] ++ [10] = nl ls := by
  intro ls
  induction ls with
  | nil => intro h; exact absurd rfl h
  | cons x xs ih =>
    intro _
    cases xs with
    | nil => simp [Lib.join, nl, List.intercalate]
    | cons y ys =>
      have := ih (by simp)
      rw [nl_cons, ← this]
      simp [Lib.join, List.intercalate]
theorem take_le (n : Int) (h0 : 0 ≤ n) (h1 : n ≤ 2) : (takeT n).length ≤ 5 := by
  rcases (show n = 0 ∨ n = 1 ∨ n = 2 by omega) with h | h | h <;> subst h <;> decide +kernel
theorem blk_le (n : Int) (h0 : 0 ≤ n) (h1 : n ≤ 2) : (blkT n).length ≤ 5 := by
  rcases (show n = 0 ∨ n = 1 ∨ n = 2 by omega) with h | h | h <;> subst h <;> decide +kernel
theorem wn1 (i : Nat) (h : i ≤ 1000000) : wrap64 ((i : Int) + 1) = ((i + 1 : Nat) : Int) := by rw [w64s (by omega) (by omega)]; omega
theorem rdW (l : List S47) (i : Nat) (h : i < l.length) : rd_T47 l (i : Int) = l[i] := by simp [rd_T47, List.getD_eq_getElem?_getD, h]
theorem rdP (l : List S38) (i : Nat) (h : i < l.length) : rd_T38 l (i : Int) = l[i] := by simp [rd_T38, List.getD_eq_getElem?_getD, h]
theorem rdE (l : List S42) (i : Nat) (h : i < l.length) : rd_T42 l (i : Int) = l[i] := by simp [rd_T42, List.getD_eq_getElem?_getD, h]
theorem cell_le (r : S26) (c : Int) : (cell1 r c).length = 1 := by unfold cell1; split; rfl; split <;> rfl
theorem cells_le (r : S26) (xs : List Int) : (xs.flatMap (cell1 r)).length = xs.length := by
  induction xs with
  | nil => rfl
  | cons x xs ih => rw [List.flatMap_cons, List.length_append, ih, cell_le, List.length_cons]; omega
end Co
end Go.Proofs.YtkkgpabjpnkjjaaDoor.Pure
