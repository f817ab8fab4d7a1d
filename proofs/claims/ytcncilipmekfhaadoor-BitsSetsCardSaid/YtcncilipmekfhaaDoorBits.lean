/- Words of 64 bits as bit vectors: what the printed operations on them are. -/
import Derived.Test.YtcncilipmekfhaaDoorAid
namespace Go.Proofs.YtcncilipmekfhaaDoor.Bits
open Go.RowKit Go.Proofs.YtcncilipmekfhaaDoorW.PrintWords Go.Proofs.YtcncilipmekfhaaDoorW.PrintMore
theorem ofInt_u (A : BitVec 64) : BitVec.ofInt 64 (A.toNat : Int) = A := by simp [BitVec.ofInt_natCast, BitVec.ofNat_toNat]
theorem wrap_u (n : Nat) : IntKind.u64.wrap (n : Int) = ((n % 18446744073709551616 : Nat) : Int) := by simp [IntKind.wrap, IntKind.bits, IntKind.signed]
theorem wrap_nat (A : BitVec 64) : IntKind.u64.wrap (A.toNat : Int) = (A.toNat : Int) := by
  rw [wrap_u, Nat.mod_eq_of_lt A.isLt]
theorem u_and (A B : BitVec 64) : Go.bits .and .u64 (A.toNat : Int) (B.toNat : Int) = ((A &&& B).toNat : Int) := by
  show IntKind.u64.wrap ((BitVec.ofInt 64 (A.toNat : Int) &&& BitVec.ofInt 64 (B.toNat : Int)).toNat : Int) = _
  rw [ofInt_u, ofInt_u, wrap_nat]
theorem u_or (A B : BitVec 64) : Go.bits .or .u64 (A.toNat : Int) (B.toNat : Int) = ((A ||| B).toNat : Int) := by
  show IntKind.u64.wrap ((BitVec.ofInt 64 (A.toNat : Int) ||| BitVec.ofInt 64 (B.toNat : Int)).toNat : Int) = _
  rw [ofInt_u, ofInt_u, wrap_nat]
theorem u_andNot (A B : BitVec 64) : Go.bits .andNot .u64 (A.toNat : Int) (B.toNat : Int) = ((A &&& ~~~ B).toNat : Int) := by
  show IntKind.u64.wrap ((BitVec.ofInt 64 (A.toNat : Int) &&& ~~~ BitVec.ofInt 64 (B.toNat : Int)).toNat : Int) = _
  rw [ofInt_u, ofInt_u, wrap_nat]
theorem u_shl (A : BitVec 64) (y : Int) : shl .u64 (A.toNat : Int) y = ((A <<< y.toNat).toNat : Int) := by
  show IntKind.u64.wrap ((A.toNat : Int) * 2 ^ min y.toNat 64) = _
  have e : ((A.toNat : Int) * 2 ^ min y.toNat 64) = ((A.toNat * 2 ^ min y.toNat 64 : Nat) : Int) := by push_cast; rfl
  rw [e, wrap_u, BitVec.toNat_shiftLeft, Nat.shiftLeft_eq]
  congr 1
  by_cases h : y.toNat ≤ 64
  · rw [Nat.min_eq_left h]
  · rw [Nat.min_eq_right (by omega)]
    have e1 : (2 : Nat) ^ y.toNat = 2 ^ 64 * 2 ^ (y.toNat - 64) := by rw [← Nat.pow_add]; congr 1; omega
    rw [e1, show (18446744073709551616 : Nat) = 2 ^ 64 from rfl, Nat.mul_mod_left, ← Nat.mul_assoc, Nat.mul_comm A.toNat, Nat.mul_assoc, Nat.mul_mod_right]
theorem u_shr (A : BitVec 64) (y : Int) : shr .u64 (A.toNat : Int) y = ((A >>> y.toNat).toNat : Int) := by
  show (A.toNat : Int) / 2 ^ min y.toNat 64 = _
  have e : ((A.toNat : Int) / 2 ^ min y.toNat 64) = ((A.toNat / 2 ^ min y.toNat 64 : Nat) : Int) := by push_cast; rfl
  rw [e, BitVec.toNat_ushiftRight, Nat.shiftRight_eq_div_pow]
  congr 1
  by_cases h : y.toNat ≤ 64
  · rw [Nat.min_eq_left h]
  · rw [Nat.min_eq_right (by omega), Nat.div_eq_of_lt A.isLt, Nat.div_eq_of_lt]
    exact Nat.lt_of_lt_of_le A.isLt (Nat.pow_le_pow_right (by decide) (by omega))
theorem cast_eq {A B : BitVec 64} : (A.toNat : Int) = (B.toNat : Int) ↔ A = B := by
  constructor
  · intro h
    have h1 : A.toNat = B.toNat := by omega
    exact BitVec.eq_of_toNat_eq h1
  · rintro rfl; rfl
theorem cast_zero {A : BitVec 64} : (A.toNat : Int) = 0 ↔ A = 0#64 := by
  rw [← cast_eq]; simp
theorem bit_test (A : BitVec 64) (s : Nat) : Go.bits .and .u64 (shr .u64 (A.toNat : Int) (s : Int)) 1 = 1 ↔ A.getLsbD s = true := by
  rw [u_shr, show (1 : Int) = (((1#64 : BitVec 64).toNat : Nat) : Int) from rfl, u_and, cast_eq]
  constructor
  · intro h
    have h0 := congrArg (fun x : BitVec 64 => x.getLsbD 0) h
    simpa using h0
  · intro h
    apply BitVec.eq_of_getLsbD_eq
    intro i hi
    by_cases h0 : i = 0
    · subst h0; simpa using h
    · simp [BitVec.getLsbD_one, h0]
theorem one_shl (y : Int) : shl .u64 1 y = (((1#64 : BitVec 64) <<< y.toNat).toNat : Int) := by
  rw [← u_shl]; rfl
theorem one_bit (n t : Nat) (ht : t < 64) : ((1#64 : BitVec 64) <<< n).getLsbD t = decide (t = n) := by
  simp only [BitVec.getLsbD_shiftLeft, BitVec.getLsbD_one]
  by_cases h : t = n
  · subst h; simp [ht]
  · by_cases h2 : t < n
    · simp [h2, h]
    · have h3 : ¬ (t - n = 0) := by omega
      simp [h, h3]
theorem of_nat {a : Int} (h : (Lit.int .u64 a).wf = true) : ∃ A : BitVec 64, a = (A.toNat : Int) := by
  have hb := Aid.wf_u64 h
  refine ⟨BitVec.ofNat 64 a.toNat, ?_⟩
  rw [BitVec.toNat_ofNat, Nat.mod_eq_of_lt (by omega)]
  omega
end Go.Proofs.YtcncilipmekfhaaDoor.Bits
