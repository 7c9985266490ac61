/- Own proofs: what those Lean programs compute. No condition. -/
import Derived.Test.YtklegajjmeajiaaGxW
namespace Gx
open Go
theorem w64 {n : Int} (h0 : -9223372036854775808 ≤ n) (h1 : n ≤ 9223372036854775807) : IntKind.wrap .i64 n = n := by
  rw [IntKind.wrap_i64]; omega
/-! ### The sum of bytes, over words of 32 bits -/
def poly : BitVec 32 := 0xedb88320#32
def sh (r : BitVec 32) : BitVec 32 := if r.getLsbD 0 then (r >>> 1) ^^^ poly else r >>> 1
def shN : Nat → BitVec 32 → BitVec 32
  | 0, r => r
  | n + 1, r => shN n (sh r)
def feed (r : BitVec 32) (c : UInt8) : BitVec 32 := shN 8 (r ^^^ (c.toBitVec.setWidth 32))
def reg (r : BitVec 32) (l : List UInt8) : BitVec 32 := l.foldl feed r
def crc (l : List UInt8) : BitVec 32 := ~~~ (reg (BitVec.allOnes 32) l)
theorem shN_succ (n : Nat) (r : BitVec 32) : shN (n + 1) r = sh (shN n r) := by
  induction n generalizing r with
  | zero => rfl
  | succ n ih => rw [shN, ih]; rfl

def wi (r : BitVec 32) : Int := (r.toNat : Int)
theorem ofInt_wi (r : BitVec 32) : BitVec.ofInt 32 (wi r) = r := by
  apply BitVec.eq_of_toNat_eq
  simp [wi]
theorem wrap_u32 (n : Int) : IntKind.wrap .u32 n = n % 4294967296 := by simp [IntKind.wrap, IntKind.signed, IntKind.bits]
theorem wrap_wi (r : BitVec 32) : IntKind.wrap .u32 (r.toNat : Int) = wi r := by
  rw [wrap_u32]
  have := r.isLt
  simp only [wi]
  omega
theorem iXor_wi (r s : BitVec 32) : iXor .u32 (wi r) (wi s) = wi (r ^^^ s) := by
  show IntKind.wrap .u32 (((BitVec.ofInt 32 (wi r)) ^^^ (BitVec.ofInt 32 (wi s))).toNat : Int) = _
  rw [ofInt_wi, ofInt_wi, wrap_wi]
theorem iAnd_wi (r s : BitVec 32) : iAnd .u32 (wi r) (wi s) = wi (r &&& s) := by
  show IntKind.wrap .u32 (((BitVec.ofInt 32 (wi r)) &&& (BitVec.ofInt 32 (wi s))).toNat : Int) = _
  rw [ofInt_wi, ofInt_wi, wrap_wi]
theorem wi_poly : (3988292384 : Int) = wi poly := rfl
theorem wi_ones : (4294967295 : Int) = wi (BitVec.allOnes 32) := rfl
theorem wi_one : (1 : Int) = wi 1#32 := rfl
theorem iNot_wi (r : BitVec 32) : iNot .u32 (wi r) = wi (~~~ r) := by
  show iXor .u32 4294967295 (wi r) = _
  rw [wi_ones, iXor_wi, BitVec.allOnes_xor]
theorem iShr_wi (r : BitVec 32) : iShr .u32 (wi r) 1 = wi (r >>> 1) := by
  have e : iShr .u32 (wi r) 1 = (wi r).fdiv 2 := rfl
  rw [e]
  simp only [wi, BitVec.toNat_ushiftRight, Nat.shiftRight_eq_div_pow]
  rw [Int.fdiv_eq_ediv_of_nonneg _ (by omega)]
  rfl
theorem wi_inj {r s : BitVec 32} : (wi r == wi s) = (r == s) := by
  rw [Bool.eq_iff_iff]
  simp only [beq_iff_eq, wi]
  constructor
  · intro h; exact BitVec.eq_of_toNat_eq (by omega)
  · rintro rfl; rfl
theorem low_wi (r : BitVec 32) : (iAnd .u32 (wi r) 1 == 1) = r.getLsbD 0 := by
  rw [wi_one, iAnd_wi, wi_inj]
  have : r &&& 1#32 = if r.getLsbD 0 then 1#32 else 0#32 := by
    apply BitVec.eq_of_getLsbD_eq
    intro i hi
    rw [BitVec.getLsbD_and]
    by_cases h0 : i = 0
    · subst h0; cases r.getLsbD 0 <;> simp
    · have h1 : (1#32).getLsbD i = false := by
        rw [BitVec.getLsbD_one]
        simp [h0]
      rw [h1]
      cases r.getLsbD 0 <;> simp [h1]
  rw [this]
  cases r.getLsbD 0 <;> rfl
theorem wrap_byte (b : UInt8) : IntKind.wrap .u32 (b.toNat : Int) = wi (b.toBitVec.setWidth 32) := by
  rw [wrap_u32]
  have := b.toNat_lt
  simp only [wi, BitVec.toNat_setWidth]
  have e : b.toBitVec.toNat = b.toNat := rfl
  rw [e]
  omega
theorem sh_wi (r : BitVec 32) : (bif (iAnd .u32 (wi r) 1 == 1) then iXor .u32 (iShr .u32 (wi r) 1) 3988292384 else iShr .u32 (wi r) 1) = wi (sh r) := by
  rw [low_wi, iShr_wi, wi_poly, iXor_wi]
  unfold sh
  cases r.getLsbD 0 <;> rfl

theorem reg_snoc (r : BitVec 32) (l : List UInt8) (b : UInt8) : reg r (l ++ [b]) = feed (reg r l) b := by simp [reg]
theorem take_snoc {l : List UInt8} {j : Nat} (h : j < l.length) : l.take (j + 1) = l.take j ++ [l[j]] := by
  rw [List.take_succ_eq_append_getElem h]
end Gx
namespace Gx
open Go
theorem lsb_mod (r : BitVec 32) : Int.tmod (wi r) 2 = if r.getLsbD 0 then 1 else 0 := by
  rw [Int.tmod_eq_emod_of_nonneg (by simp [wi])]
  have : r.getLsbD 0 = decide (r.toNat % 2 = 1) := by simp [BitVec.getLsbD, Nat.testBit_zero]
  rw [this]
  simp only [wi, decide_eq_true_eq]
  split <;> omega
theorem half_wi (r : BitVec 32) : IntKind.wrap .u32 (Int.tdiv (wi r) 2) = wi (r >>> 1) := by
  rw [Int.tdiv_eq_ediv_of_nonneg (by simp [wi]), wrap_u32]
  have := r.isLt
  simp only [wi, BitVec.toNat_ushiftRight, Nat.shiftRight_eq_div_pow]
  omega
theorem half_byte {r : BitVec 32} (h : r.toNat < 256) : IntKind.wrap .u8 (Int.tdiv (wi r) 2) = wi (r >>> 1) := by
  have e : ∀ n, IntKind.wrap .u8 n = n % 256 := fun n => by simp [IntKind.wrap, IntKind.signed, IntKind.bits]
  rw [Int.tdiv_eq_ediv_of_nonneg (by simp [wi]), e]
  simp only [wi, BitVec.toNat_ushiftRight, Nat.shiftRight_eq_div_pow]
  omega
/-- the reference's round -/
def turn (r c : BitVec 32) : BitVec 32 := if r.getLsbD 0 != c.getLsbD 0 then (r >>> 1) ^^^ poly else r >>> 1
theorem turn_sh (r c : BitVec 32) : turn r c ^^^ (c >>> 1) = sh (r ^^^ c) := by
  unfold turn sh
  rw [BitVec.getLsbD_xor, BitVec.ushiftRight_xor_distrib]
  cases r.getLsbD 0 <;> cases c.getLsbD 0 <;> simp [BitVec.xor_assoc, BitVec.xor_comm poly]
end Gx
