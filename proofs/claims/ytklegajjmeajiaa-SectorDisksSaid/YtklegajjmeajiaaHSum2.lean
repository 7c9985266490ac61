/- Own proofs: what those Lean programs compute. No condition. -/
import Derived.Test.YtklegajjmeajiaaHCrc
import Derived.Test.YtklegajjmeajiaaAF0
namespace Gx
open Go
theorem rsum_inner {self1 : Int × Int → M Int} {c9 : Int} {r c : BitVec 32} (hc : c.toNat < 256) {h : Heap} {Q : Int → Heap → Prop}
    (H : (self1 (wi (shN 8 (r ^^^ c)), IntKind.wrap .i64 (c9 + 1))).wp h Q) : (M.loop (rambleref05_Sum_l2 self1 c9) (wi r, wi c, 0)).wp h Q := by
  refine M.loop_inv (fun s h' => h' = h ∧ ∃ (j : Nat) (r' c' : BitVec 32), j ≤ 8 ∧ c'.toNat < 2 ^ (8 - j) ∧ r' ^^^ c' = shN j (r ^^^ c) ∧ s = (wi r', wi c', (j : Int))) (fun s _ => (8 - s.2.2).toNat) ?_ ⟨rfl, 0, r, c, by omega, by simpa using hc, rfl, rfl⟩
  rintro s h' ⟨rfl, j, r', c', hj, hc', hx, rfl⟩ self hself
  unfold rambleref05_Sum_l2
  refine ite_w (fun hb => ?_) (fun hb => ?_)
  · have hlt : j < 8 := by have := of_decide_eq_true hb; omega
    have e : IntKind.wrap .i64 ((j : Int) + 1) = ((j + 1 : Nat) : Int) := by rw [w64 (by omega) (by omega)]; rfl
    have h256 : c'.toNat < 256 := Nat.lt_of_lt_of_le hc' (by rw [show (256 : Nat) = 2 ^ 8 by rfl]; exact Nat.pow_le_pow_right (by omega) (by omega))
    have key : (self (wi (turn r' c'), IntKind.wrap .u8 (Int.tdiv (wi c') 2), IntKind.wrap .i64 ((j : Int) + 1))).wp h' Q := by
      rw [e, half_byte h256]
      refine hself _ _ ⟨rfl, j + 1, turn r' c', c' >>> 1, by omega, ?_, ?_, rfl⟩ (by simp; omega)
      · rw [BitVec.toNat_ushiftRight, Nat.shiftRight_eq_div_pow]
        have : 2 ^ (8 - j) = 2 ^ (8 - (j + 1)) * 2 := by rw [← Nat.pow_succ]; congr 1; omega
        omega
      · rw [turn_sh, hx, ← shN_succ]
    have ht : ((IntKind.wrap .u32 (Int.tmod (wi c') 2)) != (Int.tmod (wi r') 2)) = (r'.getLsbD 0 != c'.getLsbD 0) := by
      rw [lsb_mod, lsb_mod, wrap_u32]
      cases r'.getLsbD 0 <;> cases c'.getLsbD 0 <;> rfl
    unfold turn at key
    refine ite_w (fun hl => ?_) (fun hl => ?_)
    · rw [ht] at hl
      rw [hl] at key
      rw [half_wi, wi_poly, iXor_wi]
      exact key
    · rw [ht] at hl
      rw [hl] at key
      rw [half_wi]
      exact key
  · have : j = 8 := by have := of_decide_eq_false hb; omega
    subst this
    have : c' = 0#32 := by
      apply BitVec.eq_of_toNat_eq
      simp at hc' ⊢
      omega
    subst this
    rw [BitVec.xor_zero] at hx
    rw [hx]
    exact H
theorem rsum_spec {s : Sl} {l : List UInt8} {h : Heap} {Q : Int → Heap → Prop} (hb : Bys h s l) (hl : l.length ≤ 9223372036854775807) (H : Q (wi (crc l)) h) : (rambleref05_Sum s).wp h Q := by
  unfold rambleref05_Sum
  refine M.loop_inv (fun t h' => h' = h ∧ ∃ j : Nat, j ≤ l.length ∧ t = (wi (reg (BitVec.allOnes 32) (l.take j)), (j : Int))) (fun t _ => ((l.length : Int) - t.2).toNat) ?_ ⟨rfl, 0, by omega, rfl⟩
  rintro t h' ⟨rfl, j, hj, rfl⟩ self hself
  unfold rambleref05_Sum_l1
  have hlen := hb.len
  refine ite_w (fun hc => ?_) (fun hc => ?_)
  · have hlt : j < l.length := by simp [hlen] at hc; exact hc
    obtain ⟨a, ha, hcell⟩ := hb.get hlt
    refine ixL_b (by omega) (by omega) ha ?_
    refine ldI_b (n := wi (l[j].toBitVec.setWidth 32)) (by
      rw [show ((j : Int).toNat * 1) = j by omega, hcell, bv]
      congr 2) ?_
    refine rsum_inner (by
      have e : l[j].toBitVec.toNat = l[j].toNat := rfl
      have := l[j].toNat_lt
      rw [BitVec.toNat_setWidth, e]
      omega) ?_
    have e : IntKind.wrap .i64 ((j : Int) + 1) = ((j + 1 : Nat) : Int) := by rw [w64 (by omega) (by omega)]; rfl
    rw [e]
    refine hself _ _ ⟨rfl, j + 1, by omega, ?_⟩ (by simp; omega)
    rw [take_snoc hlt, reg_snoc]
    rfl
  · have : j = l.length := by simp [hlen] at hc; omega
    subst this
    rw [iNot_wi, List.take_length]
    exact H
end Gx
