/- Own proofs: what those Lean programs compute. No condition. -/
import Derived.Test.YtklegajjmeajiaaHCrc
import Derived.Test.YtklegajjmeajiaaAF0
namespace Gx
open Go
theorem sum_inner {self1 : Int × Int → M Int} {c9 : Int} {r : BitVec 32} {h : Heap} {Q : Int → Heap → Prop}
    (H : (self1 (wi (shN 8 r), IntKind.wrap .i64 (c9 + 1))).wp h Q) : (M.loop (sector_Sum_l2 self1 c9) (wi r, 0)).wp h Q := by
  refine M.loop_inv (fun s h' => h' = h ∧ ∃ j : Nat, j ≤ 8 ∧ s = (wi (shN j r), (j : Int))) (fun s _ => (8 - s.2).toNat) ?_ ⟨rfl, 0, by omega, rfl⟩
  rintro s h' ⟨rfl, j, hj, rfl⟩ self hself
  unfold sector_Sum_l2
  refine ite_w (fun hb => ?_) (fun hb => ?_)
  · have hlt : j < 8 := by have := of_decide_eq_true hb; omega
    have e : IntKind.wrap .i64 ((j : Int) + 1) = ((j + 1 : Nat) : Int) := by rw [w64 (by omega) (by omega)]; rfl
    have key : (self (wi (shN (j + 1) r), IntKind.wrap .i64 ((j : Int) + 1))).wp h' Q := by
      rw [e]
      exact hself _ _ ⟨rfl, j + 1, by omega, rfl⟩ (by simp; omega)
    rw [shN_succ, ← sh_wi] at key
    refine ite_w (fun hl => ?_) (fun hl => ?_)
    · rw [hl] at key; exact key
    · rw [hl] at key; exact key
  · have : j = 8 := by have : ¬ ((j : Int) < 8) := by simpa using hb
                       omega
    subst this
    exact H
theorem sum_spec {s : Sl} {l : List UInt8} {h : Heap} {Q : Int → Heap → Prop} (hb : Bys h s l) (hl : l.length ≤ 9223372036854775807) (H : Q (wi (crc l)) h) : (sector_Sum s).wp h Q := by
  unfold sector_Sum
  refine M.loop_inv (fun t h' => h' = h ∧ ∃ j : Nat, j ≤ l.length ∧ t = (wi (reg (BitVec.allOnes 32) (l.take j)), (j : Int))) (fun t _ => ((l.length : Int) - t.2).toNat) ?_ ⟨rfl, 0, by omega, rfl⟩
  rintro t h' ⟨rfl, j, hj, rfl⟩ self hself
  unfold sector_Sum_l1
  have hlen := hb.len
  refine ite_w (fun hc => ?_) (fun hc => ?_)
  · have hlt : j < l.length := by simp [hlen] at hc; exact hc
    obtain ⟨a, ha, hcell⟩ := hb.get hlt
    refine ixL_b (by omega) (by omega) ha ?_
    refine ldI_b (n := (l[j].toNat : Int)) (by rw [show ((j : Int).toNat * 1) = j by omega]; exact hcell) ?_
    rw [wrap_byte, iXor_wi]
    refine sum_inner ?_
    have e : IntKind.wrap .i64 ((j : Int) + 1) = ((j + 1 : Nat) : Int) := by rw [w64 (by omega) (by omega)]; rfl
    rw [e]
    refine hself _ _ ⟨rfl, j + 1, by omega, ?_⟩ (by simp; omega)
    rw [take_snoc hlt, reg_snoc]
    rfl
  · have : j = l.length := by simp [hlen] at hc; omega
    subst this
    rw [iNot_wi, List.take_length]
    exact H
end Gx
