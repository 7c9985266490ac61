/- Own proofs: what those Lean programs compute. No condition. -/
import Derived.Test.YtklegajjmeajiaaHDisk3
namespace Gx
open Go
set_option linter.unusedVariables false
set_option linter.unusedSimpArgs false
/-- bit k of some bytes is turned -/
def flip (l : List UInt8) (k : Nat) : List UInt8 := l.set (k / 8) (l.getD (k / 8) 0 ^^^ UInt8.ofNat (2 ^ (k % 8)))
theorem flip_length (l : List UInt8) (k : Nat) : (flip l k).length = l.length := by simp [flip]
/-- the first m bits of a word are turned, from 'at' on -/
def burstL (o w : Nat) : Nat → List UInt8 → List UInt8
  | 0, l => l
  | m + 1, l => if w.testBit m then flip (burstL o w m l) (o + m) else burstL o w m l
theorem burstL_length (o w m : Nat) (l : List UInt8) : (burstL o w m l).length = l.length := by
  induction m with
  | zero => rfl
  | succ m ih =>
    simp only [burstL]
    split
    · rw [flip_length, ih]
    · exact ih
theorem bit_test {w i : Nat} (hw : w < 4294967296) (hi : i < 32) : (iAnd .u32 (iShr .u32 (w : Int) (i : Int)) 1 == 1) = w.testBit i := by
  have e1 : iShr .u32 (w : Int) (i : Int) = ((w / 2 ^ i : Nat) : Int) := by
    show (w : Int).fdiv (2 ^ min (i : Int).toNat 32) = _
    rw [show min (i : Int).toNat 32 = i by omega, Int.fdiv_eq_ediv_of_nonneg _ (by have := Int.pow_pos (n := 2) (m := i) (by omega); omega)]
    simp
  rw [e1]
  have hlt : w / 2 ^ i < 4294967296 := Nat.lt_of_le_of_lt (Nat.div_le_self _ _) hw
  have e2 : iAnd .u32 ((w / 2 ^ i : Nat) : Int) 1 = ((w / 2 ^ i % 2 : Nat) : Int) := by
    show IntKind.wrap .u32 (((BitVec.ofInt 32 ((w / 2 ^ i : Nat) : Int)) &&& (BitVec.ofInt 32 1)).toNat : Int) = _
    rw [BitVec.ofInt_natCast, BitVec.toNat_and, BitVec.toNat_ofNat]
    have : (BitVec.ofInt 32 1).toNat = 1 := rfl
    rw [this, Nat.mod_eq_of_lt (by simpa using hlt), Nat.and_one_is_mod, wrap_u32]
    omega
  rw [e2, Nat.testBit_eq_decide_div_mod_eq]
  rw [Bool.eq_iff_iff, beq_iff_eq, decide_eq_true_eq]
  omega
theorem byte_flip {b : UInt8} {r : Nat} (hr : r < 8) : iXor .u8 (b.toNat : Int) (iShl .u8 1 (r : Int)) = ((b ^^^ UInt8.ofNat (2 ^ r)).toNat : Int) := by
  have e1 : iShl .u8 1 (r : Int) = ((2 ^ r : Nat) : Int) := by
    show IntKind.wrap .u8 (1 * 2 ^ min (r : Int).toNat 8) = _
    rw [show min (r : Int).toNat 8 = r by omega, wrap_u8, u8_toNat]
    have : 2 ^ r ≤ 2 ^ 7 := Nat.pow_le_pow_right (by omega) (by omega)
    have h2 : (2 : Int) ^ r = ((2 ^ r : Nat) : Int) := by simp
    rw [Int.one_mul, h2]
    have h3 : ((2 ^ r : Nat) : Int) ≤ 128 := by exact_mod_cast this
    have h4 : (0 : Int) ≤ ((2 ^ r : Nat) : Int) := Int.natCast_nonneg _
    generalize ((2 ^ r : Nat) : Int) = z at h3 h4 ⊢
    omega
  rw [e1]
  show IntKind.wrap .u8 (((BitVec.ofInt 8 (b.toNat : Int)) ^^^ (BitVec.ofInt 8 ((2 ^ r : Nat) : Int))).toNat : Int) = _
  rw [BitVec.ofInt_natCast, BitVec.ofInt_natCast, BitVec.toNat_xor, BitVec.toNat_ofNat, BitVec.toNat_ofNat, UInt8.toNat_xor]
  have h1 := b.toNat_lt
  have h2 : (UInt8.ofNat (2 ^ r)).toNat = 2 ^ r % 2 ^ 8 := by simp [UInt8.toNat_ofNat']
  rw [h2, Nat.mod_eq_of_lt (by simpa using h1), wrap_u8, u8_toNat]
  have : b.toNat ^^^ (2 ^ r % 2 ^ 8) < 2 ^ 8 := Nat.xor_lt_two_pow (by simpa using h1) (Nat.mod_lt _ (by decide))
  omega
section
variable {h : Heap} {F : Fp} {D : Dk}
/-- a byte of a sector is stored -/
theorem DkAt.stB {β : Type} {Q : β → Heap → Prop} {k j : Nat} {b : UInt8} {n : Int} {f : Unit → M β} (H : DkAt h F D) (hk : k < D.n) (hj : j < 128) (hn : n = (b.toNat : Int)) (hq : ∀ h', Upd F.bs h h' → DkAt h' F { D with s := put D.s k ((D.s k).set j b) } → (f ()).wp h' Q) : (stV ⟨F.bs, k * 128 + j, none⟩ (.int .u8 n) >>= f).wp h Q := by
  subst hn
  obtain ⟨c1, t1, h1, h1'⟩ := H.sec
  have hlen := H.lens k
  have hx := h1' k hk j hj
  rw [List.getElem?_eq_getElem (by omega)] at hx
  have hlt := (Array.getElem?_eq_some_iff.1 hx).1
  refine stV_b (by rw [hcell_blk h1, hx]; rfl) (hfrozen_blk h1) rfl (hq _ (Upd.hset _ _ _ _) (H.setSec (Upd.hset _ _ _ _) ⟨_, t1, hset_at h1, ?_⟩ ?_))
  · intro i hi j' hj'
    unfold put
    rw [Array.getElem?_setIfInBounds]
    by_cases e : i = k
    · subst e
      rw [if_pos rfl, List.getElem?_set]
      by_cases e2 : j = j'
      · subst e2
        rw [if_pos rfl, if_pos hlt, if_pos rfl, if_pos (by omega)]
        rfl
      · rw [if_neg (by omega), if_neg e2]
        exact h1' i hi j' hj'
    · rw [if_neg (by omega), if_neg e]
      exact h1' i hi j' hj'
  · intro i
    unfold put
    split
    · rw [List.length_set]; exact hlen
    · exact H.lens i
theorem put_put {α : Type} (f : Nat → α) (k : Nat) (a b : α) : put (put f k a) k b = put f k b := by
  funext i; unfold put; split <;> rfl
theorem put_self {α : Type} (f : Nat → α) (k : Nat) : put f k (f k) = f := by
  funext i; unfold put; split
  · rename_i e; rw [e]
  · rfl
def Dk.burst (D : Dk) (n at' bits : Int) : Dk × Int := if n < 0 ∨ (D.n : Int) ≤ n then (D, 41) else if at' < 0 ∨ 1024 ≤ at' then (D, 1) else ({ D with s := put D.s n.toNat (burstL at'.toNat bits.toNat (min 32 (1024 - at'.toNat)) (D.s n.toNat)) }, 0)
theorem dburst_spec {Q : Int → Heap → Prop} {n o w : Int} (H : DkAt h F D) (hw0 : 0 ≤ w) (hw1 : w < 4294967296) (hq : ∀ h', Kp F h h' → DkAt h' F (D.burst n o w).1 → Q (D.burst n o w).2 h') : (disk_Disk_Burst (some ⟨F.p, 0, none⟩) n o w).wp h Q := by
  unfold disk_Disk_Burst
  refine bind_w (dnone_spec H ?_)
  refine ite_w (fun h => by cases h) (fun _ => ?_)
  refine bind_w (dthere_spec H ?_)
  by_cases hn : n < 0 ∨ (D.n : Int) ≤ n
  · have e : D.burst n o w = (D, 41) := by rw [Dk.burst, if_pos hn]
    rw [e] at hq
    rw [if_pos hn]
    exact iteT rfl (pure_w (hq _ (Kp.refl F h) H))
  · rw [if_neg hn]
    refine ite_w (fun h => by cases h) (fun _ => ?_)
    have hor : (M.ite (decide (o < 0)) (M.pure true) (M.pure (decide (o ≥ 1024))) : M Bool) = M.pure (decide (o < 0 ∨ 1024 ≤ o)) := by
      by_cases h0 : o < 0
      · simp [h0, M.ite]
      · simp [h0, M.ite]
    rw [hor]
    refine pure_b ?_
    by_cases ho : o < 0 ∨ 1024 ≤ o
    · have e : D.burst n o w = (D, 1) := by rw [Dk.burst, if_neg hn, if_pos ho]
      rw [e] at hq
      exact iteT (by simpa using ho) (pure_w (hq _ (Kp.refl F h) H))
    · refine ite_w (fun h => absurd (of_decide_eq_true h) ho) (fun _ => ?_)
      have e : D.burst n o w = ({ D with s := put D.s n.toNat (burstL o.toNat w.toNat (min 32 (1024 - o.toNat)) (D.s n.toNat)) }, 0) := by rw [Dk.burst, if_neg hn, if_neg ho]
      rw [e] at hq
      obtain ⟨k, rfl⟩ : ∃ k : Nat, n = (k : Int) := ⟨n.toNat, by omega⟩
      obtain ⟨o, rfl⟩ : ∃ k : Nat, o = (k : Int) := ⟨o.toNat, by omega⟩
      obtain ⟨w, rfl⟩ : ∃ k : Nat, w = (k : Int) := ⟨w.toNat, by omega⟩
      have hk : k < D.n := by omega
      have ho' : o < 1024 := by omega
      have hwl : w < 4294967296 := by omega
      have emin : iMin 32 (IntKind.wrap .i64 (1024 - (o : Int))) = ((min 32 (1024 - o) : Nat) : Int) := by
        rw [w64 (by omega) (by omega), iMin]
        split <;> omega
      rw [emin]
      simp only [Int.toNat_natCast] at hq
      generalize hm : min 32 (1024 - o) = mm at hq
      have hm32 : mm ≤ 32 := by omega
      have hm1 : o + mm ≤ 1024 := by omega
      refine M.loop_inv (fun (t' : Int) h' => ∃ j : Nat, j ≤ mm ∧ t' = (j : Int) ∧ Kp F h h' ∧ DkAt h' F { D with s := put D.s k (burstL o w j (D.s k)) }) (fun t' _ => ((mm : Int) - t').toNat) ?_ ⟨0, by omega, rfl, Kp.refl F h, by rw [show burstL o w 0 (D.s k) = D.s k from rfl, put_self]; exact H⟩
      rintro t' h' ⟨j, hj, rfl, K, Hd⟩ self hself
      unfold disk_Disk_Burst_l1
      refine ite_w (fun hc => ?_) (fun hc => ?_)
      · have hlt : j < mm := by have := of_decide_eq_true hc; omega
        refine pShr_b (by omega) ?_
        rw [bit_test hwl (by omega)]
        have ew : IntKind.wrap .i64 ((o : Int) + (j : Int)) = ((o + j : Nat) : Int) := by rw [w64 (by omega) (by omega)]; omega
        have e1 : IntKind.wrap .i64 ((j : Int) + 1) = ((j + 1 : Nat) : Int) := by rw [w64 (by omega) (by omega)]; rfl
        have em : Int.tmod (IntKind.wrap .i64 ((o : Int) + (j : Int))) 8 = (((o + j) % 8 : Nat) : Int) := by rw [ew, Int.tmod_eq_emod_of_nonneg (by omega)]; omega
        have ed : IntKind.wrap .i64 (Int.tdiv (IntKind.wrap .i64 ((o : Int) + (j : Int))) 8) = (((o + j) / 8 : Nat) : Int) := by rw [ew, Int.tdiv_eq_ediv_of_nonneg (by omega), w64 (by omega) (by omega)]; omega
        rw [em, ed]
        refine ite_w (fun hb => ?_) (fun hb => ?_)
        · obtain ⟨cs, ct, hblk⟩ := Hd.blk
          refine nilP_b (pShl_b (by omega) (ldL_b (n := ⟨some ⟨F.bs, 0, none⟩, D.n, cs⟩) (by rw [DkAt.cell hblk]; rfl) ?_))
          refine ixL_b (by omega) (by show (k : Int) < (D.n : Int); omega) rfl ?_
          rw [add_mk, Nat.zero_add, show ((k : Int).toNat * 128) = k * 128 by omega]
          refine ixA_b (by omega) (by omega) ?_
          refine ixL_b (by omega) (by show (k : Int) < (D.n : Int); omega) rfl ?_
          rw [add_mk, add_mk, Nat.zero_add, show ((k : Int).toNat * 128) = k * 128 by omega, show ((((o + j) / 8 : Nat) : Int).toNat * 1) = (o + j) / 8 by omega]
          have hl : (burstL o w j (D.s k)).length = 128 := by rw [burstL_length, H.lens]
          have hj8 : (o + j) / 8 < 128 := by omega
          have hbyte : hcell h' ⟨F.bs, k * 128 + (o + j) / 8, none⟩ = some (.int .u8 (((burstL o w j (D.s k)).getD ((o + j) / 8) 0).toNat : Int)) := by
            obtain ⟨c1, t1, h1, h1'⟩ := Hd.sec
            have := h1' k hk _ hj8
            rw [hcell_blk h1, this]
            show ((put D.s k (burstL o w j (D.s k))) k)[(o + j) / 8]?.map bv = _
            unfold put
            rw [if_pos rfl, List.getD_eq_getElem?_getD, List.getElem?_eq_getElem (by omega)]
            rfl
          refine ldI_b hbyte ?_
          refine ixA_b (by omega) (by omega) ?_
          rw [add_mk, show ((((o + j) / 8 : Nat) : Int).toNat * 1) = (o + j) / 8 by omega, byte_flip (by omega)]
          refine Hd.stB hk hj8 rfl (fun h2 u2 H2 => ?_)
          unfold disk_Disk_Burst_j1
          rw [e1]
          refine hself _ _ ⟨j + 1, by omega, rfl, K.trans (Kp.upd u2 (.inr (.inl rfl))), ?_⟩ (by omega)
          have es : put (put D.s k (burstL o w j (D.s k))) k ((put D.s k (burstL o w j (D.s k)) k).set ((o + j) / 8) ((burstL o w j (D.s k)).getD ((o + j) / 8) 0 ^^^ UInt8.ofNat (2 ^ ((o + j) % 8)))) = put D.s k (burstL o w (j + 1) (D.s k)) := by
            rw [put_put]
            congr 1
            simp only [burstL, hb, if_true, put, flip]
          rw [← es]
          exact H2
        · unfold disk_Disk_Burst_j1
          rw [e1]
          refine hself _ _ ⟨j + 1, by omega, rfl, K, ?_⟩ (by omega)
          have es : burstL o w (j + 1) (D.s k) = burstL o w j (D.s k) := by simp [burstL, hb]
          rw [es]
          exact Hd
      · have : j = mm := by have := of_decide_eq_false hc; omega
        subst this
        exact pure_w (hq h' K Hd)
end
end Gx
