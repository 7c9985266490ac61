/- Own proofs: what those Lean programs compute. No condition. -/
import Derived.Test.YtklegajjmeajiaaHDisk4
import Derived.Test.YtklegajjmeajiaaHOpen
namespace Gx
open Go
set_option linter.unusedVariables false
set_option linter.unusedSimpArgs false
theorem sh_xor (a b : BitVec 32) : sh (a ^^^ b) = sh a ^^^ sh b := by
  unfold sh
  rw [BitVec.getLsbD_xor, BitVec.ushiftRight_xor_distrib]
  cases a.getLsbD 0 <;> cases b.getLsbD 0 <;> simp [BitVec.xor_assoc, BitVec.xor_comm poly]
theorem sh_zero : sh 0#32 = 0#32 := rfl
theorem sh_eq_zero {r : BitVec 32} (h : sh r = 0#32) : r = 0#32 := by
  unfold sh at h
  split at h
  · have h1 : (r >>> 1 ^^^ poly).getLsbD 31 = false := by rw [h]; rfl
    rw [BitVec.getLsbD_xor, BitVec.getLsbD_ushiftRight] at h1
    simp [poly] at h1
  · rename_i h0
    apply BitVec.eq_of_getLsbD_eq
    intro i hi
    rw [BitVec.getLsbD_zero]
    cases i with
    | zero => simpa using h0
    | succ i =>
      have h1 : (r >>> 1).getLsbD i = false := by rw [h]; simp
      rw [BitVec.getLsbD_ushiftRight] at h1
      rw [Nat.add_comm] at h1
      exact h1
theorem shN_eq_zero : ∀ (n : Nat) {r : BitVec 32}, shN n r = 0#32 → r = 0#32
  | 0, r, h => h
  | n + 1, r, h => sh_eq_zero (shN_eq_zero n h)
theorem shN_zero : ∀ n : Nat, shN n 0#32 = 0#32
  | 0 => rfl
  | n + 1 => by rw [shN, sh_zero, shN_zero n]
def b1 (b : Bool) : BitVec 32 := if b then 1#32 else 0#32
/-- the register, bit by bit -/
def regB (r : BitVec 32) (bs : List Bool) : BitVec 32 := bs.foldl (fun r b => sh (r ^^^ b1 b)) r
def word : List Bool → BitVec 32
  | [] => 0#32
  | b :: bs => (word bs <<< 1) ^^^ b1 b
theorem word_get : ∀ (bs : List Bool) (i : Nat), i < 32 → (word bs).getLsbD i = bs.getD i false
  | [], i, hi => by simp [word]
  | b :: bs, i, hi => by
    rw [word, BitVec.getLsbD_xor, BitVec.getLsbD_shiftLeft]
    cases i with
    | zero => cases b <;> simp [b1]
    | succ i =>
      have := word_get bs i (by omega)
      have hb : (b1 b).getLsbD (i + 1) = false := by cases b <;> simp [b1]
      rw [hb]
      simp only [Nat.add_sub_cancel, List.getD_cons_succ, this]
      simp [hi]
theorem word_top {bs : List Bool} (h : bs.length ≤ 31) : (word bs).getLsbD 31 = false := by
  rw [word_get bs 31 (by omega), List.getD_eq_getElem?_getD, List.getElem?_eq_none (by omega)]; rfl
theorem sh_shl {y : BitVec 32} (h : y.getLsbD 31 = false) : sh (y <<< 1) = y := by
  have h0 : (y <<< 1).getLsbD 0 = false := by simp
  unfold sh
  rw [h0]
  simp only [Bool.false_eq_true, if_false]
  apply BitVec.eq_of_getLsbD_eq
  intro i hi
  rw [BitVec.getLsbD_ushiftRight, BitVec.getLsbD_shiftLeft]
  by_cases hi31 : i = 31
  · subst hi31; rw [h]; simp
  · have : 1 + i < 32 := by omega
    simp [this]
theorem regB_word : ∀ (bs : List Bool) (r : BitVec 32), bs.length ≤ 32 → regB r bs = shN bs.length (r ^^^ word bs)
  | [], r, _ => by simp [regB, word, shN]
  | b :: bs, r, h => by
    simp only [List.length_cons] at h
    have ih := regB_word bs (sh (r ^^^ b1 b)) (by omega)
    show regB (sh (r ^^^ b1 b)) bs = _
    rw [ih]
    show _ = shN bs.length (sh (r ^^^ ((word bs <<< 1) ^^^ b1 b)))
    have e : r ^^^ ((word bs <<< 1) ^^^ b1 b) = (r ^^^ b1 b) ^^^ (word bs <<< 1) := by
      rw [BitVec.xor_comm (word bs <<< 1), BitVec.xor_assoc]
    rw [e, sh_xor (r ^^^ b1 b), sh_shl (word_top (by omega))]
theorem regB_append (r : BitVec 32) (a b : List Bool) : regB r (a ++ b) = regB (regB r a) b := by simp [regB]
theorem regB_falses : ∀ (n : Nat) (r : BitVec 32), regB r (List.replicate n false) = shN n r
  | 0, r => rfl
  | n + 1, r => by
    show regB (sh (r ^^^ b1 false)) (List.replicate n false) = shN n (sh r)
    rw [regB_falses n]; simp [b1]
theorem b1_xor (a b : Bool) : b1 (a ^^ b) = b1 a ^^^ b1 b := by cases a <;> cases b <;> rfl
theorem regB_xor : ∀ (x y : List Bool) (a b : BitVec 32), x.length = y.length → regB (a ^^^ b) (List.zipWith (· ^^ ·) x y) = regB a x ^^^ regB b y
  | [], [], a, b, _ => rfl
  | [], _ :: _, a, b, h => by simp at h
  | _ :: _, [], a, b, h => by simp at h
  | p :: x, q :: y, a, b, h => by
    show regB (sh ((a ^^^ b) ^^^ b1 (p ^^ q))) (List.zipWith (· ^^ ·) x y) = regB (sh (a ^^^ b1 p)) x ^^^ regB (sh (b ^^^ b1 q)) y
    have e : (a ^^^ b) ^^^ b1 (p ^^ q) = (a ^^^ b1 p) ^^^ (b ^^^ b1 q) := by
      rw [b1_xor, BitVec.xor_assoc, BitVec.xor_assoc]
      congr 1
      rw [← BitVec.xor_assoc, BitVec.xor_comm b, BitVec.xor_assoc]
    rw [e, sh_xor, regB_xor x y _ _ (by simpa using h)]
def bits8 (c : UInt8) : List Bool := (List.range 8).map fun i => c.toBitVec.getLsbD i
def bitsOf (l : List UInt8) : List Bool := l.flatMap bits8
theorem bits8_length (c : UInt8) : (bits8 c).length = 8 := by simp [bits8]
theorem bits8_word (c : UInt8) : word (bits8 c) = c.toBitVec.setWidth 32 := by
  apply BitVec.eq_of_getLsbD_eq
  intro i hi
  rw [word_get _ i hi, BitVec.getLsbD_setWidth]
  simp only [hi, decide_true, Bool.true_and]
  rw [List.getD_eq_getElem?_getD]
  by_cases h8 : i < 8
  · simp [bits8, h8]
  · rw [List.getElem?_eq_none (by rw [bits8_length]; omega), BitVec.getLsbD_of_ge _ _ (by omega)]; rfl
theorem feed_bits (r : BitVec 32) (c : UInt8) : feed r c = regB r (bits8 c) := by
  rw [regB_word _ _ (by rw [bits8_length]; omega), bits8_word, bits8_length]; rfl
theorem reg_bits : ∀ (l : List UInt8) (r : BitVec 32), reg r l = regB r (bitsOf l)
  | [], r => rfl
  | c :: l, r => by
    show reg (feed r c) l = regB r (bits8 c ++ bitsOf l)
    rw [regB_append, ← feed_bits, reg_bits l]
theorem bitsOf_length (l : List UInt8) : (bitsOf l).length = 8 * l.length := by
  induction l with
  | nil => rfl
  | cons c l ih =>
    show (bits8 c ++ bitsOf l).length = _
    rw [List.length_append, bits8_length, ih, List.length_cons]; omega
theorem bitsOf_get : ∀ (l : List UInt8) (k : Nat), k < 8 * l.length → (bitsOf l)[k]? = some ((l.getD (k / 8) 0).toBitVec.getLsbD (k % 8))
  | [], k, h => by simp at h
  | c :: l, k, h => by
    show (bits8 c ++ bitsOf l)[k]? = _
    by_cases h8 : k < 8
    · rw [List.getElem?_append_left (by rw [bits8_length]; omega)]
      have e1 : k / 8 = 0 := by omega
      have e2 : k % 8 = k := by omega
      rw [e1, e2]
      simp [bits8, h8]
    · rw [List.getElem?_append_right (by rw [bits8_length]; omega), bits8_length, bitsOf_get l (k - 8) (by simp at h; omega)]
      have e1 : k / 8 = (k - 8) / 8 + 1 := by omega
      have e2 : k % 8 = (k - 8) % 8 := by omega
      rw [e1, e2, List.getD_cons_succ]
theorem u8_bit {n : Nat} {i : Nat} (hi : i < 8) : (u8 (n : Int)).toBitVec.getLsbD i = n.testBit i := by
  have e : (u8 (n : Int)).toBitVec = BitVec.ofNat 8 n := by
    apply BitVec.eq_of_toNat_eq
    have := u8_toNat (n : Int)
    show (u8 (n : Int)).toNat = _
    rw [BitVec.toNat_ofNat]
    omega
  rw [e, BitVec.getLsbD_ofNat]
  simp [hi]
theorem le4_word (y : BitVec 32) : word (bitsOf (le4 y)) = y := by
  apply BitVec.eq_of_getLsbD_eq
  intro i hi
  rw [word_get _ i hi, List.getD_eq_getElem?_getD, bitsOf_get _ _ (by rw [le4_length]; omega)]
  have h1 : (le4 y).getD (i / 8) 0 = u8 (wi y / 2 ^ (8 * (i / 8))) := by
    rw [List.getD_eq_getElem?_getD]
    have : i / 8 < 4 := by omega
    simp [le4, this]
  have h2 : wi y / 2 ^ (8 * (i / 8)) = ((y.toNat / 2 ^ (8 * (i / 8)) : Nat) : Int) := by
    simp [wi]
  rw [h1, h2]
  show (u8 _).toBitVec.getLsbD (i % 8) = _
  rw [u8_bit (by omega), Nat.testBit_div_two_pow, show i % 8 + 8 * (i / 8) = i by omega]
  rfl
/-- the register behind a sum that stands behind what it is of -/
theorem reg_le4 (R : BitVec 32) : reg R (le4 (~~~ R)) = shN 32 (BitVec.allOnes 32) := by
  have hl : (bitsOf (le4 (~~~ R))).length = 32 := by rw [bitsOf_length, le4_length]
  rw [reg_bits, regB_word _ _ (by omega), le4_word, hl]
  congr 1
  apply BitVec.eq_of_getLsbD_eq
  intro i hi
  rw [BitVec.getLsbD_xor, BitVec.getLsbD_not, BitVec.getLsbD_allOnes]
  cases R.getLsbD i <;> simp [hi]
theorem reg_append (r : BitVec 32) (a b : List UInt8) : reg r (a ++ b) = reg (reg r a) b := by simp [reg]
theorem reg_sealed (k n : Int) (p : List UInt8) : reg (BitVec.allOnes 32) (sealed k n p) = shN 32 (BitVec.allOnes 32) := by
  unfold sealed
  rw [reg_append]
  exact reg_le4 _
theorem flip_bit {l : List UInt8} {k j : Nat} (hj : j < 8 * l.length) (hk : k < 8 * l.length) (hne : j ≠ k) : (bitsOf (flip l k))[j]? = (bitsOf l)[j]? := by
  rw [bitsOf_get _ _ (by rw [flip_length]; exact hj), bitsOf_get _ _ hj]
  congr 1
  unfold flip
  simp only [List.getD_eq_getElem?_getD]
  rw [List.getElem?_set]
  by_cases h : k / 8 = j / 8
  · rw [if_pos h, if_pos (by omega), h]
    have h2 : ¬ j % 8 = k % 8 := by omega
    simp only [Option.getD_some]
    rw [UInt8.toBitVec_xor, BitVec.getLsbD_xor]
    have h3 : (UInt8.ofNat (2 ^ (k % 8))).toBitVec = BitVec.ofNat 8 (2 ^ (k % 8)) := rfl
    rw [h3, BitVec.getLsbD_ofNat, Nat.testBit_two_pow]
    have : ¬ k % 8 = j % 8 := by omega
    simp [this]
  · rw [if_neg h]
theorem burst_bit {o w : Nat} {l : List UInt8} {j : Nat} (hj : j < 8 * l.length) : ∀ m, o + m ≤ 8 * l.length → (j < o ∨ o + m ≤ j) → (bitsOf (burstL o w m l))[j]? = (bitsOf l)[j]?
  | 0, _, _ => rfl
  | m + 1, hm, h => by
    have ih := burst_bit (o := o) (w := w) hj m (by omega) (by omega)
    simp only [burstL]
    split
    · rw [flip_bit (by rw [burstL_length]; exact hj) (by rw [burstL_length]; omega) (by omega)]
      exact ih
    · exact ih
theorem bits_inj {x y : List UInt8} (hl : x.length = y.length) (h : bitsOf x = bitsOf y) : x = y := by
  apply List.ext_getElem hl
  intro i h1 h2
  apply UInt8.toBitVec_inj.1
  apply BitVec.eq_of_getLsbD_eq
  intro k hk
  have e1 := bitsOf_get x (8 * i + k) (by omega)
  have e2 := bitsOf_get y (8 * i + k) (by omega)
  rw [h] at e1
  rw [e1] at e2
  have d1 : (8 * i + k) / 8 = i := by omega
  have d2 : (8 * i + k) % 8 = k := by omega
  rw [d1, d2, List.getD_eq_getElem?_getD, List.getD_eq_getElem?_getD, List.getElem?_eq_getElem h1, List.getElem?_eq_getElem h2] at e2
  simpa using e2
/-- a burst of 32 bits at most does not leave the register as it was -/
theorem burst_reg {o w m : Nat} {s : List UInt8} (hm : m ≤ 32) (ho : o + m ≤ 8 * s.length) {r : BitVec 32} (h : reg r (burstL o w m s) = reg r s) : burstL o w m s = s := by
  have hlen : (burstL o w m s).length = s.length := burstL_length o w m s
  rw [reg_bits, reg_bits] at h
  refine bits_inj hlen ?_
  have hX : (bitsOf (burstL o w m s)).length = 8 * s.length := by rw [bitsOf_length, hlen]
  have hS : (bitsOf s).length = 8 * s.length := bitsOf_length s
  have hout : ∀ j, j < 8 * s.length → (j < o ∨ o + m ≤ j) → (bitsOf (burstL o w m s))[j]? = (bitsOf s)[j]? := fun j hj hh => burst_bit hj m ho hh
  generalize bitsOf (burstL o w m s) = X at h hX hout ⊢
  generalize bitsOf s = S at h hS hout ⊢
  have hx := regB_xor X S r r (by omega)
  rw [h, BitVec.xor_self, BitVec.xor_self] at hx
  generalize hE : List.zipWith (· ^^ ·) X S = E at hx
  have hEl : E.length = 8 * s.length := by rw [← hE, List.length_zipWith]; omega
  have hEg : ∀ j (hj : j < E.length), E[j] = (X[j]'(by omega) ^^ S[j]'(by omega)) := fun j hj => by
    subst hE
    exact List.getElem_zipWith
  have hE0 : ∀ j (hj : j < E.length), (j < o ∨ o + m ≤ j) → E[j] = false := fun j hj hh => by
    rw [hEg j hj]
    have := hout j (by omega) hh
    rw [List.getElem?_eq_getElem (by omega), List.getElem?_eq_getElem (by omega)] at this
    rw [Option.some.inj this]
    simp
  have p1 : E.take o = List.replicate o false := by
    apply List.ext_getElem
    · simp; omega
    · intro j h1 h2
      rw [List.getElem_take, List.getElem_replicate]
      exact hE0 j _ (.inl (by simp at h2; omega))
  have p3 : E.drop (o + m) = List.replicate (8 * s.length - (o + m)) false := by
    apply List.ext_getElem
    · simp; omega
    · intro j h1 h2
      rw [List.getElem_drop, List.getElem_replicate]
      exact hE0 _ _ (.inr (by omega))
  have hsplit : E = E.take o ++ ((E.drop o).take m ++ E.drop (o + m)) := by
    rw [← List.drop_drop, List.take_append_drop, List.take_append_drop]
  have hml : ((E.drop o).take m).length = m := by simp; omega
  rw [hsplit, regB_append, regB_append, p1, p3, regB_falses, regB_falses, shN_zero, regB_word _ _ (by omega), hml] at hx
  have hz := shN_eq_zero _ (shN_eq_zero _ hx)
  rw [BitVec.zero_xor] at hz
  have p2 : ∀ j, j < m → ((E.drop o).take m).getD j false = false := fun j hj => by
    rw [← word_get _ j (by omega), hz]; simp
  apply List.ext_getElem (by omega)
  intro j h1 h2
  have hjE : j < E.length := by omega
  have : E[j] = false := by
    by_cases hh : j < o ∨ o + m ≤ j
    · exact hE0 j hjE hh
    · have := p2 (j - o) (by omega)
      rw [List.getD_eq_getElem?_getD, List.getElem?_take, if_pos (by omega), List.getElem?_drop, show o + (j - o) = j by omega, List.getElem?_eq_getElem hjE] at this
      exact this
  rw [hEg j hjE] at this
  revert this
  cases X[j] <;> cases S[j] <;> simp
theorem open_reg {l : List UInt8} (h : openOk l = true) : reg (BitVec.allOnes 32) l = shN 32 (BitVec.allOnes 32) := by
  unfold openOk at h
  rw [Bool.and_eq_true, decide_eq_true_eq] at h
  rw [← h.2, reg_sealed]
theorem burst_open {o w m : Nat} {s : List UInt8} (hm : m ≤ 32) (ho : o + m ≤ 8 * s.length) (hs : openOk s = true) (hx : openOk (burstL o w m s) = true) : burstL o w m s = s :=
  burst_reg hm ho ((open_reg hx).trans (open_reg hs).symm)
end Gx
