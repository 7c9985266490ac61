/- Own proofs: what those Lean programs compute. No condition. -/
import Derived.Test.YtklegajjmeajiaaHRSeal
namespace Gx
open Go
set_option linter.unusedVariables false
/-- a slice laid anew -/
def Fr (h h' : Heap) (r : Sl) : Prop := ∀ a, r.base = some a → h.size ≤ a.block ∧ a.block < h'.size
theorem Fr.nil (h h' : Heap) : Fr h h' Sl.nil := fun a ha => by cases ha
/-- bytes appended to a slice without room -/
theorem ap_empty {s x : Sl} {l : List UInt8} {h : Heap} {Q : Sl → Heap → Prop} {e : TypeId} (hs : s.len = 0) (hc : s.cap = 0) (hb : Bys h x l) (hl : l.length ≤ 140737488355328)
    (H : ∀ h' r, Ext h h' → Bys h' r l → (r = s ∧ h' = h) ∨ Fr h h' r → Q r h') : (apL e 1 1 (#[.int .u8 0] : Array Value) s x).wp h Q := by
  refine ⟨l.map bv, by rw [List.length_map, hb.len]; omega, hb.at_, ?_⟩
  unfold apGo
  rw [hs, hc, hb.len]
  by_cases h0 : l.length = 0
  · have : l = [] := List.length_eq_zero_iff.1 h0
    subst this
    rw [if_pos (by simp)]
    refine ⟨fun a _ j hj => by simp at hj, by simp, ?_⟩
    have : hputL h s.base (0 * 1) (List.map bv []) = h := by unfold hputL; cases s.base <;> rfl
    rw [this]
    exact H _ _ (Ext.refl h) ⟨rfl, .inl rfl⟩ (.inl ⟨by cases s; cases hs; cases hc; rfl, rfl⟩)
  · rw [if_neg (by omega)]
    refine ⟨by omega, by omega, [], by simp, .inl rfl, fun cap hcap => ?_⟩
    refine H _ _ (Ext.push _ _) ⟨by simp, .inr ⟨_, rfl, fun j v hj => ?_⟩⟩ (.inr (fun a ha => by cases ha; simp))
    rw [add_mk, hcell_blk get_push_eq]
    have hj' : j < l.length := by
      rcases Nat.lt_or_ge j l.length with h' | h'
      · exact h'
      · rw [List.getElem?_eq_none (by simpa using h')] at hj; cases hj
    have : (#[] ++ (List.map bv l).toArray ++ zRow #[Value.int IntKind.u8 0] ((cap - (0 + l.length)) * 1))[0 + j]? = (List.map bv l)[j]? := by
      rw [Array.getElem?_append_left (by simp; omega)]
      simp
    rw [← hj]
    exact this
theorem clone_spec {s : Sl} {l : List UInt8} {h : Heap} {Q : Sl → Heap → Prop} (hb : Bys h s l) (hl : l.length ≤ 140737488355328) (H : ∀ h' r, Ext h h' → Bys h' r l → Fr h h' r → Q r h') : (slices_Clone_byte_byte s).wp h Q := by
  unfold slices_Clone_byte_byte
  refine ite_w (fun hc => ?_) (fun hc => ?_)
  · have hn : s.base = none := by cases hs : s.base with
      | none => rfl
      | some a => rw [hs] at hc; cases hc
    have : l = [] := by
      rcases hb.at_ with h1 | ⟨a, ha, _⟩
      · simpa using h1
      · rw [hn] at ha; cases ha
    subst this
    exact H _ _ (Ext.refl h) (Bys.nil h) (Fr.nil _ _)
  · refine bdL_b ?_
    refine bind_w (ap_empty rfl rfl (hb.ext (Ext.push _ _)) hl (fun h' r he hr hf => ?_))
    refine H _ _ ((Ext.push _ _).trans he) hr (fun a ha => ?_)
    have hsz := he.size
    rw [Array.size_push] at hsz
    rcases hf with ⟨e1, e2⟩ | hf
    · subst e1; subst e2; cases ha; simp
    · have := hf a ha
      rw [Array.size_push] at this
      omega

/-! ### What stands in a sector -/
def beN (l : List UInt8) : Nat := l.foldl (fun a c => a * 256 + c.toNat) 0
def k0 (l : List UInt8) : Int := ((l.getD 0 0).toNat : Int)
def m0 (l : List UInt8) : Nat := (l.getD 1 0).toNat
def n0 (l : List UInt8) : Int := IntKind.wrap .i64 (beN ((l.drop 2).take 8) : Nat)
def p0 (l : List UInt8) : List UInt8 := (l.drop 10).take (m0 l)
def openOk (l : List UInt8) : Bool := !badF (k0 l) (n0 l) (p0 l) && decide (sealed (k0 l) (n0 l) (p0 l) = l)
theorem beN_snoc (l : List UInt8) (b : UInt8) : beN (l ++ [b]) = beN l * 256 + b.toNat := by simp [beN]
theorem foldl_lt (l : List UInt8) : ∀ a : Nat, l.foldl (fun a c => a * 256 + c.toNat) a + 1 ≤ (a + 1) * 256 ^ l.length := by
  induction l with
  | nil => intro a; simp
  | cons b r ih =>
    intro a
    have := b.toNat_lt
    have h1 := ih (a * 256 + b.toNat)
    simp only [List.foldl_cons, List.length_cons, Nat.pow_succ]
    refine Nat.le_trans h1 ?_
    rw [Nat.mul_comm (256 ^ r.length) 256, ← Nat.mul_assoc]
    exact Nat.mul_le_mul_right _ (by omega)
theorem beN_lt (l : List UInt8) : beN l < 256 ^ l.length := by
  have := foldl_lt l 0
  unfold beN
  omega
theorem be8_eq (n : Int) : be8 n = [u8 (n / 72057594037927936), u8 (n / 281474976710656), u8 (n / 1099511627776), u8 (n / 4294967296), u8 (n / 16777216), u8 (n / 65536), u8 (n / 256), u8 (n / 1)] := by
  simp [be8, List.range, List.range.loop]
theorem beN_be8 {n : Int} (h0 : 0 ≤ n) (h1 : n ≤ 9223372036854775807) : ((beN (be8 n) : Nat) : Int) = n := by
  rw [be8_eq]
  simp only [beN, List.foldl_cons, List.foldl_nil]
  have e : ∀ x, ((u8 x).toNat : Int) = x % 256 := u8_toNat
  simp only [Int.natCast_add, Int.natCast_mul, e]
  omega
theorem sealed_fields {k n : Int} {pay : List UInt8} (hg : badF k n pay = false) (hn : n ≤ 9223372036854775807) : k0 (sealed k n pay) = k ∧ m0 (sealed k n pay) = pay.length ∧ n0 (sealed k n pay) = n ∧ p0 (sealed k n pay) = pay := by
  have hgood : 1 ≤ k ∧ k ≤ 255 ∧ 0 ≤ n ∧ pay.length ≤ 112 := by
    unfold badF at hg
    simp only [Bool.or_eq_false_iff, decide_eq_false_iff_not] at hg
    omega
  obtain ⟨g1, g2, g3, g4⟩ := hgood
  have e1 : k0 (sealed k n pay) = k := by
    have : (sealed k n pay).getD 0 0 = u8 k := rfl
    rw [k0, this, u8_toNat]; omega
  have e2 : m0 (sealed k n pay) = pay.length := by
    have : (sealed k n pay).getD 1 0 = u8 pay.length := rfl
    have h := u8_toNat pay.length
    rw [m0, this]; omega
  have hs : (sealed k n pay).drop 2 = be8 n ++ (pay ++ List.replicate (114 - pay.length) 0 ++ le4 (crc (hd k n pay))) := by
    simp [sealed, hd]
  have e3 : n0 (sealed k n pay) = n := by
    rw [n0, hs, List.take_append_of_le_length (by rw [be8_length]; omega), List.take_of_length_le (by rw [be8_length]; omega), beN_be8 g3 hn, w64 (by omega) (by omega)]
  refine ⟨e1, e2, e3, ?_⟩
  rw [p0, e2, show (10 : Nat) = 2 + 8 from rfl, ← List.drop_drop, hs, List.drop_append_of_le_length (by rw [be8_length]; omega), List.drop_eq_nil_of_le (by rw [be8_length]; omega), List.nil_append, List.append_assoc, List.take_append_of_le_length (by omega), List.take_of_length_le (by omega)]
theorem open_sealed {k n : Int} {pay : List UInt8} (hg : badF k n pay = false) (hn : n ≤ 9223372036854775807) : openOk (sealed k n pay) = true := by
  obtain ⟨e1, _, e3, e4⟩ := sealed_fields hg hn
  unfold openOk
  rw [e1, e3, e4, hg]
  simp
/-- a byte laid behind others, by shift and or -/
theorem or_shift (m : Nat) (c : UInt8) : ((BitVec.ofNat 64 (m * 256)) ||| (BitVec.ofNat 64 c.toNat)).toNat = (m * 256 + c.toNat) % 18446744073709551616 := by
  have hc := c.toNat_lt
  rw [BitVec.toNat_or, BitVec.toNat_ofNat, BitVec.toNat_ofNat]
  have e1 : m * 256 % 2 ^ 64 = (m % 2 ^ 56) <<< 8 := by rw [Nat.shiftLeft_eq]; omega
  have e2 : c.toNat % 2 ^ 64 = c.toNat := by omega
  rw [e1, e2, ← Nat.shiftLeft_add_eq_or_of_lt (by omega : c.toNat < 2 ^ 8), Nat.shiftLeft_eq]
  omega
theorem ofInt_nat (m : Nat) : BitVec.ofInt 64 (m : Int) = BitVec.ofNat 64 m := BitVec.ofInt_natCast 64 m
theorem step_u64 {m : Nat} {c : UInt8} (h : m * 256 + c.toNat < 18446744073709551616) : iOr .u64 (iShl .u64 (m : Int) 8) (IntKind.wrap .u64 (c.toNat : Int)) = ((m * 256 + c.toNat : Nat) : Int) := by
  have hc := c.toNat_lt
  have w : ∀ n, IntKind.wrap .u64 n = n % 18446744073709551616 := fun n => by simp [IntKind.wrap, IntKind.signed, IntKind.bits]
  have e1 : iShl .u64 (m : Int) 8 = ((m * 256 : Nat) : Int) := by
    have : iShl .u64 (m : Int) 8 = IntKind.wrap .u64 ((m : Int) * 2 ^ 8) := rfl
    rw [this, w]; omega
  have e2 : IntKind.wrap .u64 (c.toNat : Int) = ((c.toNat : Nat) : Int) := by rw [w]; omega
  rw [e1, e2]
  show IntKind.wrap .u64 (((BitVec.ofInt 64 ((m * 256 : Nat) : Int)) ||| (BitVec.ofInt 64 ((c.toNat : Nat) : Int))).toNat : Int) = _
  rw [ofInt_nat, ofInt_nat, or_shift, w]
  omega
theorem ofInt_wrap64 (n : Int) : BitVec.ofInt 64 (IntKind.wrap .i64 n) = BitVec.ofInt 64 n := by
  apply BitVec.eq_of_toNat_eq
  rw [BitVec.toNat_ofInt, BitVec.toNat_ofInt, IntKind.wrap_i64]
  omega
theorem step_i64 (m : Nat) (c : UInt8) : iOr .i64 (iShl .i64 (IntKind.wrap .i64 (m : Int)) 8) (IntKind.wrap .i64 (c.toNat : Int)) = IntKind.wrap .i64 ((m * 256 + c.toNat : Nat) : Int) := by
  have hc := c.toNat_lt
  have e1 : iShl .i64 (IntKind.wrap .i64 (m : Int)) 8 = IntKind.wrap .i64 ((m * 256 : Nat) : Int) := by
    have : iShl .i64 (IntKind.wrap .i64 (m : Int)) 8 = IntKind.wrap .i64 ((IntKind.wrap .i64 (m : Int)) * 2 ^ 8) := rfl
    rw [this, IntKind.wrap_i64, IntKind.wrap_i64, IntKind.wrap_i64]; omega
  rw [e1]
  show IntKind.wrap .i64 (((BitVec.ofInt 64 (IntKind.wrap .i64 ((m * 256 : Nat) : Int))) ||| (BitVec.ofInt 64 (IntKind.wrap .i64 ((c.toNat : Nat) : Int)))).toNat : Int) = _
  rw [ofInt_wrap64, ofInt_wrap64, ofInt_nat, ofInt_nat, or_shift, IntKind.wrap_i64, IntKind.wrap_i64]
  omega
end Gx
