/- Own proofs: what those Lean programs compute. No condition. -/
import Derived.Test.YtklegajjmeajiaaHSum
import Derived.Test.YtklegajjmeajiaaHSum2
import Derived.Test.YtklegajjmeajiaaAF1
namespace Gx
open Go
set_option linter.unusedVariables false
/-- only block b may have changed -/
structure Upd (b : Nat) (h h' : Heap) : Prop where
  size : h'.size = h.size
  ne : ∀ i, i ≠ b → h'[i]? = h[i]?
theorem Upd.refl (b : Nat) (h : Heap) : Upd b h h := ⟨rfl, fun _ _ => rfl⟩
theorem Upd.trans {b : Nat} {h h' h'' : Heap} (a : Upd b h h') (c : Upd b h' h'') : Upd b h h'' := ⟨c.size.trans a.size, fun i hi => (c.ne i hi).trans (a.ne i hi)⟩
theorem Upd.hset (h : Heap) (b o : Nat) (v : Value) : Upd b h (hset h ⟨b, o, none⟩ v) := ⟨hset_size, fun i hi => hset_ne hi⟩
theorem Upd.hsetL (h : Heap) (b o : Nat) (vs : List Value) (j : Nat) : Upd b h (hsetL h ⟨b, o, none⟩ vs j) := ⟨hsetL_size _ _ _, fun i hi => hsetL_ne hi _ _ _⟩
theorem Ext.upd {h h' h'' : Heap} {b : Nat} (e : Ext h h') (u : Upd b h' h'') (hb : h.size ≤ b) : Ext h h'' := ⟨by rw [u.size]; exact e.size, fun i hi => by rw [u.ne i (by omega)]; exact e.same i hi⟩

/-- a block of bytes of one's own -/
def BB (h : Heap) (b : Nat) (t : TypeId) (l : List UInt8) : Prop := h[b]? = some (.cells (bcells l) t (0, 0))
theorem BB.cell {h : Heap} {b : Nat} {t : TypeId} {l : List UInt8} (hb : BB h b t l) {i : Nat} (hi : i < l.length) : hcell h ⟨b, i, none⟩ = some (bv l[i]) := by
  rw [hcell_blk hb, bcells_get, List.getElem?_eq_getElem hi]; rfl
theorem BB.frozen {h : Heap} {b : Nat} {t : TypeId} {l : List UInt8} (hb : BB h b t l) (i : Nat) : hfrozen h ⟨b, i, none⟩ = false := hfrozen_blk hb
theorem BB.set {h : Heap} {b : Nat} {t : TypeId} {l : List UInt8} (hb : BB h b t l) (i : Nat) (x : UInt8) : BB (hset h ⟨b, i, none⟩ (bv x)) b t (l.set i x) := by
  unfold BB
  rw [hset_at hb, bcells_set]
theorem BB.lay {h : Heap} {b : Nat} {t : TypeId} {l : List UInt8} (hb : BB h b t l) (o : Nat) (vs : List UInt8) (hl : o + vs.length ≤ l.length) : BB (hsetL h ⟨b, o, none⟩ (vs.map bv) 0) b t (l.take o ++ vs ++ l.drop (o + vs.length)) := by
  unfold BB
  rw [hsetL_at _ _ _ _ hb, Nat.add_zero, bcells_lay l o vs hl]
theorem BB.upd {h h' : Heap} {b c : Nat} {t : TypeId} {l : List UInt8} (hb : BB h b t l) (u : Upd c h h') (hne : b ≠ c) : BB h' b t l := by
  unfold BB
  rw [u.ne b hne]; exact hb
theorem BB.bys {h : Heap} {b : Nat} {t : TypeId} {l : List UInt8} (hb : BB h b t l) (o n cap : Nat) (hl : o + n ≤ l.length) : Bys h ⟨some ⟨b, o, none⟩, n, cap⟩ ((l.drop o).take n) := by
  refine ⟨by simp; omega, .inr ⟨_, rfl, fun j v hj => ?_⟩⟩
  rw [add_mk]
  have hlt : j < ((l.drop o).take n).length := by
    rcases Nat.lt_or_ge j ((l.drop o).take n).length with h' | h'
    · exact h'
    · rw [List.getElem?_eq_none (by simpa using h')] at hj; cases hj
  have hlt' : j < n ∧ o + j < l.length := by simp at hlt; omega
  rw [hb.cell hlt'.2]
  rw [List.getElem?_map, List.getElem?_eq_getElem hlt] at hj
  simp at hj
  rw [← hj]
theorem stB_b {β : Type} {h : Heap} {Q : β → Heap → Prop} {b i : Nat} {t : TypeId} {l : List UInt8} {n : Int} {f : Unit → M β} (hb : BB h b t l) (hi : i < l.length)
    (H : (f ()).wp (hset h ⟨b, i, none⟩ (bv (u8 n))) Q) : (stV ⟨b, i, none⟩ (.int .u8 (IntKind.wrap .u8 n)) >>= f).wp h Q := by
  rw [wrap_u8]
  exact stV_b (hb.cell hi) (hb.frozen i) (one_bv _) H

/-! ### big -/
def be8 (n : Int) : List UInt8 := (List.range 8).map fun i => u8 (n / 2 ^ (56 - 8 * i))
theorem be8_length (n : Int) : (be8 n).length = 8 := by simp [be8]
theorem w64n {n : Nat} (h : n ≤ 9223372036854775807) : IntKind.wrap .i64 (n : Int) = (n : Int) := w64 (by omega) (by omega)
theorem list_set_mid {α : Type} {a b : List α} {x y : α} {o : Nat} (h : a.length = o) : (a ++ x :: b).set o y = a ++ y :: b := by
  subst h; simp
theorem iShr_nn {k : IntKind} {x : Int} {m : Nat} (hx : 0 ≤ x) (hm : m ≤ k.bits) : iShr k x (m : Int) = x / 2 ^ m := by
  unfold iShr
  rw [show min ((m : Int).toNat) k.bits = m by simp; omega, Int.fdiv_eq_ediv_of_nonneg _ (by exact Int.pow_nonneg (by omega))]
theorem splice_step {l vs : List UInt8} {o j : Nat} (hj : j < vs.length) (hl : o + vs.length ≤ l.length) :
    (l.take o ++ vs.take j ++ l.drop (o + j)).set (o + j) vs[j] = l.take o ++ vs.take (j + 1) ++ l.drop (o + (j + 1)) := by
  rw [List.drop_eq_getElem_cons (show o + j < l.length by omega), list_set_mid (by simp; omega), take_snoc hj]
  simp only [List.append_assoc, List.singleton_append, List.cons_append, List.nil_append, Nat.add_assoc]
theorem big_spec {h : Heap} {Q : Unit → Heap → Prop} {b o cap : Nat} {t : TypeId} {l : List UInt8} {n : Int} (hn : 0 ≤ n) (hb : BB h b t l) (ho : o + 8 ≤ l.length)
    (H : ∀ h', Upd b h h' → BB h' b t (l.take o ++ be8 n ++ l.drop (o + 8)) → Q () h') : (sector_big n ⟨some ⟨b, o, none⟩, 8, cap⟩).wp h Q := by
  unfold sector_big
  have hl8 := be8_length n
  refine M.loop_inv (fun t' h' => ∃ j : Nat, j ≤ 8 ∧ t' = (j : Int) ∧ Upd b h h' ∧ BB h' b t (l.take o ++ (be8 n).take j ++ l.drop (o + j))) (fun t' _ => (8 - t').toNat) ?_ ⟨0, by omega, rfl, Upd.refl _ _, by simpa using hb⟩
  rintro t' h' ⟨j, hj, rfl, hu, hB⟩ self hself
  unfold sector_big_l1
  refine ite_w (fun hc => ?_) (fun hc => ?_)
  · have hlt : j < 8 := by have := of_decide_eq_true hc; simp at this; omega
    have e1 : IntKind.wrap .i64 (8 * (IntKind.wrap .i64 ((IntKind.wrap .i64 (((8 : Nat) : Int) - 1)) - (j : Int)))) = ((56 - 8 * j : Nat) : Int) := by
      rw [w64 (n := ((8 : Nat) : Int) - 1) (by omega) (by omega), w64 (n := ((8 : Nat) : Int) - 1 - j) (by omega) (by omega), w64 (by omega) (by omega)]
      omega
    refine pShr_b (by rw [e1]; omega) ?_
    rw [e1, iShr_nn hn (show 56 - 8 * j ≤ 64 by omega)]
    refine ixL_b (by omega) (by show (j : Int) < ((8 : Nat) : Int); omega) rfl ?_
    rw [show ((j : Int).toNat * 1) = j by omega, add_mk]
    refine stB_b hB (by simp; omega) ?_
    have e2 : IntKind.wrap .i64 ((j : Int) + 1) = ((j + 1 : Nat) : Int) := by rw [w64 (by omega) (by omega)]; rfl
    rw [e2]
    refine hself _ _ ⟨j + 1, by omega, rfl, hu.trans (Upd.hset _ _ _ _), ?_⟩ (by omega)
    have eq := splice_step (l := l) (vs := be8 n) (o := o) (j := j) (by omega) (by omega)
    have hx : (be8 n)[j]'(by omega) = u8 (n / 2 ^ (56 - 8 * j)) := by simp [be8]
    rw [← hx, ← eq]
    exact hB.set (o + j) _
  · have : j = 8 := by have := of_decide_eq_false hc; simp at this; omega
    subst this
    refine H _ hu ?_
    rw [show List.take 8 (be8 n) = be8 n from List.take_of_length_le (by omega)] at hB
    exact hB
end Gx
