/- Own library: a small logic of Lean programs over the model's heap, with the laws that tie Go code to it. No condition. -/
import Derived.Test.YtklegajjmeajiaaGxI
namespace Gx
open Go

/-! ### What is asked, step by step -/
section b
variable {α β : Type} {h : Heap} {Q : β → Heap → Prop}
theorem bind_w {m : M α} {f : α → M β} (H : m.wp h (fun r h' => (f r).wp h' Q)) : (m >>= f).wp h Q := H
theorem pure_w {a : β} (H : Q a h) : (M.pure a : M β).wp h Q := H
theorem pure_b {a : α} {f : α → M β} (H : (f a).wp h Q) : (M.pure a >>= f).wp h Q := H
theorem need_b {p : Prop} {f : Unit → M β} (hp : p) (H : (f ()).wp h Q) : (M.need p >>= f).wp h Q := ⟨hp, H⟩
theorem chk_b {p : Heap → Prop} {f : Unit → M β} (hp : p h) (H : (f ()).wp h Q) : (chk p >>= f).wp h Q := ⟨(), hp, H⟩
theorem ite_w {b : Bool} {m n : M β} (ht : b = true → m.wp h Q) (hf : b = false → n.wp h Q) : (M.ite b m n).wp h Q := by cases b; exact hf rfl; exact ht rfl
theorem ite_b {b : Bool} {m n : M α} {f : α → M β} (ht : b = true → (m >>= f).wp h Q) (hf : b = false → (n >>= f).wp h Q) : (M.ite b m n >>= f).wp h Q := by cases b; exact hf rfl; exact ht rfl
theorem iteT {b : Bool} {m n : M β} (hb : b = true) (H : m.wp h Q) : (M.ite b m n).wp h Q := by subst hb; exact H
theorem iteF {b : Bool} {m n : M β} (hb : b = false) (H : n.wp h Q) : (M.ite b m n).wp h Q := by subst hb; exact H
theorem iteT_b {b : Bool} {m n : M α} {f : α → M β} (hb : b = true) (H : (m >>= f).wp h Q) : (M.ite b m n >>= f).wp h Q := by subst hb; exact H
theorem iteF_b {b : Bool} {m n : M α} {f : α → M β} (hb : b = false) (H : (n >>= f).wp h Q) : (M.ite b m n >>= f).wp h Q := by subst hb; exact H
theorem assoc_b {γ : Type} {m : M γ} {g : γ → M α} {f : α → M β} (H : (m >>= fun x => g x >>= f).wp h Q) : ((m >>= g) >>= f).wp h Q := H
theorem both_w {m n : M β} (h1 : m.wp h Q) (h2 : n.wp h Q) : (M.both m n).wp h Q := ⟨h1, h2⟩
theorem both_b {m n : M α} {f : α → M β} (h1 : (m >>= f).wp h Q) (h2 : (n >>= f).wp h Q) : (M.both m n >>= f).wp h Q := ⟨h1, h2⟩
theorem ldI_b {k : IntKind} {a : Addr} {n : Int} {f : Int → M β} (hc : hcell h a = some (.int k n)) (H : (f n).wp h Q) : (ldI k a >>= f).wp h Q := ⟨n, hc, H⟩
theorem ldB_b {a : Addr} {n : Bool} {f : Bool → M β} (hc : hcell h a = some (.bool n)) (H : (f n).wp h Q) : (ldB a >>= f).wp h Q := ⟨n, hc, H⟩
theorem ldS_b {a : Addr} {n : ByteArray} {f : ByteArray → M β} (hc : hcell h a = some (.string n)) (H : (f n).wp h Q) : (ldS a >>= f).wp h Q := ⟨n, hc, H⟩
theorem ldP_b {a : Addr} {n : Option Addr} {f : Option Addr → M β} (hc : hcell h a = some (.pointer n)) (H : (f n).wp h Q) : (ldP a >>= f).wp h Q := ⟨n, hc, H⟩
theorem ldL_b {a : Addr} {n : Sl} {f : Sl → M β} (hc : hcell h a = some n.v) (H : (f n).wp h Q) : (ldL a >>= f).wp h Q := ⟨n, hc, H⟩
theorem ldMp_b {a : Addr} {n : Option Nat} {f : Option Nat → M β} (hc : hcell h a = some (.map n)) (H : (f n).wp h Q) : (ldMp a >>= f).wp h Q := ⟨n, hc, H⟩
theorem ldG_b {n : Nat} {a : Addr} {cs : Array Value} {f : Array Value → M β} (hs : cs.size = n) (hc : ∀ i, i < n → hcell h (a.add i) = cs[i]?) (H : (f cs).wp h Q) : (ldG n a >>= f).wp h Q := ⟨cs, ⟨hs, hc⟩, H⟩
theorem stV_b {a : Addr} {v x : Value} {f : Unit → M β} (hc : hcell h a = some x) (hf : hfrozen h a = false) (h1 : one v = true) (H : (f ()).wp (hset h a v) Q) : (stV a v >>= f).wp h Q := ⟨(), ⟨⟨x, hc⟩, hf, h1⟩, H⟩
theorem stG_b {a : Addr} {cs : Array Value} {f : Unit → M β} (hc : ∀ i, i < cs.size → (∃ x, hcell h (a.add i) = some x) ∧ hfrozen h (a.add i) = false) (h1 : ∀ v ∈ cs.toList, one v = true) (H : (f ()).wp (hsetL h a cs.toList 0) Q) : (stG a cs >>= f).wp h Q := ⟨(), ⟨hc, h1⟩, H⟩
theorem mkB_b {t : TypeId} {cs : Array Value} {f : Addr → M β} (H : (f ⟨h.size, 0, none⟩).wp (h.push (.cells cs t)) Q) : (mkB t cs >>= f).wp h Q := ⟨_, rfl, H⟩
theorem mkMap_b {f : Option Nat → M β} (H : (f (some h.size)).wp (h.push (.map #[] 0)) Q) : (mkMap >>= f).wp h Q := ⟨_, rfl, H⟩
theorem nilP_b {a : Addr} {f : Addr → M β} (H : (f a).wp h Q) : (nilP (some a) >>= f).wp h Q := ⟨a, rfl, H⟩
theorem ixL_b {s : Sl} {i : Int} {sz : Nat} {b : Addr} {f : Addr → M β} (h0 : 0 ≤ i) (h1 : i < s.len) (hb : s.base = some b) (H : (f (b.add (i.toNat * sz))).wp h Q) : (ixL s i sz >>= f).wp h Q := ⟨_, ⟨h0, h1, b, hb, rfl⟩, H⟩
theorem ixA_b {b : Addr} {n : Nat} {i : Int} {sz : Nat} {f : Addr → M β} (h0 : 0 ≤ i) (h1 : i < n) (H : (f (b.add (i.toNat * sz))).wp h Q) : (ixA b n i sz >>= f).wp h Q := ⟨_, ⟨h0, h1, rfl⟩, H⟩
theorem slL_b {s : Sl} {lo hi : Int} {sz : Nat} {f : Sl → M β} (h0 : 0 ≤ lo) (h1 : lo ≤ hi) (h2 : hi ≤ s.cap) (H : (f ⟨if s.cap = lo.toNat then s.base else s.base.map (·.add (lo.toNat * sz)), hi.toNat - lo.toNat, s.cap - lo.toNat⟩).wp h Q) : (slL s lo hi sz >>= f).wp h Q := ⟨_, ⟨h0, h1, h2, rfl⟩, H⟩
theorem slA_b {a : Addr} {n : Nat} {lo hi : Int} {sz : Nat} {f : Sl → M β} (h0 : 0 ≤ lo) (h1 : lo ≤ hi) (h2 : hi ≤ n) (H : (f ⟨some (if n = lo.toNat then a else a.add (lo.toNat * sz)), hi.toNat - lo.toNat, n - lo.toNat⟩).wp h Q) : (slA a n lo hi sz >>= f).wp h Q := ⟨_, ⟨h0, h1, h2, rfl⟩, H⟩
theorem pShl_b {k : IntKind} {x y : Int} {f : Int → M β} (h0 : 0 ≤ y) (H : (f (iShl k x y)).wp h Q) : (pShl k x y >>= f).wp h Q := ⟨_, ⟨h0, rfl⟩, H⟩
theorem pShr_b {k : IntKind} {x y : Int} {f : Int → M β} (h0 : 0 ≤ y) (H : (f (iShr k x y)).wp h Q) : (pShr k x y >>= f).wp h Q := ⟨_, ⟨h0, rfl⟩, H⟩
theorem bdL_b {e len : Nat} {cells : Array Value} {f : Sl → M β} (H : (f ⟨some ⟨h.size, 0, none⟩, len, len⟩).wp (h.push (.cells cells e)) Q) : (bdL e len cells >>= f).wp h Q := ⟨_, rfl, H⟩
theorem eqA_b {k : IntKind} {q : Nat} {xs ys : Array Value} {f : Bool → M β} (hx : Nums k q xs) (hy : Nums k q ys) (H : (f (aEq q xs ys)).wp h Q) : (eqA k q xs ys >>= f).wp h Q := ⟨_, ⟨hx, hy, rfl⟩, H⟩
theorem b2s_b {s : Sl} {ns : List UInt8} {f : ByteArray → M β} (hl : ns.length = s.len) (hr : Reads h s.base (ns.map fun b => Value.int .u8 (b.toNat : Int))) (H : (f ⟨ns.toArray⟩).wp h Q) : (b2s s >>= f).wp h Q := ⟨_, ⟨ns, hl, hr, rfl⟩, H⟩
end b

/-! ### Addresses and blocks -/
theorem add_mk (b o n : Nat) : (⟨b, o, none⟩ : Addr).add n = ⟨b, o + n, none⟩ := by
  cases n with
  | zero => rfl
  | succ n => simp [Addr.add]
theorem hcell_blk {h : Heap} {b o : Nat} {cs : Array Value} {t : TypeId} {z : Nat × Nat} (hb : h[b]? = some (.cells cs t z)) : hcell h ⟨b, o, none⟩ = cs[o]? := by
  simp [hcell, hb]
theorem hfrozen_blk {h : Heap} {b o : Nat} {cs : Array Value} {t : TypeId} (hb : h[b]? = some (.cells cs t (0, 0))) : hfrozen h ⟨b, o, none⟩ = false := by
  simp [hfrozen, hb]
theorem get_push_lt {h : Heap} {o : Obj} {i : Nat} (hi : i < h.size) : (h.push o)[i]? = h[i]? := by
  rw [Array.getElem?_push]
  rw [if_neg (by omega)]
theorem get_push_eq {h : Heap} {o : Obj} : (h.push o)[h.size]? = some o := by simp
theorem hset_size {h : Heap} {a : Addr} {v : Value} : (hset h a v).size = h.size := by simp [hset]
theorem hset_ne {h : Heap} {a : Addr} {v : Value} {i : Nat} (hi : i ≠ a.block) : (hset h a v)[i]? = h[i]? := by
  simp only [hset, Array.getElem?_modify]
  rw [if_neg (fun e => hi e.symm)]
theorem hset_at {h : Heap} {b o : Nat} {v : Value} {cs : Array Value} {t : TypeId} {z : Nat × Nat} (hb : h[b]? = some (.cells cs t z)) : (hset h ⟨b, o, none⟩ v)[b]? = some (.cells (cs.setIfInBounds o v) t z) := by
  simp only [hset, Array.getElem?_modify, if_true, hb, Option.map_some]
  rfl
theorem hsetL_size {a : Addr} : ∀ (vs : List Value) (h : Heap) (i : Nat), (hsetL h a vs i).size = h.size
  | [], _, _ => rfl
  | v :: r, h, i => by simp only [hsetL]; rw [hsetL_size r, hset_size]
theorem add_block (a : Addr) (n : Nat) : (a.add n).block = a.block := by
  cases n <;> rfl
theorem hsetL_ne {a : Addr} {j : Nat} (hj : j ≠ a.block) : ∀ (vs : List Value) (h : Heap) (i : Nat), (hsetL h a vs i)[j]? = h[j]?
  | [], _, _ => rfl
  | v :: r, h, i => by simp only [hsetL]; rw [hsetL_ne hj r, hset_ne (by rw [add_block]; exact hj)]
/-- vs laid over cs from o on -/
def lay (cs : Array Value) (o : Nat) : List Value → Array Value
  | [] => cs
  | v :: r => lay (cs.setIfInBounds o v) (o + 1) r
theorem hsetL_at {b o : Nat} {t : TypeId} {z : Nat × Nat} : ∀ (vs : List Value) (h : Heap) (i : Nat) (cs : Array Value), h[b]? = some (.cells cs t z) → (hsetL h ⟨b, o, none⟩ vs i)[b]? = some (.cells (lay cs (o + i) vs) t z)
  | [], h, i, cs, hb => hb
  | v :: r, h, i, cs, hb => by
    simp only [hsetL, lay]
    rw [add_mk]
    exact hsetL_at r _ (i + 1) _ (hset_at hb)
theorem lay_size : ∀ (vs : List Value) (cs : Array Value) (o : Nat), (lay cs o vs).size = cs.size
  | [], _, _ => rfl
  | v :: r, cs, o => by simp only [lay]; rw [lay_size r]; simp
theorem lay_toList : ∀ (vs : List Value) (cs : Array Value) (o : Nat), o + vs.length ≤ cs.size → (lay cs o vs).toList = cs.toList.take o ++ vs ++ cs.toList.drop (o + vs.length)
  | [], cs, o, _ => by simp [lay]
  | v :: r, cs, o, h => by
    simp only [List.length_cons] at h
    simp only [lay]
    rw [lay_toList r _ _ (by simp; omega)]
    simp only [Array.toList_setIfInBounds, List.length_cons]
    have h1 : (cs.toList.set o v).take (o + 1) = cs.toList.take o ++ [v] := by
      rw [List.take_succ_eq_append_getElem (by simp; omega), List.take_set_of_le (Nat.le_refl _)]
      simp
    rw [h1, List.drop_set_of_lt (by omega)]
    simp [Nat.add_assoc, Nat.add_comm 1]

/-- what had been there is there, as it was -/
structure Ext (h h' : Heap) : Prop where
  size : h.size ≤ h'.size
  same : ∀ i, i < h.size → h'[i]? = h[i]?
theorem Ext.refl (h : Heap) : Ext h h := ⟨Nat.le_refl _, fun _ _ => rfl⟩
theorem Ext.trans {h h' h'' : Heap} (a : Ext h h') (b : Ext h' h'') : Ext h h'' := ⟨Nat.le_trans a.size b.size, fun i hi => (b.same i (Nat.lt_of_lt_of_le hi a.size)).trans (a.same i hi)⟩
theorem Ext.push (h : Heap) (o : Obj) : Ext h (h.push o) := ⟨by simp, fun i hi => get_push_lt hi⟩
theorem Ext.pushed {h h' : Heap} (a : Ext h h') (o : Obj) : Ext h (h'.push o) := a.trans (Ext.push _ _)
theorem Ext.hset {h h' : Heap} (a : Ext h h') {p : Addr} {v : Value} (hp : h.size ≤ p.block) : Ext h (hset h' p v) :=
  ⟨by rw [hset_size]; exact a.size, fun i hi => by rw [hset_ne (by omega)]; exact a.same i hi⟩
theorem Ext.hsetL {h h' : Heap} (a : Ext h h') {p : Addr} {vs : List Value} {j : Nat} (hp : h.size ≤ p.block) : Ext h (hsetL h' p vs j) :=
  ⟨by rw [hsetL_size]; exact a.size, fun i hi => by rw [hsetL_ne (by omega)]; exact a.same i hi⟩
theorem Ext.cell {h h' : Heap} (a : Ext h h') {p : Addr} {v : Value} (hc : hcell h p = some v) : hcell h' p = some v := by
  have hlt : p.block < h.size := by
    rcases Nat.lt_or_ge p.block h.size with h1 | h1
    · exact h1
    · simp [hcell, Array.getElem?_eq_none h1] at hc
  simp only [hcell, a.same _ hlt] at hc ⊢
  exact hc
theorem Ext.blk {h h' : Heap} (a : Ext h h') {b : Nat} {o : Obj} (hb : h[b]? = some o) : h'[b]? = some o := by
  have hlt : b < h.size := by
    rcases Nat.lt_or_ge b h.size with h1 | h1
    · exact h1
    · rw [Array.getElem?_eq_none h1] at hb; cases hb
  rw [a.same _ hlt]; exact hb
theorem Ext.reads {h h' : Heap} (a : Ext h h') {b : Option Addr} {cs : List Value} (hr : Reads h b cs) : Reads h' b cs := by
  rcases hr with h1 | ⟨p, hp, hc⟩
  · exact .inl h1
  · exact .inr ⟨p, hp, fun j v hj => a.cell (hc j v hj)⟩
theorem blk_lt {h : Heap} {b : Nat} {o : Obj} (hb : h[b]? = some o) : b < h.size := by
  rcases Nat.lt_or_ge b h.size with h1 | h1
  · exact h1
  · rw [Array.getElem?_eq_none h1] at hb; cases hb

/-! ### Bytes -/
def bv (b : UInt8) : Value := .int .u8 (b.toNat : Int)
/-- bytes as cells -/
def bcells (l : List UInt8) : Array Value := (l.map bv).toArray
theorem bcells_size (l : List UInt8) : (bcells l).size = l.length := by simp [bcells]
theorem bcells_get (l : List UInt8) (i : Nat) : (bcells l)[i]? = (l[i]?).map bv := by simp [bcells]
theorem bcells_toList (l : List UInt8) : (bcells l).toList = l.map bv := rfl
theorem one_bv (b : UInt8) : one (bv b) = true := rfl
theorem bcells_set (l : List UInt8) (i : Nat) (b : UInt8) : (bcells l).setIfInBounds i (bv b) = bcells (l.set i b) := by
  apply Array.ext'
  simp [bcells, List.map_set]
theorem bcells_lay (l : List UInt8) (o : Nat) (vs : List UInt8) (h : o + vs.length ≤ l.length) : lay (bcells l) o (vs.map bv) = bcells (l.take o ++ vs ++ l.drop (o + vs.length)) := by
  apply Array.ext'
  rw [lay_toList _ _ _ (by simp [bcells]; exact h)]
  simp [bcells, List.map_take, List.map_drop]
theorem nums_bcells (l : List UInt8) {q : Nat} (h : q ≤ l.length) : Nums .u8 q (bcells l) := fun i hi => by
  have : i < l.length := by omega
  exact ⟨_, by rw [bcells_get, List.getElem?_eq_getElem this]; rfl⟩
theorem aEq_bcells (l l' : List UInt8) {q : Nat} (h : l.length = q) (h' : l'.length = q) : aEq q (bcells l) (bcells l') = decide (l = l') := by
  have key : ∀ i (hi : i < q), (iat (bcells l) i == iat (bcells l') i) = decide (l[i]'(by omega) = l'[i]'(by omega)) := fun i hi => by
    have h1 : iat (bcells l) i = ((l[i]'(by omega)).toNat : Int) := by
      simp only [iat, bcells_get, List.getElem?_eq_getElem (show i < l.length by omega), Option.map_some, bv]
    have h2 : iat (bcells l') i = ((l'[i]'(by omega)).toNat : Int) := by
      simp only [iat, bcells_get, List.getElem?_eq_getElem (show i < l'.length by omega), Option.map_some, bv]
    rw [h1, h2]
    rw [Bool.eq_iff_iff]
    simp only [beq_iff_eq, decide_eq_true_eq]
    constructor
    · intro e; exact UInt8.toNat_inj.1 (by omega)
    · intro e; rw [e]
  unfold aEq
  rw [Bool.eq_iff_iff, List.all_eq_true, decide_eq_true_eq]
  constructor
  · intro hh
    apply List.ext_getElem (by omega)
    intro i h1 h2
    have := hh i (by simp; omega)
    rw [key i (by omega)] at this
    simpa using this
  · rintro rfl i hi
    have hi' : i < q := by simpa using hi
    rw [key i hi']
    simp
/-- a slice's bytes -/
structure Bys (h : Heap) (s : Sl) (l : List UInt8) : Prop where
  len : s.len = l.length
  at_ : Reads h s.base (l.map bv)
theorem Bys.ext {h h' : Heap} {s : Sl} {l : List UInt8} (hb : Bys h s l) (he : Ext h h') : Bys h' s l := ⟨hb.len, he.reads hb.at_⟩
theorem Bys.get {h : Heap} {s : Sl} {l : List UInt8} (hb : Bys h s l) {i : Nat} (hi : i < l.length) : ∃ a, s.base = some a ∧ hcell h (a.add i) = some (bv l[i]) := by
  rcases hb.at_ with h1 | ⟨a, ha, hc⟩
  · simp at h1; subst h1; simp at hi
  · exact ⟨a, ha, hc i _ (by simp [List.getElem?_eq_getElem hi])⟩
theorem Bys.nil (h : Heap) : Bys h Sl.nil [] := ⟨rfl, .inl rfl⟩
/-- a number's low byte -/
def u8 (n : Int) : UInt8 := UInt8.ofNat (n % 256).toNat
theorem wrap_u8 (n : Int) : IntKind.wrap .u8 n = ((u8 n).toNat : Int) := by
  have e : IntKind.wrap .u8 n = n % 256 := by simp [IntKind.wrap, IntKind.signed, IntKind.bits]
  rw [e]
  simp [u8, UInt8.toNat_ofNat']
  omega
theorem u8_toNat (n : Int) : ((u8 n).toNat : Int) = n % 256 := by
  simp [u8, UInt8.toNat_ofNat']
  omega
end Gx
