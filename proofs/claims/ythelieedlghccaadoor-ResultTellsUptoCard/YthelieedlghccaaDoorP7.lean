/- Own proofs: what those Lean programs compute. No condition. -/
import Derived.Test.YthelieedlghccaaDoorP0
import Derived.Test.YthelieedlghccaaDoorP1
import Derived.Test.YthelieedlghccaaDoorP2
import Derived.Test.YthelieedlghccaaDoorP3
import Derived.Test.YthelieedlghccaaDoorP4
import Derived.Test.YthelieedlghccaaDoorP5
import Derived.Test.YthelieedlghccaaDoorP6
import Derived.Shelf.SlSortCmp.NoneTotal
set_option linter.unusedVariables false
set_option linter.unusedSimpArgs false
namespace Gx
open Go
set_option linter.unusedVariables false
set_option linter.unusedSimpArgs false
/-! ### Values, and how they stand in the heap -/
abbrev bs (l : List UInt8) : ByteArray := ⟨l.toArray⟩
inductive Vl where
  | mk (k n : Int) (s : List UInt8) (l : List Vl)
def Vl.k : Vl → Int | .mk k _ _ _ => k
def Vl.n : Vl → Int | .mk _ n _ _ => n
def Vl.s : Vl → List UInt8 | .mk _ _ s _ => s
def Vl.l : Vl → List Vl | .mk _ _ _ l => l
instance : Inhabited Vl := ⟨.mk 0 0 [] []⟩
def I64 (n : Int) : Prop := -9223372036854775808 ≤ n ∧ n ≤ 9223372036854775807
def vcells (k n : Int) (s : List UInt8) (x : Sl) : Array Value := #[.int .i64 k, .int .i64 n, .string (bs s), x.v]
mutual
def VRep (h : Heap) : Vl → Array Value → Prop
  | .mk k n s l, cs => ∃ x : Sl, cs = vcells k n s x ∧ I64 k ∧ I64 n ∧ s.length ≤ 9223372036854775807 ∧ (x.len = l.length ∧ x.len ≤ x.cap ∧ x.len ≤ 9223372036854775807 ∧ VsAt h l x.base 0)
def VsAt (h : Heap) : List Vl → Option Addr → Nat → Prop
  | [], _, _ => True
  | v :: l, b, i => (∃ a cs, b = some a ∧ cs.size = 4 ∧ (∀ j, j < 4 → hcell h (a.add (i * 4 + j)) = cs[j]?) ∧ VRep h v cs) ∧ VsAt h l b (i + 1)
end
/-- a slice of values -/
structure VsRep (h : Heap) (x : Sl) (l : List Vl) : Prop where
  len : x.len = l.length
  cap : x.len ≤ x.cap
  big : x.len ≤ 9223372036854775807
  at_ : VsAt h l x.base 0
theorem VRep.eq {h : Heap} {k n : Int} {s : List UInt8} {l : List Vl} {cs : Array Value} : VRep h (.mk k n s l) cs ↔ ∃ x : Sl, cs = vcells k n s x ∧ I64 k ∧ I64 n ∧ s.length ≤ 9223372036854775807 ∧ VsRep h x l := by
  rw [VRep]
  constructor
  · rintro ⟨x, h1, h2, h3, h4, h5, h6, h7, h8⟩; exact ⟨x, h1, h2, h3, h4, h5, h6, h7, h8⟩
  · rintro ⟨x, h1, h2, h3, h4, h5, h6, h7, h8⟩; exact ⟨x, h1, h2, h3, h4, h5, h6, h7, h8⟩
theorem VRep.size {h : Heap} : ∀ {v : Vl} {cs : Array Value}, VRep h v cs → cs.size = 4
  | .mk _ _ _ _, cs, H => by obtain ⟨x, rfl, _⟩ := VRep.eq.1 H; rfl
theorem VRep.one {h : Heap} : ∀ {v : Vl} {cs : Array Value}, VRep h v cs → ∀ u ∈ cs.toList, Gx.one u = true
  | .mk _ _ _ _, cs, H => by
    obtain ⟨x, rfl, _⟩ := VRep.eq.1 H
    intro u hu
    simp only [vcells, List.mem_cons, List.not_mem_nil, or_false] at hu
    rcases hu with rfl | rfl | rfl | rfl <;> first | rfl | exact one_v _
theorem VsAt.get {h : Heap} : ∀ {l : List Vl} {b : Option Addr} {i : Nat}, VsAt h l b i → ∀ {j : Nat} (hj : j < l.length), ∃ a cs, b = some a ∧ cs.size = 4 ∧ (∀ m, m < 4 → hcell h (a.add ((i + j) * 4 + m)) = cs[m]?) ∧ VRep h l[j] cs
  | [], _, _, _, j, hj => by simp at hj
  | v :: l, b, i, H, 0, hj => by rw [VsAt] at H; exact H.1
  | v :: l, b, i, H, j + 1, hj => by
    rw [VsAt] at H
    have := VsAt.get H.2 (j := j) (by simpa using hj)
    rw [show i + (j + 1) = i + 1 + j by omega]
    exact this
theorem VsAt.of {h : Heap} : ∀ {l : List Vl} {b : Option Addr} {i : Nat}, (∀ j (hj : j < l.length), ∃ a cs, b = some a ∧ cs.size = 4 ∧ (∀ m, m < 4 → hcell h (a.add ((i + j) * 4 + m)) = cs[m]?) ∧ VRep h l[j] cs) → VsAt h l b i
  | [], _, _, _ => by rw [VsAt]; trivial
  | v :: l, b, i, H => by
    rw [VsAt]
    refine ⟨H 0 (by simp), VsAt.of (fun j hj => ?_)⟩
    have := H (j + 1) (by simpa using hj)
    rw [show i + 1 + j = i + (j + 1) by omega]
    exact this
theorem VsRep.get {h : Heap} {x : Sl} {l : List Vl} (H : VsRep h x l) {j : Nat} (hj : j < l.length) : ∃ a cs, x.base = some a ∧ cs.size = 4 ∧ (∀ m, m < 4 → hcell h (a.add (j * 4 + m)) = cs[m]?) ∧ VRep h l[j] cs := by
  have := H.at_.get hj
  rw [Nat.zero_add] at this
  exact this
theorem Ext.row {h h' : Heap} (e : Ext h h') {a : Addr} {cs : Array Value} {i n : Nat} (hs : cs.size = n) (H : ∀ m, m < n → hcell h (a.add (i + m)) = cs[m]?) : ∀ m, m < n → hcell h' (a.add (i + m)) = cs[m]? := fun m hm => by
  have h1 : cs[m]? = some (cs[m]'(by omega)) := Array.getElem?_eq_getElem (by omega)
  rw [h1]
  exact e.cell (by rw [H m hm, h1])
theorem vrep_ext {h h' : Heap} (e : Ext h h') : ∀ (m : Nat) (v : Vl) (cs : Array Value), sizeOf v < m → VRep h v cs → VRep h' v cs := by
  intro m
  induction m with
  | zero => intro v cs hm; omega
  | succ m ih =>
    rintro ⟨k, n, s, l⟩ cs hm H
    obtain ⟨x, h1, h2, h3, h4, h5⟩ := VRep.eq.1 H
    refine VRep.eq.2 ⟨x, h1, h2, h3, h4, h5.len, h5.cap, h5.big, VsAt.of (fun j hj => ?_)⟩
    obtain ⟨a, cs', ha, hs, hc, hv⟩ := h5.at_.get hj
    refine ⟨a, cs', ha, hs, e.row hs hc, ih _ _ ?_ hv⟩
    have := List.sizeOf_lt_of_mem (List.getElem_mem hj)
    simp only [Vl.mk.sizeOf_spec] at hm
    omega
theorem VRep.ext {h h' : Heap} {v : Vl} {cs : Array Value} (H : VRep h v cs) (e : Ext h h') : VRep h' v cs := vrep_ext e _ v cs (Nat.lt_succ_self _) H
theorem VsRep.ext {h h' : Heap} {x : Sl} {l : List Vl} (H : VsRep h x l) (e : Ext h h') : VsRep h' x l :=
  ⟨H.len, H.cap, H.big, VsAt.of (fun j hj => by
    obtain ⟨a, cs', ha, hs, hc, hv⟩ := H.at_.get hj
    exact ⟨a, cs', ha, hs, e.row hs hc, hv.ext e⟩)⟩
theorem VsRep.nil (h : Heap) : VsRep h Sl.nil [] := ⟨rfl, Nat.le_refl _, by decide, by rw [VsAt]; trivial⟩
/-! ### How values stand -/
def cmpI (a b : Int) : Int := if a < b then -1 else if b < a then 1 else 0
def cOr (a b : Int) : Int := if a = 0 then b else a
mutual
def cmpV : Vl → Vl → Int
  | .mk k n s l, .mk k' n' s' l' => cOr (cmpI k k') (cOr (cmpI n n') (cOr (Lib.compareBytes s s') (cmpVs l l')))
def cmpVs : List Vl → List Vl → Int
  | [], [] => 0
  | [], _ :: _ => -1
  | _ :: _, [] => 1
  | a :: l, b :: l' => cOr (cmpV a b) (cmpVs l l')
end
/-- a block that holds a value -/
theorem mkV_b {β : Type} {t : TypeId} {h : Heap} {Q : β → Heap → Prop} {cs : Array Value} {f : Addr → M β} (H : ∀ h', Ext h h' → h'.size = h.size + 1 → h'[h.size]? = some (.cells cs t (0, 0)) → (f ⟨h.size, 0, none⟩).wp h' Q) : (mkB t cs >>= f).wp h Q :=
  mkB_b (H _ (Ext.push _ _) (by simp) get_push_eq)
theorem blk_cell {h : Heap} {b i : Nat} {cs : Array Value} {t : TypeId} {z : Nat × Nat} (hb : h[b]? = some (.cells cs t z)) : hcell h ((⟨b, 0, none⟩ : Addr).add i) = cs[i]? := by
  rw [add_mk, Nat.zero_add, hcell_blk hb]
theorem ccompare_spec {a b : Int} {h : Heap} {Q : Int → Heap → Prop} (H : Q (cmpI a b) h) : (cmp_Compare_int a b).wp h Q := by
  unfold cmp_Compare_int cmp_isNaN_int
  refine pure_b (pure_b (iteF (by simp) (iteF (by simp) ?_)))
  unfold cmpI at H
  refine ite_w (fun hc => ?_) (fun hc => ?_)
  · rw [if_pos (of_decide_eq_true hc)] at H; exact H
  · rw [if_neg (of_decide_eq_false hc)] at H
    refine ite_w (fun hc => ?_) (fun hc => ?_)
    · rw [if_pos (of_decide_eq_true hc)] at H; exact H
    · rw [if_neg (of_decide_eq_false hc)] at H; exact H
theorem ccompare64_spec {a b : Int} {h : Heap} {Q : Int → Heap → Prop} (H : Q (cmpI a b) h) : (cmp_Compare_int64 a b).wp h Q := by
  unfold cmp_Compare_int64 cmp_isNaN_int64
  refine pure_b (pure_b (iteF (by simp) (iteF (by simp) ?_)))
  unfold cmpI at H
  refine ite_w (fun hc => ?_) (fun hc => ?_)
  · rw [if_pos (of_decide_eq_true hc)] at H; exact H
  · rw [if_neg (of_decide_eq_false hc)] at H
    refine ite_w (fun hc => ?_) (fun hc => ?_)
    · rw [if_pos (of_decide_eq_true hc)] at H; exact H
    · rw [if_neg (of_decide_eq_false hc)] at H; exact H
/-- what cmp.Or says of numbers -/
def cOrs : List Int → Int
  | [] => 0
  | a :: l => cOr a (cOrs l)
theorem cor_spec {t : TypeId} {b n : Nat} {zs : List Int} {h : Heap} {Q : Int → Heap → Prop} (hb : h[b]? = some (.cells (zs.map (Value.int .i64)).toArray t (0, 0))) (hn : n = zs.length) (hz : zs.length ≤ 1000) (H : Q (cOrs zs) h) : (cmp_Or_int ⟨some ⟨b, 0, none⟩, n, n⟩).wp h Q := by
  subst hn
  unfold cmp_Or_int
  refine M.loop_inv (fun (t : Int) h' => h' = h ∧ ∃ i : Nat, t = (i : Int) ∧ i ≤ zs.length ∧ cOrs (zs.drop i) = cOrs zs) (fun t _ => ((zs.length : Int) - t).toNat) ?_ ⟨rfl, 0, rfl, Nat.zero_le _, by simp⟩
  rintro t h' ⟨rfl, i, rfl, hi, hd⟩ self hself
  unfold cmp_Or_int_l1
  refine ite_w (fun hc => ?_) (fun hc => ?_)
  · have hlt : i < zs.length := by have := of_decide_eq_true hc; dsimp only at this; omega
    refine ixL_b (by omega) (by dsimp only; omega) rfl ?_
    refine ldI_b (n := zs[i]) (by rw [show (i : Int).toNat * 1 = i by omega, blk_cell hb]; simp [hlt]) ?_
    rw [List.drop_eq_getElem_cons hlt, cOrs] at hd
    refine ite_w (fun hne => ?_) (fun heq => ?_)
    · have hne : zs[i] ≠ 0 := by simpa using hne
      rw [cOr, if_neg hne] at hd
      rw [← hd] at H
      exact pure_w H
    · have heq : zs[i] = 0 := by simpa using heq
      rw [cOr, if_pos heq] at hd
      rw [w64 (by omega) (by omega)]
      exact hself _ _ ⟨rfl, i + 1, by simp, by omega, hd⟩ (by omega)
  · have hge : i = zs.length := by have := of_decide_eq_false hc; dsimp only at this; omega
    subst hge
    rw [List.drop_length] at hd
    have hd : (0 : Int) = cOrs zs := hd
    rw [← hd] at H
    exact pure_w H
theorem cmpVs_drop_end {l l' : List Vl} : cmpVs l l' = (if l.length < l'.length then -1 else 0) ∨ True := .inr trivial
/-- slices.CompareFunc: what stands behind place i -/
theorem comparefunc_spec {l l' : List Vl} {h : Heap} {Q : Int → Heap → Prop} {x y : Sl} {g : Value} (hx : VsRep h x l) (hy : VsRep h y l')
    (hg : ∀ j (hj : j < l.length) (hj' : j < l'.length) h1 c c' (Q1 : Int → Heap → Prop), Ext h h1 → VRep h1 l[j] c → VRep h1 l'[j] c' → (∀ h2, Ext h1 h2 → Q1 (cmpV l[j] l'[j]) h2) → (callV Go.Proofs.Tryd.prog (fun r : Int => .int .i64 r) g [.agg c, .agg c']).wp h1 Q1)
    (H : ∀ h', Ext h h' → Q (cmpVs l l') h') : (slices_CompareFunc_slapi_Value_slapi_Value_api_Value_api_Value x y g).wp h Q := by
  unfold slices_CompareFunc_slapi_Value_slapi_Value_api_Value_api_Value
  have hxl := hx.len
  have hyl := hy.len
  have hxb := hx.big
  have hyb := hy.big
  have hxc := hx.cap
  have hyc := hy.cap
  refine M.loop_inv (fun (t : Int) h' => Ext h h' ∧ ∃ i : Nat, t = (i : Int) ∧ i ≤ l.length ∧ i ≤ l'.length ∧ cmpVs (l.drop i) (l'.drop i) = cmpVs l l') (fun t _ => ((l.length : Int) - t).toNat) ?_ ⟨Ext.refl h, 0, rfl, Nat.zero_le _, Nat.zero_le _, by simp⟩
  rintro t h' ⟨E, i, rfl, hi, hi', hd⟩ self hself
  unfold slices_CompareFunc_slapi_Value_slapi_Value_api_Value_api_Value_l1
  rw [hxl, hyl]
  refine ite_w (fun hc => ?_) (fun hc => ?_)
  · have hlt : i < l.length := by have := of_decide_eq_true hc; omega
    obtain ⟨a, c, ha, hs, hcs, hv⟩ := (hx.ext E).get hlt
    refine ixL_b (by omega) (by rw [hxl]; omega) ha (ldG_b hs (fun j hj => by rw [Addr.add_add, show (i : Int).toNat * 4 = i * 4 by omega]; exact hcs j hj) (mkV_b (fun h1 e1 s1 g1 => ?_)))
    refine need_b hs (stR (vs := c) g1 (by rw [hs]; decide) hv.one (fun h2 u2 g2 => ?_))
    have E2 : Ext h' h2 := e1.upd u2 (Nat.le_refl _)
    rw [lay_full (by rw [Array.length_toList, hs]; rfl), Array.toArray_toList] at g2
    refine ite_w (fun hge => ?_) (fun hlt' => ?_)
    · have hge : i = l'.length := by have := of_decide_eq_true hge; omega
      subst hge
      rw [List.drop_length, List.drop_eq_getElem_cons hlt, cmpVs] at hd
      have := H _ (E.trans E2)
      rw [← hd] at this
      exact pure_w this
    · have hlt' : i < l'.length := by have := of_decide_eq_false hlt'; omega
      obtain ⟨a', c', ha', hs', hcs', hv'⟩ := (hy.ext (E.trans E2)).get hlt'
      refine ixL_b (by omega) (by rw [hyl]; omega) ha' (ldG_b hs' (fun j hj => by rw [Addr.add_add, show (i : Int).toNat * 4 = i * 4 by omega]; exact hcs' j hj) (mkV_b (fun h3 e3 s3 g3 => ?_)))
      refine need_b hs' (stR (vs := c') g3 (by rw [hs']; decide) hv'.one (fun h4 u4 g4 => ?_))
      have E4 : Ext h2 h4 := e3.upd u4 (Nat.le_refl _)
      rw [lay_full (by rw [Array.length_toList, hs']; rfl), Array.toArray_toList] at g4
      have g2' := E4.blk g2
      refine ldG_b hs (fun j hj => by rw [blk_cell g2']) (ldG_b hs' (fun j hj => by rw [blk_cell g4]) ?_)
      have E' := (E.trans E2).trans E4
      refine bind_w (hg i hlt hlt' h4 c c' _ E' ((hv.ext E2).ext E4) (hv'.ext E4) (fun h5 e5 => ?_))
      rw [List.drop_eq_getElem_cons hlt, List.drop_eq_getElem_cons hlt', cmpVs] at hd
      refine ite_w (fun hne => ?_) (fun heq => ?_)
      · have hne : cmpV l[i] l'[i] ≠ 0 := by simpa using hne
        rw [cOr, if_neg hne] at hd
        rw [hd]
        exact pure_w (H _ (E'.trans e5))
      · have heq : cmpV l[i] l'[i] = 0 := by simpa using heq
        rw [cOr, if_pos heq] at hd
        rw [w64 (by omega) (by omega)]
        exact hself _ _ ⟨E'.trans e5, i + 1, by simp, by omega, by omega, hd⟩ (by omega)
  · have hge : i = l.length := by have := of_decide_eq_false hc; omega
    subst hge
    rw [List.drop_length] at hd
    refine ite_w (fun hlt => ?_) (fun hge => ?_)
    · have hlt : l.length < l'.length := by have := of_decide_eq_true hlt; omega
      rw [List.drop_eq_getElem_cons hlt, cmpVs] at hd
      have := H _ E
      rw [← hd] at this
      exact pure_w this
    · have hge : l'.length = l.length := by have := of_decide_eq_false hge; omega
      rw [← hge, List.drop_length, cmpVs] at hd
      have := H _ E
      rw [← hd] at this
      exact pure_w this
theorem vcompare_aux : ∀ (m : Nat) (a b : Vl) {h : Heap} {Q : Int → Heap → Prop} {x y : Array Value}, sizeOf a < m → VRep h a x → VRep h b y → (∀ h', Ext h h' → Q (cmpV a b) h') → (value_Compare x y).wp h Q := by
  intro m
  induction m with
  | zero => intro a b h Q x y hm; omega
  | succ m ih =>
    rintro ⟨k, n, s, l⟩ ⟨k', n', s', l'⟩ h Q x y hm hx hy H
    obtain ⟨xs, rfl, k1, n1, s1, r1⟩ := VRep.eq.1 hx
    obtain ⟨ys, rfl, k2, n2, s2, r2⟩ := VRep.eq.1 hy
    unfold value_Compare
    refine mkV_b (fun h1 e1 z1 g1 => mkV_b (fun h2 e2 z2 g2 => ?_))
    have g1' := e2.blk g1
    have E := e1.trans e2
    have c0 : hcell h2 ((⟨h.size, 0, none⟩ : Addr).add 0) = some (.int .i64 k) := by rw [blk_cell g1']; rfl
    have c1 : hcell h2 ((⟨h.size, 0, none⟩ : Addr).add 1) = some (.int .i64 n) := by rw [blk_cell g1']; rfl
    have c2 : hcell h2 ((⟨h.size, 0, none⟩ : Addr).add 2) = some (.string (bs s)) := by rw [blk_cell g1']; rfl
    have c3 : hcell h2 ((⟨h.size, 0, none⟩ : Addr).add 3) = some xs.v := by rw [blk_cell g1']; rfl
    have d0 : hcell h2 ((⟨h1.size, 0, none⟩ : Addr).add 0) = some (.int .i64 k') := by rw [blk_cell g2]; rfl
    have d1 : hcell h2 ((⟨h1.size, 0, none⟩ : Addr).add 1) = some (.int .i64 n') := by rw [blk_cell g2]; rfl
    have d2 : hcell h2 ((⟨h1.size, 0, none⟩ : Addr).add 2) = some (.string (bs s')) := by rw [blk_cell g2]; rfl
    have d3 : hcell h2 ((⟨h1.size, 0, none⟩ : Addr).add 3) = some ys.v := by rw [blk_cell g2]; rfl
    refine ldI_b (n := k) c0 (ldI_b (n := k') d0 (ldI_b (n := n) c1 (ldI_b (n := n') d1 (ldS_b (n := bs s) c2 (ldS_b (n := bs s') d2 (ldL_b (n := xs) c3 (ldL_b (n := ys) d3 ?_)))))))
    refine bind_w (ccompare_spec (chk_b ⟨c0, d0, c1, d1, c2, d2, c3, d3⟩ ?_))
    refine bind_w (ccompare64_spec (chk_b ⟨c0, d0, c1, d1, c2, d2, c3, d3⟩ ?_))
    unfold strings_Compare internal_bytealg_CompareString
    refine bind_w (pure_b (pure_w (chk_b ⟨c0, d0, c1, d1, c2, d2, c3, d3⟩ ?_)))
    simp only [Vl.mk.sizeOf_spec] at hm
    refine bind_w (comparefunc_spec (r1.ext E) (r2.ext E) (fun j hj hj' h3 c c' Q1 e3 hv hv' hq => ?_) (fun h3 e3 => ?_))
    · refine callV_f cl_value_Compare (S_value_Compare _ _) (ih _ _ ?_ hv hv' hq)
      have := List.sizeOf_lt_of_mem (List.getElem_mem hj)
      omega
    · refine bdL_b ?_
      have e4 := Ext.push h3 (.cells #[Value.int .i64 (cmpI k k'), .int .i64 (cmpI n n'), .int .i64 (Lib.compareBytes (bs s).data.toList (bs s').data.toList), .int .i64 (cmpVs l l')] ty_int)
      refine bind_w (cor_spec (zs := [cmpI k k', cmpI n n', Lib.compareBytes s s', cmpVs l l']) (t := ty_int) ?_ rfl (by simp) (pure_w ?_))
      · exact get_push_eq
      · have := H _ ((E.trans e3).trans e4)
        rw [cmpV] at this
        have hz : ∀ a : Int, cOr a 0 = a := fun a => by unfold cOr; split <;> simp_all
        simpa [cOrs, hz] using this
theorem vcompare_spec {a b : Vl} {h : Heap} {Q : Int → Heap → Prop} {x y : Array Value} (hx : VRep h a x) (hy : VRep h b y) (H : ∀ h', Ext h h' → Q (cmpV a b) h') : (value_Compare x y).wp h Q := vcompare_aux _ a b (Nat.lt_succ_self _) hx hy H
end Gx
namespace Gx
open Go
set_option linter.unusedVariables false
set_option linter.unusedSimpArgs false
/-! ### Strings -/
theorem bs_size (l : List UInt8) : (bs l).size = l.length := by simp [bs, ByteArray.size]
theorem bs_get? (l : List UInt8) (i : Nat) : (bs l)[i]? = l[i]? := by
  rcases Nat.lt_or_ge i l.length with h | h
  · rw [List.getElem?_eq_getElem h]
    have : i < (bs l).size := by rw [bs_size]; exact h
    rw [getElem?_pos (bs l) i this]
    rfl
  · rw [List.getElem?_eq_none h]
    have : ¬ i < (bs l).size := by rw [bs_size]; omega
    rw [getElem?_neg (bs l) i this]
theorem bs_toList (l : List UInt8) : (bs l).toList = l := by rw [ByteArray.toList_eq]
theorem sEq_bs (a b : List UInt8) : sEq (bs a) (bs b) = decide (a = b) := by
  unfold sEq
  rw [bs_toList, bs_toList, Bool.eq_iff_iff]
  simp
theorem bs_empty : ByteArray.empty = bs [] := rfl
theorem ixS_b {β : Type} {h : Heap} {Q : β → Heap → Prop} {l : List UInt8} {i : Nat} {t : Int} {f : Int → M β} (ht : t = (i : Int)) (hi : i < l.length) (H : (f (l[i].toNat : Int)).wp h Q) : (ixS (bs l) t >>= f).wp h Q :=
  ⟨_, ⟨by omega, l[i], by subst ht; rw [Int.toNat_natCast, bs_get?, List.getElem?_eq_getElem hi], rfl⟩, H⟩
/-- a value of a slice -/
theorem ixV_b {β : Type} {h : Heap} {Q : β → Heap → Prop} {x : Sl} {l : List Vl} {i : Nat} {t : Int} {f : Addr → M β} (H : VsRep h x l) (hi : i < l.length) (ht : t = (i : Int))
    (hq : ∀ a c, c.size = 4 → (∀ m, m < 4 → hcell h (a.add m) = c[m]?) → VRep h l[i] c → (f a).wp h Q) : (ixL x t 4 >>= f).wp h Q := by
  obtain ⟨a, c, ha, hs, hcs, hv⟩ := H.get hi
  have := H.len
  subst ht
  refine ixL_b (by omega) (by omega) ha (hq _ c hs (fun m hm => ?_) hv)
  rw [Addr.add_add, show (i : Int).toNat * 4 = i * 4 by omega]
  exact hcs m hm
theorem rnum_spec {a b : Int} {h : Heap} {Q : Int → Heap → Prop} (H : Q (cmpI a b) h) : (rambleref02_num a b).wp h Q := by
  unfold rambleref02_num
  unfold cmpI at H
  refine ite_w (fun hc => ?_) (fun hc => ?_)
  · rw [if_pos (of_decide_eq_true hc)] at H; exact H
  · rw [if_neg (of_decide_eq_false hc)] at H
    refine ite_w (fun hc => ?_) (fun hc => ?_)
    · rw [if_pos (of_decide_eq_true hc)] at H; exact H
    · rw [if_neg (of_decide_eq_false hc)] at H; exact H
theorem u8_lt_int {a b : UInt8} : (a < b) ↔ ((a.toNat : Int) < (b.toNat : Int)) := by
  rw [UInt8.lt_iff_toNat_lt]; omega
theorem compareBytes_cons (a b : UInt8) (s t : List UInt8) : Lib.compareBytes (a :: s) (b :: t) = if a = b then Lib.compareBytes s t else cmpI (a.toNat : Int) (b.toNat : Int) := by
  rw [Lib.compareBytes]
  unfold cmpI
  have h1 := @u8_lt_int a b
  have h2 := @u8_lt_int b a
  by_cases he : a = b
  · subst he
    rw [if_pos rfl, if_neg (by rw [h1]; omega), if_neg (by rw [h1]; omega)]
  · have hne : a.toNat ≠ b.toNat := fun h => he (UInt8.toNat_inj.1 h)
    rw [if_neg he]
    by_cases hlt : a < b
    · rw [if_pos hlt, if_pos (h1.1 hlt)]
    · rw [if_neg hlt, if_neg (fun h => hlt (h1.2 h))]
      have : b < a := by rw [h2]; rw [h1] at hlt; omega
      rw [if_pos this, if_pos (h2.1 this)]
theorem rtext_spec {s t : List UInt8} {h : Heap} {Q : Int → Heap → Prop} (hs : s.length ≤ 9223372036854775807) (ht : t.length ≤ 9223372036854775807) (H : Q (Lib.compareBytes s t) h) : (rambleref02_text (bs s) (bs t)).wp h Q := by
  unfold rambleref02_text
  refine M.loop_inv (fun (x : Int) h' => h' = h ∧ ∃ i : Nat, x = (i : Int) ∧ i ≤ s.length ∧ i ≤ t.length ∧ Lib.compareBytes (s.drop i) (t.drop i) = Lib.compareBytes s t) (fun x _ => ((s.length : Int) - x).toNat) ?_ ⟨rfl, 0, rfl, Nat.zero_le _, Nat.zero_le _, by simp⟩
  rintro x h' ⟨rfl, i, rfl, hi, hi', hd⟩ self hself
  unfold rambleref02_text_l1
  rw [bs_size, bs_size]
  have fin : ¬ (i < s.length ∧ i < t.length) → (rambleref02_num (s.length : Int) (t.length : Int)).wp h' (fun r h1 => (M.pure r : M Int).wp h1 Q) := fun hno => by
    refine rnum_spec (pure_w ?_)
    have : cmpI (s.length : Int) (t.length : Int) = Lib.compareBytes s t := by
      rw [← hd]
      unfold cmpI
      rcases Nat.lt_or_ge i s.length with h1 | h1
      · have h2 : i = t.length := by omega
        subst h2
        rw [List.drop_eq_getElem_cons h1, List.drop_length, Lib.compareBytes, if_neg (by omega), if_pos (by omega)]
      · have h2 : i = s.length := by omega
        subst h2
        rw [List.drop_length]
        rcases Nat.lt_or_ge s.length t.length with h3 | h3
        · rw [List.drop_eq_getElem_cons h3, Lib.compareBytes, if_pos (by omega)]
        · have : t.length = s.length := by omega
          rw [← this, List.drop_length, Lib.compareBytes, if_neg (by omega), if_neg (by omega)]
    rw [this]
    exact H
  refine bind_w (ite_w (fun h1 => ?_) (fun h1 => ?_))
  · have h1 : i < s.length := by have := of_decide_eq_true h1; omega
    refine pure_w (ite_w (fun h2 => ?_) (fun h2 => ?_))
    · have h2 : i < t.length := by have := of_decide_eq_true h2; omega
      rw [List.drop_eq_getElem_cons h1, List.drop_eq_getElem_cons h2, compareBytes_cons] at hd
      refine ixS_b rfl h1 (ixS_b rfl h2 (ite_w (fun hne => ?_) (fun heq => ?_)))
      · have hne : s[i] ≠ t[i] := fun h => by rw [h] at hne; simp at hne
        rw [if_neg hne] at hd
        have b1 := s[i].toNat_lt
        have b2 := t[i].toNat_lt
        refine ixS_b rfl h1 (ixS_b rfl h2 ?_)
        rw [w64 (by omega) (by omega), w64 (by omega) (by omega)]
        refine bind_w (rnum_spec (pure_w ?_))
        rw [hd]; exact H
      · have heq' : ((s[i].toNat : Int)) = t[i].toNat := by simpa using heq
        have heq : s[i] = t[i] := UInt8.toNat_inj.1 (by omega)
        rw [if_pos heq] at hd
        rw [w64 (by omega) (by omega)]
        exact hself _ _ ⟨rfl, i + 1, by simp, by omega, by omega, hd⟩ (by omega)
    · have h2 : ¬ i < t.length := by have := of_decide_eq_false h2; omega
      exact bind_w (fin (fun h => h2 h.2))
  · have h1 : ¬ i < s.length := by have := of_decide_eq_false h1; omega
    exact pure_w (iteF rfl (bind_w (fin (fun h => h1 h.1))))
theorem rcompare_aux : ∀ (m : Nat) (a b : Vl) {h : Heap} {Q : Int → Heap → Prop} {x y : Array Value}, sizeOf a < m → VRep h a x → VRep h b y → (∀ h', Ext h h' → Q (cmpV a b) h') → (rambleref02_Compare x y).wp h Q := by
  intro m
  induction m with
  | zero => intro a b h Q x y hm; omega
  | succ m ih =>
    rintro ⟨k, n, s, l⟩ ⟨k', n', s', l'⟩ h Q x y hm hx hy H
    obtain ⟨xs, rfl, k1, n1, s1, r1⟩ := VRep.eq.1 hx
    obtain ⟨ys, rfl, k2, n2, s2, r2⟩ := VRep.eq.1 hy
    simp only [Vl.mk.sizeOf_spec] at hm
    have hxl := r1.len
    have hyl := r2.len
    have hxb := r1.big
    have hyb := r2.big
    have hxc := r1.cap
    have hyc := r2.cap
    unfold rambleref02_Compare
    refine mkV_b (fun h1 e1 z1 g1 => mkV_b (fun h2 e2 z2 g2 => ?_))
    have g1' := e2.blk g1
    have E := e1.trans e2
    rw [cmpV] at H
    refine ldI_b (n := k) (by rw [blk_cell g1']; rfl) (ldI_b (n := k') (by rw [blk_cell g2]; rfl) (bind_w (rnum_spec ?_)))
    refine ite_w (fun hne => ?_) (fun heq => ?_)
    · have hne : cmpI k k' ≠ 0 := by simpa using hne
      have := H _ E
      rw [cOr, if_neg hne] at this
      exact pure_w this
    have heq : cmpI k k' = 0 := by simpa using heq
    rw [cOr, if_pos heq] at H
    refine ldI_b (n := n) (by rw [blk_cell g1']; rfl) (ldI_b (n := n') (by rw [blk_cell g2]; rfl) (bind_w (rnum_spec ?_)))
    refine ite_w (fun hne => ?_) (fun heq => ?_)
    · have hne : cmpI n n' ≠ 0 := by simpa using hne
      have := H _ E
      rw [cOr, if_neg hne] at this
      exact pure_w this
    have heq : cmpI n n' = 0 := by simpa using heq
    rw [cOr, if_pos heq] at H
    refine ldS_b (n := bs s) (by rw [blk_cell g1']; rfl) (ldS_b (n := bs s') (by rw [blk_cell g2]; rfl) (bind_w (rtext_spec s1 s2 ?_)))
    refine ite_w (fun hne => ?_) (fun heq => ?_)
    · have hne : Lib.compareBytes s s' ≠ 0 := by simpa using hne
      have := H _ E
      rw [cOr, if_neg hne] at this
      exact pure_w this
    have heq : Lib.compareBytes s s' = 0 := by simpa using heq
    rw [cOr, if_pos heq] at H
    refine M.loop_inv (fun (t : Int) h' => Ext h2 h' ∧ ∃ i : Nat, t = (i : Int) ∧ i ≤ l.length ∧ i ≤ l'.length ∧ cmpVs (l.drop i) (l'.drop i) = cmpVs l l') (fun t _ => ((l.length : Int) - t).toNat) ?_ ⟨Ext.refl h2, 0, rfl, Nat.zero_le _, Nat.zero_le _, by simp⟩
    rintro t h' ⟨E', i, rfl, hi, hi', hd⟩ self hself
    have f1 := E'.blk g1'
    have f2 := E'.blk g2
    have c3 : hcell h' ((⟨h.size, 0, none⟩ : Addr).add 3) = some xs.v := by rw [blk_cell f1]; rfl
    have d3 : hcell h' ((⟨h1.size, 0, none⟩ : Addr).add 3) = some ys.v := by rw [blk_cell f2]; rfl
    have EE := E.trans E'
    have fin : ¬ (i < l.length ∧ i < l'.length) → (ldL ((⟨h.size, 0, none⟩ : Addr).add 3) >>= fun x63_48 => ldL ((⟨h1.size, 0, none⟩ : Addr).add 3) >>= fun x66_49 => rambleref02_num (x63_48.len : Int) (x66_49.len : Int) >>= fun x68_50 => M.pure x68_50).wp h' Q := fun hno => by
      refine ldL_b (n := xs) c3 (ldL_b (n := ys) d3 (bind_w (rnum_spec (pure_w ?_))))
      have : cmpI (xs.len : Int) (ys.len : Int) = cmpVs l l' := by
        rw [← hd, hxl, hyl]
        unfold cmpI
        rcases Nat.lt_or_ge i l.length with h1 | h1
        · have h2 : i = l'.length := by omega
          subst h2
          rw [List.drop_eq_getElem_cons h1, List.drop_length, cmpVs, if_neg (by omega), if_pos (by omega)]
        · have h2 : i = l.length := by omega
          subst h2
          rw [List.drop_length]
          rcases Nat.lt_or_ge l.length l'.length with h3 | h3
          · rw [List.drop_eq_getElem_cons h3, cmpVs, if_pos (by omega)]
          · have : l'.length = l.length := by omega
            rw [← this, List.drop_length, cmpVs, if_neg (by omega), if_neg (by omega)]
      rw [this]
      exact H _ EE
    unfold rambleref02_Compare_l1
    refine ldL_b (n := xs) c3 (bind_w (ite_w (fun h3 => ?_) (fun h3 => ?_)))
    · have h3 : i < l.length := by have := of_decide_eq_true h3; omega
      refine ldL_b (n := ys) d3 (pure_w (ite_w (fun h4 => ?_) (fun h4 => ?_)))
      · have h4 : i < l'.length := by have := of_decide_eq_true h4; omega
        rw [List.drop_eq_getElem_cons h3, List.drop_eq_getElem_cons h4, cmpVs] at hd
        refine ldL_b (n := xs) c3 (ixV_b (r1.ext EE) h3 rfl (fun a c hs hcs hv => ldG_b hs hcs (ldL_b (n := ys) d3 (ixV_b (r2.ext EE) h4 rfl (fun a' c' hs' hcs' hv' => ldG_b hs' hcs' ?_)))))
        refine bind_w (callF_w (S_rambleref02_Compare _ _) (ih _ _ ?_ hv hv' (fun h5 e5 => ?_)))
        · have := List.sizeOf_lt_of_mem (List.getElem_mem h3)
          omega
        refine ite_w (fun hne => ?_) (fun heq => ?_)
        · have hne : cmpV l[i] l'[i] ≠ 0 := by simpa using hne
          rw [cOr, if_neg hne] at hd
          rw [hd]
          exact pure_w (H _ (EE.trans e5))
        · have heq : cmpV l[i] l'[i] = 0 := by simpa using heq
          rw [cOr, if_pos heq] at hd
          rw [w64 (by omega) (by omega)]
          exact hself _ _ ⟨E'.trans e5, i + 1, by simp, by omega, by omega, hd⟩ (by omega)
      · have h4 : ¬ i < l'.length := by have := of_decide_eq_false h4; omega
        exact fin (fun h => h4 h.2)
    · have h3 : ¬ i < l.length := by have := of_decide_eq_false h3; omega
      exact pure_w (iteF rfl (fin (fun h => h3 h.1)))
theorem rcompare_spec {a b : Vl} {h : Heap} {Q : Int → Heap → Prop} {x y : Array Value} (hx : VRep h a x) (hy : VRep h b y) (H : ∀ h', Ext h h' → Q (cmpV a b) h') : (rambleref02_Compare x y).wp h Q := rcompare_aux _ a b (Nat.lt_succ_self _) hx hy H
theorem ldV_b {β : Type} {h : Heap} {Q : β → Heap → Prop} {b : Nat} {t : TypeId} {z : Nat × Nat} {v : Vl} {cs : Array Value} {f : Array Value → M β} (hb : h[b]? = some (.cells cs t z)) (hv : cs.size = 4) (H : (f cs).wp h Q) : (ldG 4 ⟨b, 0, none⟩ >>= f).wp h Q :=
  ldG_b hv (fun i _ => by rw [blk_cell hb]) H
theorem vsame_spec {a b : Vl} {h : Heap} {Q : Bool → Heap → Prop} {x y : Array Value} (hx : VRep h a x) (hy : VRep h b y) (H : ∀ h', Ext h h' → Q (decide (cmpV a b = 0)) h') : (value_Same x y).wp h Q := by
  unfold value_Same
  refine mkV_b (fun h1 e1 z1 g1 => mkV_b (fun h2 e2 z2 g2 => ?_))
  have E := e1.trans e2
  refine ldV_b (v := a) (e2.blk g1) hx.size (ldV_b (v := b) g2 hy.size (bind_w (vcompare_spec (hx.ext E) (hy.ext E) (fun h3 e3 => pure_w ?_))))
  have := H _ (E.trans e3)
  rwa [show (cmpV a b == 0) = decide (cmpV a b = 0) from rfl]
theorem rsame_spec {a b : Vl} {h : Heap} {Q : Bool → Heap → Prop} {x y : Array Value} (hx : VRep h a x) (hy : VRep h b y) (H : ∀ h', Ext h h' → Q (decide (cmpV a b = 0)) h') : (rambleref02_Same x y).wp h Q := by
  unfold rambleref02_Same
  refine mkV_b (fun h1 e1 z1 g1 => mkV_b (fun h2 e2 z2 g2 => ?_))
  have E := e1.trans e2
  refine ldV_b (v := a) (e2.blk g1) hx.size (ldV_b (v := b) g2 hy.size (bind_w (rcompare_spec (hx.ext E) (hy.ext E) (fun h3 e3 => pure_w ?_))))
  have := H _ (E.trans e3)
  rwa [show (cmpV a b == 0) = decide (cmpV a b = 0) from rfl]
end Gx
namespace Gx
open Go
set_option linter.unusedVariables false
set_option linter.unusedSimpArgs false
/-! ### Which values may be -/
def risesL : List Vl → Bool
  | a :: _ :: c :: r => decide (cmpV a c < 0) && risesL (c :: r)
  | _ => true
def bareV (s : List UInt8) (l : List Vl) : Bool := decide (s = []) && l.isEmpty
def mayV : Nat → Vl → Bool
  | 0, _ => false
  | d + 1, .mk k n s l =>
    if k = 1 then bareV s l
    else if k = 3 then bareV s l && (decide (n = 0) || decide (n = 1))
    else if k = 6 ∨ k = 7 then bareV s l && decide (1 ≤ n) && decide (n ≤ 281474976710656)
    else if k = 2 then decide (n = 0) && l.isEmpty && decide (s.length ≤ 128)
    else if k = 4 then decide (l.length ≤ 256) && (decide (n = 0) && decide (s = []) && l.all (mayV d))
    else if k = 5 then decide (l.length ≤ 512) && decide (l.length % 2 = 0) && risesL l && (decide (n = 0) && decide (s = []) && l.all (mayV d))
    else false
theorem and_b {β : Type} {h : Heap} {Q : β → Heap → Prop} {b c : Bool} {m : M Bool} {f : Bool → M β} (hm : b = true → ∀ Q' : Bool → Heap → Prop, Q' c h → m.wp h Q') (H : (f (b && c)).wp h Q) : (M.ite b m (M.pure false) >>= f).wp h Q := by
  cases b with
  | true => exact hm rfl _ H
  | false => exact H
theorem or_b {β : Type} {h : Heap} {Q : β → Heap → Prop} {b c : Bool} {m : M Bool} {f : Bool → M β} (hm : b = false → ∀ Q' : Bool → Heap → Prop, Q' c h → m.wp h Q') (H : (f (b || c)).wp h Q) : (M.ite b (M.pure true) m >>= f).wp h Q := by
  cases b with
  | true => exact H
  | false => exact hm rfl _ H
theorem len0 {n : Nat} {l : List Vl} (h : n = l.length) : ((n : Int) == 0) = l.isEmpty := by
  subst h
  cases l with
  | nil => rfl
  | cons a l => simp; omega
theorem sEq0 (s : List UInt8) : sEq (bs s) ByteArray.empty = decide (s = []) := by rw [bs_empty, sEq_bs]
theorem eqI (a b : Int) : (a == b) = decide (a = b) := rfl
/-- slices.ContainsFunc -/
theorem vcontains_spec {h : Heap} {Q : Bool → Heap → Prop} {x : Sl} {l : List Vl} {g : Value} {p : Vl → Bool} (hx : VsRep h x l)
    (hg : ∀ j (hj : j < l.length) h1 c (Q1 : Bool → Heap → Prop), Ext h h1 → VRep h1 l[j] c → (∀ h2, Ext h1 h2 → Q1 (p l[j]) h2) → (callV Go.Proofs.Tryd.prog (fun r : Bool => .bool r) g [.agg c]).wp h1 Q1)
    (H : ∀ h', Ext h h' → Q (l.any p) h') : (slices_ContainsFunc_slapi_Value_api_Value x g).wp h Q := by
  unfold slices_ContainsFunc_slapi_Value_api_Value slices_IndexFunc_slapi_Value_api_Value
  have hxl := hx.len
  have hxb := hx.big
  have hxc := hx.cap
  refine bind_w (M.loop_inv (fun (t : Int) h' => Ext h h' ∧ ∃ i : Nat, t = (i : Int) ∧ i ≤ l.length ∧ (l.drop i).any p = l.any p) (fun t _ => ((l.length : Int) - t).toNat) ?_ ⟨Ext.refl h, 0, rfl, Nat.zero_le _, by simp⟩)
  rintro t h' ⟨E, i, rfl, hi, hd⟩ self hself
  unfold slices_IndexFunc_slapi_Value_api_Value_l1
  refine ite_w (fun hc => ?_) (fun hc => ?_)
  · have hlt : i < l.length := by have := of_decide_eq_true hc; omega
    rw [List.drop_eq_getElem_cons hlt, List.any_cons] at hd
    refine ixV_b (hx.ext E) hlt rfl (fun a c hs hcs hv => ldG_b hs hcs (bind_w (hg i hlt h' c _ E hv (fun h2 e2 => ?_))))
    refine ite_w (fun ht => pure_w (pure_w ?_)) (fun hf => ?_)
    · rw [ht] at hd
      rw [show decide ((i : Int) ≥ 0) = l.any p by rw [← hd]; simp]
      exact H _ (E.trans e2)
    · rw [hf, Bool.false_or] at hd
      rw [w64 (by omega) (by omega)]
      exact hself _ _ ⟨E.trans e2, i + 1, by simp, by omega, hd⟩ (by omega)
  · have hge : i = l.length := by have := of_decide_eq_false hc; omega
    subst hge
    rw [List.drop_length] at hd
    refine pure_w (pure_w ?_)
    rw [show decide ((-1 : Int) ≥ 0) = l.any p by rw [← hd]; rfl]
    exact H _ E
theorem rises_step {l : List Vl} {i : Nat} (h2 : 2 ≤ i) (hi : i < l.length) : risesL (l.drop (i - 2)) = (decide (cmpV (l[i - 2]'(by omega)) l[i] < 0) && risesL (l.drop i)) := by
  rw [List.drop_eq_getElem_cons (show i - 2 < l.length by omega), List.drop_eq_getElem_cons (show i - 2 + 1 < l.length by omega)]
  have e : i - 2 + 1 + 1 = i := by omega
  simp only [e]
  rw [List.drop_eq_getElem_cons hi, risesL]
theorem rises_end {l : List Vl} {i : Nat} (h2 : 2 ≤ i) (hi : l.length ≤ i) : risesL (l.drop (i - 2)) = true := by
  have hl : (l.drop (i - 2)).length ≤ 2 := by rw [List.length_drop]; omega
  match h : l.drop (i - 2), hl with
  | [], _ => rfl
  | [_], _ => rfl
  | [_, _], _ => rfl
theorem any_not (l : List Vl) (p : Vl → Bool) : (!l.any fun x => !p x) = l.all p := by
  induction l with
  | nil => rfl
  | cons a l ih => simp [List.any_cons, List.all_cons, ← ih]
theorem vmay_spec : ∀ (d : Nat) (v : Vl) {h : Heap} {Q : Bool → Heap → Prop} {x : Array Value}, d ≤ 8 → VRep h v x → (∀ h', Ext h h' → Q (mayV d v) h') → (value_may x ((9 - d : Nat) : Int)).wp h Q := by
  intro d
  induction d with
  | zero =>
    rintro v h Q x _ hx H
    unfold value_may
    refine mkV_b (fun h1 e1 z1 g1 => mkV_b (fun h2 e2 z2 g2 => ?_))
    refine ldI_b (n := ((9 - 0 : Nat) : Int)) (by rw [show (⟨h1.size, 0, none⟩ : Addr) = (⟨h1.size, 0, none⟩ : Addr).add 0 from rfl, blk_cell g2]; rfl) (iteT rfl (pure_w (H _ (e1.trans e2))))
  | succ d ih =>
    rintro ⟨k, n, s, l⟩ h Q x hd hx H
    obtain ⟨xs, rfl, k1, n1, s1, r1⟩ := VRep.eq.1 hx
    have hxl := r1.len
    have hxb := r1.big
    have hxc := r1.cap
    unfold value_may
    refine mkV_b (fun h1 e1 z1 g1 => mkV_b (fun h2 e2 z2 g2 => ?_))
    have g1' := e2.blk g1
    have E := e1.trans e2
    have c0 : hcell h2 ((⟨h.size, 0, none⟩ : Addr).add 0) = some (.int .i64 k) := by rw [blk_cell g1']; rfl
    have c1 : hcell h2 ((⟨h.size, 0, none⟩ : Addr).add 1) = some (.int .i64 n) := by rw [blk_cell g1']; rfl
    have c2 : hcell h2 ((⟨h.size, 0, none⟩ : Addr).add 2) = some (.string (bs s)) := by rw [blk_cell g1']; rfl
    have c3 : hcell h2 ((⟨h.size, 0, none⟩ : Addr).add 3) = some xs.v := by rw [blk_cell g1']; rfl
    have cd : hcell h2 ⟨h1.size, 0, none⟩ = some (.int .i64 ((9 - (d + 1) : Nat) : Int)) := by rw [show (⟨h1.size, 0, none⟩ : Addr) = (⟨h1.size, 0, none⟩ : Addr).add 0 from rfl, blk_cell g2]; rfl
    have H2 : Q (mayV (d + 1) (.mk k n s l)) h2 := H _ E
    unfold mayV at H H2
    refine ldI_b cd (iteF (by simp; omega) (ldS_b c2 (and_b (c := l.isEmpty) (fun _ Q' hq => ldL_b c3 (pure_w (by rw [len0 hxl]; exact hq))) ?_)))
    rw [sEq0]
    have hb : (decide (s = []) && l.isEmpty) = bareV s l := rfl
    rw [hb]
    -- the last part: what stands within
    have tail : (∀ h', Ext h h' → Q (decide (n = 0) && decide (s = []) && l.all (mayV d)) h') → ∀ h3, Ext h2 h3 → (value_may_j1 ⟨h.size, 0, none⟩ ⟨h1.size, 0, none⟩).wp h3 Q := fun HT h3 e3 => by
      unfold value_may_j1
      refine ldI_b (e3.cell c1) (and_b (c := decide (s = [])) (fun _ Q' hq => ldS_b (e3.cell c2) (pure_w (by rw [sEq0]; exact hq))) ?_)
      rw [eqI]
      cases hns : (decide (n = 0) && decide (s = [])) with
      | false =>
        have := HT h3 (E.trans e3)
        rw [hns] at this
        exact pure_b (pure_w this)
      | true =>
        rw [hns] at HT
        refine bind_w (iteT rfl (ldL_b (e3.cell c3) (bind_w (vcontains_spec (p := fun x => !mayV d x) (r1.ext (E.trans e3)) (fun j hj h4 c Q1 e4 hv hq => ?_) (fun h4 e4 => pure_w (pure_w ?_))))))
        · refine callV_f cl_value_may_1 (S_value_may_1 _ _) ?_
          unfold value_may_1
          refine mkV_b (fun h5 e5 z5 g5 => ldV_b (v := l[j]) g5 hv.size (ldI_b (e5.cell (e4.cell (e3.cell cd))) ?_))
          rw [show IntKind.wrap .i64 (((9 - (d + 1) : Nat) : Int) + 1) = ((9 - d : Nat) : Int) by rw [w64 (by omega) (by omega)]; omega]
          exact bind_w (ih _ (by omega) (hv.ext e5) (fun h6 e6 => pure_w (hq _ (e5.trans e6))))
        · rw [any_not]
          exact HT _ ((E.trans e3).trans e4)
    refine ldI_b c0 (ite_w (fun h1k => ?_) (fun h1k => ?_))
    · have h1k : k = 1 := by simpa using h1k
      rw [if_pos h1k] at H2
      exact pure_w H2
    have h1k : ¬ k = 1 := by simpa using h1k
    rw [if_neg h1k] at H2
    simp only [if_neg h1k] at H
    refine ite_w (fun h3k => ?_) (fun h3k => ?_)
    · have h3k : k = 3 := by simpa using h3k
      rw [if_pos h3k] at H2
      refine and_b (c := (decide (n = 0) || decide (n = 1))) (fun _ Q' hq => ldI_b c1 (or_b (c := decide (n = 1)) (fun _ Q'' hq' => ldI_b c1 (pure_w hq')) (pure_w hq))) (pure_w H2)
    have h3k : ¬ k = 3 := by simpa using h3k
    rw [if_neg h3k] at H2
    simp only [if_neg h3k] at H
    have j2 : (value_may_j2 ⟨h.size, 0, none⟩ ⟨h1.size, 0, none⟩ (bareV s l) k (decide (k = 6 ∨ k = 7))).wp h2 Q := by
      unfold value_may_j2
      refine ite_w (fun h67 => ?_) (fun h67 => ?_)
      · rw [if_pos (of_decide_eq_true h67)] at H2
        refine and_b (c := decide (1 ≤ n)) (fun _ Q' hq => ldI_b c1 (pure_w hq)) (and_b (c := decide (n ≤ 281474976710656)) (fun _ Q' hq => ldI_b c1 (pure_w hq)) (pure_w H2))
      rw [if_neg (of_decide_eq_false h67)] at H2
      simp only [if_neg (of_decide_eq_false h67)] at H
      refine ite_w (fun h2k => ?_) (fun h2k => ?_)
      · have h2k : k = 2 := by simpa using h2k
        rw [if_pos h2k] at H2
        refine ldI_b c1 (and_b (c := l.isEmpty) (fun _ Q' hq => ldL_b c3 (pure_w (by rw [len0 hxl]; exact hq))) (and_b (c := decide (s.length ≤ 128)) (fun _ Q' hq => ldS_b c2 (pure_w (by rw [show decide (((bs s).size : Int) ≤ 128) = decide (s.length ≤ 128) by rw [bs_size, Bool.eq_iff_iff]; simp only [decide_eq_true_eq]; omega]; exact hq))) (pure_w ?_)))
        exact H2
      have h2k : ¬ k = 2 := by simpa using h2k
      rw [if_neg h2k] at H2
      simp only [if_neg h2k] at H
      refine ite_w (fun h4k => ?_) (fun h4k => ?_)
      · have h4k : k = 4 := by simpa using h4k
        rw [if_pos h4k] at H2
        simp only [if_pos h4k] at H
        refine ldL_b c3 (ite_w (fun hbig => ?_) (fun hsm => ?_))
        · have : ¬ l.length ≤ 256 := by have := of_decide_eq_true hbig; omega
          rw [decide_eq_false this, Bool.false_and] at H2
          exact pure_w H2
        · have : l.length ≤ 256 := by have := of_decide_eq_false hsm; omega
          simp only [decide_eq_true this, Bool.true_and] at H
          exact tail H h2 (Ext.refl _)
      have h4k : ¬ k = 4 := by simpa using h4k
      rw [if_neg h4k] at H2
      simp only [if_neg h4k] at H
      refine ite_w (fun h5k => ?_) (fun h5k => ?_)
      · have h5k : k = 5 := by simpa using h5k
        rw [if_pos h5k] at H2
        simp only [if_pos h5k] at H
        have hodd : ((Int.tmod (xs.len : Int) 2) == 1) = !decide (l.length % 2 = 0) := by
          rw [hxl, Int.tmod_eq_emod_of_nonneg (by omega), Bool.eq_iff_iff]
          simp
          omega
        refine ldL_b c3 (or_b (c := !decide (l.length % 2 = 0)) (fun _ Q' hq => ldL_b c3 (pure_w (by rw [hodd]; exact hq))) ?_)
        have hbig : decide ((xs.len : Int) > 512) = !decide (l.length ≤ 512) := by
          rw [hxl, Bool.eq_iff_iff]; simp; omega
        rw [hbig]
        cases h512 : decide (l.length ≤ 512) with
        | false => rw [h512] at H2; exact iteT rfl (pure_w (by simpa using H2))
        | true =>
          cases heven : decide (l.length % 2 = 0) with
          | false => rw [h512, heven] at H2; exact iteT rfl (pure_w (by simpa using H2))
          | true =>
            simp only [h512, heven, Bool.true_and] at H
            refine iteF rfl ?_
            refine M.loop_inv (fun (t : Int) h' => Ext h2 h' ∧ ∃ i : Nat, t = (i : Int) ∧ 2 ≤ i ∧ i ≤ l.length + 2 ∧ risesL (l.drop (i - 2)) = risesL l) (fun t _ => ((l.length : Int) + 2 - t).toNat) ?_ ⟨Ext.refl h2, 2, rfl, Nat.le_refl _, by omega, by simp⟩
            rintro t h' ⟨E', i, rfl, hi2, hi, hd'⟩ self hself
            unfold value_may_l1
            have hl512 := of_decide_eq_true h512
            refine ldL_b (E'.cell c3) (ite_w (fun hc => ?_) (fun hc => ?_))
            · have hlt : i < l.length := by have := of_decide_eq_true hc; omega
              rw [rises_step hi2 hlt] at hd'
              have EE := E.trans E'
              refine ldL_b (E'.cell c3) (ixV_b (i := i - 2) (r1.ext EE) (by omega) (by rw [w64 (by omega) (by omega)]; omega) (fun a c hs hcs hv => ldG_b hs hcs (ldL_b (E'.cell c3) (ixV_b (r1.ext EE) hlt rfl (fun a' c' hs' hcs' hv' => ldG_b hs' hcs' ?_)))))
              refine bind_w (vcompare_spec hv hv' (fun h3 e3 => ?_))
              refine ite_w (fun hge => ?_) (fun hlt' => ?_)
              · have hge : ¬ cmpV (l[i - 2]'(by omega)) l[i] < 0 := by have := of_decide_eq_true hge; omega
                rw [decide_eq_false hge, Bool.false_and] at hd'
                have := H _ (EE.trans e3)
                rw [← hd', Bool.false_and] at this
                exact pure_w this
              · have hlt' : cmpV (l[i - 2]'(by omega)) l[i] < 0 := by have := of_decide_eq_false hlt'; omega
                rw [decide_eq_true hlt', Bool.true_and] at hd'
                rw [w64 (by omega) (by omega)]
                exact hself _ _ ⟨E'.trans e3, i + 2, by simp, by omega, by omega, by simpa using hd'⟩ (by omega)
            · have hge : l.length ≤ i := by have := of_decide_eq_false hc; omega
              rw [rises_end hi2 hge] at hd'
              refine tail (fun h3 e3 => ?_) h' E'
              have := H h3 e3
              rw [← hd', Bool.true_and] at this
              exact this
      · have h5k : ¬ k = 5 := by simpa using h5k
        rw [if_neg h5k] at H2
        exact pure_w H2
    refine ite_w (fun h6k => ?_) (fun h6k => ?_)
    · have h6k : k = 6 := by simpa using h6k
      have e : (k == 6) = decide (k = 6 ∨ k = 7) := by subst h6k; rfl
      rw [e]
      exact j2
    · have h6k : ¬ k = 6 := by simpa using h6k
      have e : (k == 7) = decide (k = 6 ∨ k = 7) := by rw [eqI, Bool.eq_iff_iff]; simp [h6k]
      rw [e]
      exact j2
def checkV (v : Vl) : Int := if mayV 8 v = true then 0 else 20
theorem vcheck_spec {v : Vl} {h : Heap} {Q : Int → Heap → Prop} {x : Array Value} (hx : VRep h v x) (H : ∀ h', Ext h h' → Q (checkV v) h') : (value_Check x).wp h Q := by
  unfold value_Check
  refine mkV_b (fun h1 e1 z1 g1 => ldV_b (v := v) g1 hx.size (bind_w (vmay_spec 8 v (Nat.le_refl _) (hx.ext e1) (fun h2 e2 => ?_))))
  have := H _ (e1.trans e2)
  unfold checkV at this
  cases hm : mayV 8 v with
  | true => rw [hm, if_pos rfl] at this; exact iteF rfl (pure_w this)
  | false => rw [hm, if_neg (by simp)] at this; exact iteT rfl (pure_w this)
end Gx
namespace Gx
open Go
set_option linter.unusedVariables false
set_option linter.unusedSimpArgs false
theorem rrises_spec {l : List Vl} {h : Heap} {Q : Bool → Heap → Prop} {x : Sl} (hx : VsRep h x l) (hb : l.length ≤ 9223372036854775000) (H : ∀ h', Ext h h' → Q (risesL l) h') : (rambleref02_rises x).wp h Q := by
  unfold rambleref02_rises
  have hxl := hx.len
  refine M.loop_inv (fun (t : Int) h' => Ext h h' ∧ ∃ i : Nat, t = (i : Int) ∧ 2 ≤ i ∧ i ≤ l.length + 2 ∧ risesL (l.drop (i - 2)) = risesL l) (fun t _ => ((l.length : Int) + 2 - t).toNat) ?_ ⟨Ext.refl h, 2, rfl, Nat.le_refl _, by omega, by simp⟩
  rintro t h' ⟨E, i, rfl, hi2, hi, hd'⟩ self hself
  unfold rambleref02_rises_l1
  rw [hxl]
  refine ite_w (fun hc => ?_) (fun hc => ?_)
  · have hlt : i < l.length := by have := of_decide_eq_true hc; omega
    rw [rises_step hi2 hlt] at hd'
    refine ixV_b (i := i - 2) (hx.ext E) (by omega) (by rw [w64 (by omega) (by omega)]; omega) (fun a c hs hcs hv => ixV_b (hx.ext E) hlt rfl (fun a' c' hs' hcs' hv' => ldG_b hs hcs (ldG_b hs' hcs' ?_)))
    refine bind_w (rcompare_spec hv hv' (fun h3 e3 => ?_))
    refine ite_w (fun hge => ?_) (fun hlt' => ?_)
    · have hge : ¬ cmpV (l[i - 2]'(by omega)) l[i] < 0 := by have := of_decide_eq_true hge; omega
      rw [decide_eq_false hge, Bool.false_and] at hd'
      have := H _ (E.trans e3)
      rw [← hd'] at this
      exact pure_w this
    · have hlt' : cmpV (l[i - 2]'(by omega)) l[i] < 0 := by have := of_decide_eq_false hlt'; omega
      rw [decide_eq_true hlt', Bool.true_and] at hd'
      rw [w64 (by omega) (by omega)]
      exact hself _ _ ⟨E.trans e3, i + 2, by simp, by omega, by omega, by simpa using hd'⟩ (by omega)
  · have hge : l.length ≤ i := by have := of_decide_eq_false hc; omega
    rw [rises_end hi2 hge] at hd'
    have := H _ E
    rw [← hd'] at this
    exact pure_w this
theorem rall_spec {d : Nat} (hd : d ≤ 7) {l : List Vl} {h : Heap} {Q : Bool → Heap → Prop} {x : Sl} (hx : VsRep h x l)
    (hg : ∀ j (hj : j < l.length) h1 c (Q1 : Bool → Heap → Prop), Ext h h1 → VRep h1 l[j] c → (∀ h2, Ext h1 h2 → Q1 (mayV d l[j]) h2) → (rambleref02_may c ((8 - d : Nat) : Int)).wp h1 Q1)
    (H : ∀ h', Ext h h' → Q (l.all (mayV d)) h') : (rambleref02_all x ((8 - (d + 1) : Nat) : Int)).wp h Q := by
  unfold rambleref02_all
  have hxl := hx.len
  have hxb := hx.big
  have hxc := hx.cap
  refine M.loop_inv (fun (t : Int) h' => Ext h h' ∧ ∃ i : Nat, t = (i : Int) ∧ i ≤ l.length ∧ (l.drop i).all (mayV d) = l.all (mayV d)) (fun t _ => ((l.length : Int) - t).toNat) ?_ ⟨Ext.refl h, 0, rfl, Nat.zero_le _, by simp⟩
  rintro t h' ⟨E, i, rfl, hi, hd'⟩ self hself
  unfold rambleref02_all_l1
  rw [hxl]
  refine ite_w (fun hc => ?_) (fun hc => ?_)
  · have hlt : i < l.length := by have := of_decide_eq_true hc; omega
    rw [List.drop_eq_getElem_cons hlt, List.all_cons] at hd'
    refine ixV_b (hx.ext E) hlt rfl (fun a c hs hcs hv => ldG_b hs hcs ?_)
    rw [show IntKind.wrap .i64 (((8 - (d + 1) : Nat) : Int) + 1) = ((8 - d : Nat) : Int) by rw [w64 (by omega) (by omega)]; omega]
    refine bind_w (callF_w (S_rambleref02_may _ _) (hg i hlt h' c _ E hv (fun h2 e2 => ?_)))
    refine ite_w (fun hf => ?_) (fun ht => ?_)
    · have hf : mayV d l[i] = false := by simpa using hf
      rw [hf, Bool.false_and] at hd'
      have := H _ (E.trans e2)
      rw [← hd'] at this
      exact pure_w this
    · have ht : mayV d l[i] = true := by simpa using ht
      rw [ht, Bool.true_and] at hd'
      rw [w64 (by omega) (by omega)]
      exact hself _ _ ⟨E.trans e2, i + 1, by simp, by omega, hd'⟩ (by omega)
  · have hge : i = l.length := by have := of_decide_eq_false hc; omega
    subst hge
    rw [List.drop_length] at hd'
    have := H _ E
    rw [← hd'] at this
    exact pure_w this
theorem rmay_spec : ∀ (d : Nat) (v : Vl) {h : Heap} {Q : Bool → Heap → Prop} {x : Array Value}, d ≤ 8 → VRep h v x → (∀ h', Ext h h' → Q (mayV d v) h') → (rambleref02_may x ((8 - d : Nat) : Int)).wp h Q := by
  intro d
  induction d with
  | zero =>
    rintro v h Q x _ hx H
    unfold rambleref02_may
    exact mkV_b (fun h1 e1 z1 g1 => iteT rfl (pure_w (H _ e1)))
  | succ d ih =>
    rintro ⟨k, n, s, l⟩ h Q x hd hx H
    obtain ⟨xs, rfl, k1, n1, s1, r1⟩ := VRep.eq.1 hx
    have hxl := r1.len
    have hxb := r1.big
    have hxc := r1.cap
    unfold rambleref02_may
    refine mkV_b (fun h1 E z1 g1 => ?_)
    have c0 : hcell h1 ((⟨h.size, 0, none⟩ : Addr).add 0) = some (.int .i64 k) := by rw [blk_cell g1]; rfl
    have c1 : hcell h1 ((⟨h.size, 0, none⟩ : Addr).add 1) = some (.int .i64 n) := by rw [blk_cell g1]; rfl
    have c2 : hcell h1 ((⟨h.size, 0, none⟩ : Addr).add 2) = some (.string (bs s)) := by rw [blk_cell g1]; rfl
    have c3 : hcell h1 ((⟨h.size, 0, none⟩ : Addr).add 3) = some xs.v := by rw [blk_cell g1]; rfl
    have H2 : Q (mayV (d + 1) (.mk k n s l)) h1 := H _ E
    unfold mayV at H H2
    have bare : ∀ {β : Type} {Q' : β → Heap → Prop} {f : Bool → M β}, (f (bareV s l)).wp h1 Q' → (ldS ((⟨h.size, 0, none⟩ : Addr).add 2) >>= fun x => M.ite (sEq x ByteArray.empty) (ldL ((⟨h.size, 0, none⟩ : Addr).add 3) >>= fun y => M.pure ((y.len : Int) == 0)) (M.pure false) >>= f).wp h1 Q' := fun hq => by
      refine ldS_b c2 (and_b (c := l.isEmpty) (fun _ Q' hq => ldL_b c3 (pure_w (by rw [len0 hxl]; exact hq))) ?_)
      rw [sEq0]
      exact hq
    have all : ∀ {Q' : Bool → Heap → Prop}, (∀ h', Ext h1 h' → Q' (l.all (mayV d)) h') → (ldL ((⟨h.size, 0, none⟩ : Addr).add 3) >>= fun y => callF Go.Proofs.Tryd.prog fn_rambleref02_all #[y.v, .int .i64 ((8 - (d + 1) : Nat) : Int)] (fun r : Bool => .bool r) >>= fun r => M.pure r).wp h1 Q' := fun hq =>
      ldL_b c3 (bind_w (callF_w (S_rambleref02_all _ _) (rall_spec (by omega) (r1.ext E) (fun j hj h4 c Q1 e4 hv hq' => ih _ (by omega) hv hq') (fun h2 e2 => pure_w (hq _ e2)))))
    refine iteF (by simp; omega) (ldI_b c0 (ite_w (fun h1k => ?_) (fun h1k => ?_)))
    · have h1k : k = 1 := by simpa using h1k
      rw [if_pos h1k] at H2
      exact bare (pure_w H2)
    have h1k : ¬ k = 1 := by simpa using h1k
    rw [if_neg h1k] at H2
    simp only [if_neg h1k] at H
    refine ite_w (fun h3k => ?_) (fun h3k => ?_)
    · have h3k : k = 3 := by simpa using h3k
      rw [if_pos h3k] at H2
      refine bare (and_b (c := (decide (n = 0) || decide (n = 1))) (fun _ Q' hq => ldI_b c1 (or_b (c := decide (n = 1)) (fun _ Q'' hq' => ldI_b c1 (pure_w hq')) (pure_w hq))) (pure_w H2))
    have h3k : ¬ k = 3 := by simpa using h3k
    rw [if_neg h3k] at H2
    simp only [if_neg h3k] at H
    have j2 : (rambleref02_may_j1 ((8 - (d + 1) : Nat) : Int) ⟨h.size, 0, none⟩ k (decide (k = 6 ∨ k = 7))).wp h1 Q := by
      unfold rambleref02_may_j1
      refine ite_w (fun h67 => ?_) (fun h67 => ?_)
      · rw [if_pos (of_decide_eq_true h67)] at H2
        exact bare (and_b (c := decide (1 ≤ n)) (fun _ Q' hq => ldI_b c1 (pure_w hq)) (and_b (c := decide (n ≤ 281474976710656)) (fun _ Q' hq => ldI_b c1 (pure_w hq)) (pure_w H2)))
      rw [if_neg (of_decide_eq_false h67)] at H2
      simp only [if_neg (of_decide_eq_false h67)] at H
      refine ite_w (fun h2k => ?_) (fun h2k => ?_)
      · have h2k : k = 2 := by simpa using h2k
        rw [if_pos h2k] at H2
        refine ldI_b c1 (and_b (c := l.isEmpty) (fun _ Q' hq => ldL_b c3 (pure_w (by rw [len0 hxl]; exact hq))) (and_b (c := decide (s.length ≤ 128)) (fun _ Q' hq => ldS_b c2 (pure_w (by rw [show decide (((bs s).size : Int) ≤ 128) = decide (s.length ≤ 128) by rw [bs_size, Bool.eq_iff_iff]; simp only [decide_eq_true_eq]; omega]; exact hq))) (pure_w ?_)))
        exact H2
      have h2k : ¬ k = 2 := by simpa using h2k
      rw [if_neg h2k] at H2
      simp only [if_neg h2k] at H
      have zero : ∀ {β : Type} {Q' : β → Heap → Prop} {f : Bool → M β}, (f (decide (n = 0) && decide (s = []))).wp h1 Q' → (ldI .i64 ((⟨h.size, 0, none⟩ : Addr).add 1) >>= fun x => M.ite (x == 0) (ldS ((⟨h.size, 0, none⟩ : Addr).add 2) >>= fun y => M.pure (sEq y ByteArray.empty)) (M.pure false) >>= f).wp h1 Q' := fun hq =>
        ldI_b c1 (and_b (c := decide (s = [])) (fun _ Q' hq => ldS_b c2 (pure_w (by rw [sEq0]; exact hq))) hq)
      refine ite_w (fun h4k => ?_) (fun h4k => ?_)
      · have h4k : k = 4 := by simpa using h4k
        rw [if_pos h4k] at H2
        simp only [if_pos h4k] at H
        refine zero (and_b (c := decide (l.length ≤ 256)) (fun _ Q' hq => ldL_b c3 (pure_w (by rw [show decide ((xs.len : Int) ≤ 256) = decide (l.length ≤ 256) by rw [hxl, Bool.eq_iff_iff]; simp only [decide_eq_true_eq]; omega]; exact hq))) ?_)
        cases hz : (decide (n = 0) && decide (s = [])) with
        | false =>
          rw [hz] at H2
          exact pure_b (pure_w (by simpa using H2))
        | true =>
          cases hl : decide (l.length ≤ 256) with
          | false => rw [hl] at H2; exact pure_b (pure_w (by simpa using H2))
          | true =>
            simp only [hz, hl, Bool.true_and] at H
            exact bind_w (iteT rfl (all (fun h2 e2 => pure_w (H _ (E.trans e2)))))
      have h4k : ¬ k = 4 := by simpa using h4k
      rw [if_neg h4k] at H2
      simp only [if_neg h4k] at H
      refine ite_w (fun h5k => ?_) (fun h5k => ?_)
      · have h5k : k = 5 := by simpa using h5k
        rw [if_pos h5k] at H2
        simp only [if_pos h5k] at H
        have heven : ((Int.tmod (xs.len : Int) 2) == 0) = decide (l.length % 2 = 0) := by
          rw [hxl, Int.tmod_eq_emod_of_nonneg (by omega), Bool.eq_iff_iff]
          simp
          omega
        refine zero (and_b (c := decide (l.length ≤ 512)) (fun _ Q' hq => ldL_b c3 (pure_w (by rw [show decide ((xs.len : Int) ≤ 512) = decide (l.length ≤ 512) by rw [hxl, Bool.eq_iff_iff]; simp only [decide_eq_true_eq]; omega]; exact hq))) ?_)
        refine and_b (c := decide (l.length % 2 = 0)) (fun _ Q' hq => ldL_b c3 (pure_w (by rw [heven]; exact hq))) ?_
        cases hz : (decide (n = 0) && decide (s = [])) with
        | false =>
          rw [hz] at H2
          exact pure_b (pure_b (pure_w (by simpa using H2)))
        | true =>
          cases hl : decide (l.length ≤ 512) with
          | false => rw [hl] at H2; exact pure_b (pure_b (pure_w (by simpa using H2)))
          | true =>
            cases hev : decide (l.length % 2 = 0) with
            | false => rw [hev] at H2; exact pure_b (pure_b (pure_w (by simpa using H2)))
            | true =>
              simp only [hz, hl, hev, Bool.true_and] at H
              refine bind_w (iteT rfl (all (fun h2 e2 => ?_)))
              cases ha : l.all (mayV d) with
              | false =>
                have := H _ (E.trans e2)
                rw [ha, Bool.and_false] at this
                exact pure_b (pure_w this)
              | true =>
                refine bind_w (iteT rfl (ldL_b (e2.cell c3) (bind_w (rrises_spec (r1.ext (E.trans e2)) (by have := of_decide_eq_true hl; omega) (fun h3 e3 => pure_w (pure_w ?_))))))
                have := H _ ((E.trans e2).trans e3)
                rw [ha, Bool.and_true] at this
                exact this
      · have h5k : ¬ k = 5 := by simpa using h5k
        rw [if_neg h5k] at H2
        exact pure_w H2
    refine ite_w (fun h6k => ?_) (fun h6k => ?_)
    · have h6k : k = 6 := by simpa using h6k
      have e : (k == 6) = decide (k = 6 ∨ k = 7) := by subst h6k; rfl
      rw [e]
      exact j2
    · have h6k : ¬ k = 6 := by simpa using h6k
      have e : (k == 7) = decide (k = 6 ∨ k = 7) := by rw [eqI, Bool.eq_iff_iff]; simp [h6k]
      rw [e]
      exact j2
theorem rcheck_spec {v : Vl} {h : Heap} {Q : Int → Heap → Prop} {x : Array Value} (hx : VRep h v x) (H : ∀ h', Ext h h' → Q (checkV v) h') : (rambleref02_Check x).wp h Q := by
  unfold rambleref02_Check
  refine mkV_b (fun h1 e1 z1 g1 => ldV_b (v := v) g1 hx.size (bind_w (rmay_spec 8 v (Nat.le_refl _) (hx.ext e1) (fun h2 e2 => ?_))))
  have := H _ (e1.trans e2)
  unfold checkV at this
  cases hm : mayV 8 v with
  | true => rw [hm, if_pos rfl] at this; exact iteF rfl (pure_w this)
  | false => rw [hm, if_neg (by simp)] at this; exact iteT rfl (pure_w this)
/-- value.Check's error of the first that has one -/
def checkVs : List Vl → Int
  | [] => 0
  | v :: l => if checkV v ≠ 0 then checkV v else checkVs l
theorem vfirst_spec {l : List Vl} {h : Heap} {Q : Int → Heap → Prop} {x : Sl} (hx : VsRep h x l) (H : ∀ h', Ext h h' → Q (checkVs l) h') : (result_first x).wp h Q := by
  unfold result_first
  have hxl := hx.len
  have hxb := hx.big
  have hxc := hx.cap
  refine M.loop_inv (fun (t : Int) h' => Ext h h' ∧ ∃ i : Nat, t = (i : Int) ∧ i ≤ l.length ∧ checkVs (l.drop i) = checkVs l) (fun t _ => ((l.length : Int) - t).toNat) ?_ ⟨Ext.refl h, 0, rfl, Nat.zero_le _, by simp⟩
  rintro t h' ⟨E, i, rfl, hi, hd⟩ self hself
  unfold result_first_l1
  refine ite_w (fun hc => ?_) (fun hc => ?_)
  · have hlt : i < l.length := by have := of_decide_eq_true hc; omega
    rw [List.drop_eq_getElem_cons hlt, checkVs] at hd
    refine ixV_b (hx.ext E) hlt rfl (fun a c hs hcs hv => ldG_b hs hcs (mkV_b (fun h1 e1 z1 g1 => need_b hs (stR (vs := c) g1 (by rw [hs]; decide) hv.one (fun h2 u2 g2 => ?_)))))
    rw [lay_full (by rw [Array.length_toList, hs]; rfl), Array.toArray_toList] at g2
    have E2 : Ext h' h2 := e1.upd u2 (Nat.le_refl _)
    refine ldV_b (v := l[i]) g2 hs (bind_w (vcheck_spec (hv.ext E2) (fun h3 e3 => ?_)))
    refine ite_w (fun hne => ?_) (fun heq => ?_)
    · have hne : checkV l[i] ≠ 0 := by simpa using hne
      rw [if_pos hne] at hd
      rw [hd]
      exact pure_w (H _ ((E.trans E2).trans e3))
    · have heq : checkV l[i] = 0 := by simpa using heq
      rw [if_neg (by simpa using heq)] at hd
      rw [w64 (by omega) (by omega)]
      exact hself _ _ ⟨(E.trans E2).trans e3, i + 1, by simp, by omega, hd⟩ (by omega)
  · have hge : i = l.length := by have := of_decide_eq_false hc; omega
    subst hge
    rw [List.drop_length] at hd
    have := H _ E
    rw [← hd] at this
    exact pure_w this
theorem rcheck23_spec {l : List Vl} {h : Heap} {Q : Int → Heap → Prop} {x : Sl} (hx : VsRep h x l) (H : ∀ h', Ext h h' → Q (checkVs l) h') : (rambleref23_check x).wp h Q := by
  unfold rambleref23_check
  have hxl := hx.len
  have hxb := hx.big
  have hxc := hx.cap
  refine M.loop_inv (fun (t : Int) h' => Ext h h' ∧ ∃ i : Nat, t = (i : Int) ∧ i ≤ l.length ∧ checkVs (l.drop i) = checkVs l) (fun t _ => ((l.length : Int) - t).toNat) ?_ ⟨Ext.refl h, 0, rfl, Nat.zero_le _, by simp⟩
  rintro t h' ⟨E, i, rfl, hi, hd⟩ self hself
  unfold rambleref23_check_l1
  rw [hxl]
  refine ite_w (fun hc => ?_) (fun hc => ?_)
  · have hlt : i < l.length := by have := of_decide_eq_true hc; omega
    rw [List.drop_eq_getElem_cons hlt, checkVs] at hd
    refine ixV_b (hx.ext E) hlt rfl (fun a c hs hcs hv => ldG_b hs hcs (bind_w (rcheck_spec hv (fun h3 e3 => ?_))))
    refine ite_w (fun hne => ?_) (fun heq => ?_)
    · have hne : checkV l[i] ≠ 0 := by simpa using hne
      rw [if_pos hne] at hd
      rw [hd]
      exact pure_w (H _ (E.trans e3))
    · have heq : checkV l[i] = 0 := by simpa using heq
      rw [if_neg (by simpa using heq)] at hd
      rw [w64 (by omega) (by omega)]
      exact hself _ _ ⟨E.trans e3, i + 1, by simp, by omega, hd⟩ (by omega)
  · have hge : i = l.length := by have := of_decide_eq_false hc; omega
    subst hge
    rw [List.drop_length] at hd
    have := H _ E
    rw [← hd] at this
    exact pure_w this
end Gx
namespace Gx
open Go
set_option linter.unusedVariables false
set_option linter.unusedSimpArgs false
/-! ### In which blocks a value stands -/
mutual
def VRepS (S : Nat → Prop) (h : Heap) : Vl → Array Value → Prop
  | .mk k n s l, cs => ∃ x : Sl, cs = vcells k n s x ∧ I64 k ∧ I64 n ∧ s.length ≤ 9223372036854775807 ∧ (x.len = l.length ∧ x.len ≤ x.cap ∧ x.len ≤ 9223372036854775807 ∧ VsAtS S h l x.base 0)
def VsAtS (S : Nat → Prop) (h : Heap) : List Vl → Option Addr → Nat → Prop
  | [], _, _ => True
  | v :: l, b, i => (∃ a cs, b = some a ∧ S a.block ∧ cs.size = 4 ∧ (∀ j, j < 4 → hcell h (a.add (i * 4 + j)) = cs[j]?) ∧ VRepS S h v cs) ∧ VsAtS S h l b (i + 1)
end
structure VsRepS (S : Nat → Prop) (h : Heap) (x : Sl) (l : List Vl) : Prop where
  len : x.len = l.length
  cap : x.len ≤ x.cap
  big : x.len ≤ 9223372036854775807
  at_ : VsAtS S h l x.base 0
theorem VRepS.eq {S : Nat → Prop} {h : Heap} {k n : Int} {s : List UInt8} {l : List Vl} {cs : Array Value} : VRepS S h (.mk k n s l) cs ↔ ∃ x : Sl, cs = vcells k n s x ∧ I64 k ∧ I64 n ∧ s.length ≤ 9223372036854775807 ∧ VsRepS S h x l := by
  rw [VRepS]
  constructor
  · rintro ⟨x, h1, h2, h3, h4, h5, h6, h7, h8⟩; exact ⟨x, h1, h2, h3, h4, h5, h6, h7, h8⟩
  · rintro ⟨x, h1, h2, h3, h4, h5, h6, h7, h8⟩; exact ⟨x, h1, h2, h3, h4, h5, h6, h7, h8⟩
theorem VsAtS.get {S : Nat → Prop} {h : Heap} : ∀ {l : List Vl} {b : Option Addr} {i : Nat}, VsAtS S h l b i → ∀ {j : Nat} (hj : j < l.length), ∃ a cs, b = some a ∧ S a.block ∧ cs.size = 4 ∧ (∀ m, m < 4 → hcell h (a.add ((i + j) * 4 + m)) = cs[m]?) ∧ VRepS S h l[j] cs
  | [], _, _, _, j, hj => by simp at hj
  | v :: l, b, i, H, 0, hj => by rw [VsAtS] at H; exact H.1
  | v :: l, b, i, H, j + 1, hj => by
    rw [VsAtS] at H
    have := VsAtS.get H.2 (j := j) (by simpa using hj)
    rw [show i + (j + 1) = i + 1 + j by omega]
    exact this
theorem VsAtS.of {S : Nat → Prop} {h : Heap} : ∀ {l : List Vl} {b : Option Addr} {i : Nat}, (∀ j (hj : j < l.length), ∃ a cs, b = some a ∧ S a.block ∧ cs.size = 4 ∧ (∀ m, m < 4 → hcell h (a.add ((i + j) * 4 + m)) = cs[m]?) ∧ VRepS S h l[j] cs) → VsAtS S h l b i
  | [], _, _, _ => by rw [VsAtS]; trivial
  | v :: l, b, i, H => by
    rw [VsAtS]
    refine ⟨H 0 (by simp), VsAtS.of (fun j hj => ?_)⟩
    have := H (j + 1) (by simpa using hj)
    rw [show i + 1 + j = i + (j + 1) by omega]
    exact this
theorem VsRepS.get {S : Nat → Prop} {h : Heap} {x : Sl} {l : List Vl} (H : VsRepS S h x l) {j : Nat} (hj : j < l.length) : ∃ a cs, x.base = some a ∧ S a.block ∧ cs.size = 4 ∧ (∀ m, m < 4 → hcell h (a.add (j * 4 + m)) = cs[m]?) ∧ VRepS S h l[j] cs := by
  have := H.at_.get hj
  rw [Nat.zero_add] at this
  exact this
theorem vl_lt {k n : Int} {s : List UInt8} {l : List Vl} {m j : Nat} (hm : sizeOf (Vl.mk k n s l) < m + 1) (hj : j < l.length) : sizeOf l[j] < m := by
  have := List.sizeOf_lt_of_mem (List.getElem_mem hj)
  simp only [Vl.mk.sizeOf_spec] at hm
  omega
theorem vreps_same {S T : Nat → Prop} {h h' : Heap} (e : ∀ b, S b → h'[b]? = h[b]?) (hT : ∀ b, S b → T b) : ∀ (m : Nat) (v : Vl) (cs : Array Value), sizeOf v < m → VRepS S h v cs → VRepS T h' v cs := by
  intro m
  induction m with
  | zero => intro v cs hm; omega
  | succ m ih =>
    rintro ⟨k, n, s, l⟩ cs hm H
    obtain ⟨x, h1, h2, h3, h4, h5⟩ := VRepS.eq.1 H
    refine VRepS.eq.2 ⟨x, h1, h2, h3, h4, h5.len, h5.cap, h5.big, VsAtS.of (fun j hj => ?_)⟩
    obtain ⟨a, cs', ha, hS, hs, hc, hv⟩ := h5.at_.get hj
    refine ⟨a, cs', ha, hT _ hS, hs, fun i hi => ?_, ih _ _ (vl_lt hm hj) hv⟩
    rw [← hc i hi]
    unfold hcell
    rw [add_block, e _ hS]
theorem VRepS.same {S : Nat → Prop} {h h' : Heap} {v : Vl} {cs : Array Value} (H : VRepS S h v cs) (e : ∀ b, S b → h'[b]? = h[b]?) : VRepS S h' v cs := vreps_same e (fun _ h => h) _ v cs (Nat.lt_succ_self _) H
theorem VRepS.mono {S T : Nat → Prop} {h : Heap} {v : Vl} {cs : Array Value} (H : VRepS S h v cs) (e : ∀ b, S b → T b) : VRepS T h v cs := vreps_same (fun _ _ => rfl) e _ v cs (Nat.lt_succ_self _) H
theorem vreps_to {S : Nat → Prop} {h : Heap} : ∀ (m : Nat) (v : Vl) (cs : Array Value), sizeOf v < m → VRepS S h v cs → VRep h v cs := by
  intro m
  induction m with
  | zero => intro v cs hm; omega
  | succ m ih =>
    rintro ⟨k, n, s, l⟩ cs hm H
    obtain ⟨x, h1, h2, h3, h4, h5⟩ := VRepS.eq.1 H
    refine VRep.eq.2 ⟨x, h1, h2, h3, h4, h5.len, h5.cap, h5.big, VsAt.of (fun j hj => ?_)⟩
    obtain ⟨a, cs', ha, hS, hs, hc, hv⟩ := h5.at_.get hj
    exact ⟨a, cs', ha, hs, hc, ih _ _ (vl_lt hm hj) hv⟩
theorem VRepS.to {S : Nat → Prop} {h : Heap} {v : Vl} {cs : Array Value} (H : VRepS S h v cs) : VRep h v cs := vreps_to _ v cs (Nat.lt_succ_self _) H
theorem hcell_lt {h : Heap} {a : Addr} {v : Value} (H : hcell h a = some v) : a.block < h.size := by
  rcases Nat.lt_or_ge a.block h.size with h1 | h1
  · exact h1
  · unfold hcell at H
    rw [Array.getElem?_eq_none h1] at H
    cases H
theorem vrep_lt {h : Heap} : ∀ (m : Nat) (v : Vl) (cs : Array Value), sizeOf v < m → VRep h v cs → VRepS (· < h.size) h v cs := by
  intro m
  induction m with
  | zero => intro v cs hm; omega
  | succ m ih =>
    rintro ⟨k, n, s, l⟩ cs hm H
    obtain ⟨x, h1, h2, h3, h4, h5⟩ := VRep.eq.1 H
    refine VRepS.eq.2 ⟨x, h1, h2, h3, h4, h5.len, h5.cap, h5.big, VsAtS.of (fun j hj => ?_)⟩
    obtain ⟨a, cs', ha, hs, hc, hv⟩ := h5.at_.get hj
    refine ⟨a, cs', ha, ?_, hs, hc, ih _ _ (vl_lt hm hj) hv⟩
    have h0 := hc 0 (by decide)
    rw [Array.getElem?_eq_getElem (by omega)] at h0
    have := hcell_lt h0
    rwa [add_block] at this
theorem VRep.lt {h : Heap} {v : Vl} {cs : Array Value} (H : VRep h v cs) : VRepS (· < h.size) h v cs := vrep_lt _ v cs (Nat.lt_succ_self _) H
theorem VsRepS.to {S : Nat → Prop} {h : Heap} {x : Sl} {l : List Vl} (H : VsRepS S h x l) : VsRep h x l :=
  ⟨H.len, H.cap, H.big, VsAt.of (fun j hj => by obtain ⟨a, cs, h1, h2, h3, h4, h5⟩ := H.at_.get hj; exact ⟨a, cs, h1, h3, h4, h5.to⟩)⟩
theorem VsRepS.same {S T : Nat → Prop} {h h' : Heap} {x : Sl} {l : List Vl} (H : VsRepS S h x l) (e : ∀ b, S b → h'[b]? = h[b]?) (hT : ∀ b, S b → T b) : VsRepS T h' x l :=
  ⟨H.len, H.cap, H.big, VsAtS.of (fun j hj => by
    obtain ⟨a, cs, h1, h2, h3, h4, h5⟩ := H.at_.get hj
    refine ⟨a, cs, h1, hT _ h2, h3, fun i hi => ?_, vreps_same e hT _ _ _ (Nat.lt_succ_self _) h5⟩
    rw [← h4 i hi]
    unfold hcell
    rw [add_block, e _ h2])⟩
theorem VsRep.lt {h : Heap} {x : Sl} {l : List Vl} (H : VsRep h x l) : VsRepS (· < h.size) h x l :=
  ⟨H.len, H.cap, H.big, VsAtS.of (fun j hj => by
    obtain ⟨a, cs, h1, h3, h4, h5⟩ := H.at_.get hj
    refine ⟨a, cs, h1, ?_, h3, h4, h5.lt⟩
    have h0 := h4 0 (by decide)
    rw [Array.getElem?_eq_getElem (by omega)] at h0
    have := hcell_lt h0
    rwa [add_block] at this)⟩
theorem VRepS.size {S : Nat → Prop} {h : Heap} {v : Vl} {cs : Array Value} (H : VRepS S h v cs) : cs.size = 4 := H.to.size
/-- how great a value is -/
def wt : Vl → Nat
  | .mk _ _ s l => 1 + s.length + wts l
where wts : List Vl → Nat
  | [] => 0
  | v :: l => wt v + wts l
theorem wt_pos (v : Vl) : 1 ≤ wt v := by cases v; rw [wt]; omega
theorem wts_len : ∀ l : List Vl, l.length ≤ wt.wts l
  | [] => by simp
  | v :: l => by have := wts_len l; have := wt_pos v; rw [wt.wts, List.length_cons]; omega
theorem wts_mem {l : List Vl} {v : Vl} (h : v ∈ l) : wt v ≤ wt.wts l := by
  induction l with
  | nil => cases h
  | cons x l ih =>
    rw [wt.wts]
    rcases List.mem_cons.1 h with rfl | h
    · omega
    · have := ih h; omega
end Gx
namespace Gx
open Go
set_option linter.unusedVariables false
set_option linter.unusedSimpArgs false
/-! ### Rows of values of one's own -/
def flat4 (css : List (Array Value)) : List Value := css.flatMap Array.toList
def W4 (css : List (Array Value)) : Prop := ∀ c ∈ css, c.size = 4 ∧ ∀ u ∈ c.toList, one u = true
theorem flat4_len : ∀ {css : List (Array Value)}, W4 css → (flat4 css).length = css.length * 4
  | [], _ => rfl
  | c :: r, h => by
    have := flat4_len (css := r) (fun x hx => h x (List.mem_cons_of_mem _ hx))
    have hc := (h c (by simp)).1
    unfold flat4 at this ⊢
    rw [List.flatMap_cons, List.length_append, this, Array.length_toList, hc, List.length_cons]; omega
theorem flat4_get : ∀ {css : List (Array Value)}, W4 css → ∀ (i j : Nat), j < 4 → (flat4 css)[i * 4 + j]? = (css[i]?).bind (fun c => c[j]?)
  | [], _, i, j, _ => by simp [flat4]
  | c :: r, h, i, j, hj => by
    have hc := (h c (by simp)).1
    unfold flat4
    rw [List.flatMap_cons]
    cases i with
    | zero => rw [List.getElem?_append_left (by rw [Array.length_toList]; omega)]; simp
    | succ i =>
      rw [List.getElem?_append_right (by rw [Array.length_toList]; omega), Array.length_toList, hc, show (i + 1) * 4 + j - 4 = i * 4 + j by omega]
      have := flat4_get (css := r) (fun x hx => h x (List.mem_cons_of_mem _ hx)) i j hj
      unfold flat4 at this
      rw [this]; simp
theorem flat4_one {css : List (Array Value)} (h : W4 css) : ∀ v ∈ flat4 css, one v = true := fun v hv => by
  obtain ⟨c, hc, hv⟩ := List.mem_flatMap.1 hv
  exact (h c hc).2 v hv
theorem W4.append {a b : List (Array Value)} (ha : W4 a) (hb : W4 b) : W4 (a ++ b) := fun c hc => (List.mem_append.1 hc).elim (ha c) (hb c)
theorem W4.set {a : List (Array Value)} (ha : W4 a) {i : Nat} {c : Array Value} (hc : c.size = 4) (h1 : ∀ u ∈ c.toList, one u = true) : W4 (a.set i c) := fun x hx => by
  rcases List.mem_or_eq_of_mem_set hx with h | rfl
  · exact ha x h
  · exact ⟨hc, h1⟩
theorem flat4_set : ∀ {css : List (Array Value)}, W4 css → ∀ (i : Nat) (c : Array Value), c.size = 4 → i < css.length → flat4 (css.set i c) = (flat4 css).take (i * 4) ++ c.toList ++ (flat4 css).drop (i * 4 + 4)
  | [], _, i, c, _, hi => by simp at hi
  | x :: r, h, 0, c, hc, _ => by
    have hx := (h x (by simp)).1
    simp only [flat4, List.set_cons_zero, List.flatMap_cons]
    rw [show (0 * 4 + 4) = x.toList.length by rw [Array.length_toList, hx]]
    simp
  | x :: r, h, i + 1, c, hc, hi => by
    have hx := (h x (by simp)).1
    have ih := flat4_set (css := r) (fun y hy => h y (List.mem_cons_of_mem _ hy)) i c hc (by simpa using hi)
    simp only [flat4, List.set_cons_succ, List.flatMap_cons] at ih ⊢
    rw [ih]
    have e1 : (i + 1) * 4 = x.toList.length + i * 4 := by rw [Array.length_toList, hx]; omega
    rw [e1, List.take_length_add_append, show x.toList.length + i * 4 + 4 = x.toList.length + (i * 4 + 4) by omega, List.drop_length_add_append]
    simp
theorem Gw.row4 {lo : Nat} {h : Heap} {r : Sl} {css : List (Array Value)} (G : Gw lo h r 4 (flat4 css)) (hw : W4 css) {i : Nat} (hi : i < css.length) : ∃ b, r.base = some ⟨b, 0, none⟩ ∧ Sl.on r b ∧ ∀ j, j < 4 → hcell h ((⟨b, 0, none⟩ : Addr).add (i * 4 + j)) = css[i][j]? := by
  have hl := flat4_len hw
  rcases G with ⟨rfl, he⟩ | ⟨b, ty, cells, R⟩
  · rw [he] at hl; simp at hl; omega
  · refine ⟨b, R.base, ⟨_, R.base, rfl⟩, fun j hj => ?_⟩
    rw [add_mk, Nat.zero_add, hcell_blk R.blk]
    have h1 := flat4_get hw i j hj
    rw [List.getElem?_eq_getElem hi] at h1
    have hc := (hw _ (List.getElem_mem hi)).1
    have h2 : css[i][j]? = some (css[i][j]'(by omega)) := Array.getElem?_eq_getElem (by omega)
    rw [h2]
    refine R.get _ _ ?_
    rw [h1]
    exact h2
theorem Gw.len4 {lo : Nat} {h : Heap} {r : Sl} {css : List (Array Value)} (G : Gw lo h r 4 (flat4 css)) (hw : W4 css) : r.len = css.length := by
  have := G.len
  rw [flat4_len hw] at this
  omega
/-- a value put into a row of one's own -/
theorem vset_b {β : Type} {lo : Nat} {h : Heap} {Q : β → Heap → Prop} {r : Sl} {css : List (Array Value)} {i : Nat} {t : Int} {c : Array Value} {f : Unit → M β} (G : Gw lo h r 4 (flat4 css)) (hw : W4 css) (hi : i < css.length) (ht : t = (i : Int)) (hc : c.size = 4) (h1 : ∀ u ∈ c.toList, one u = true)
    (H : ∀ b h', r.base = some ⟨b, 0, none⟩ → Upd b h h' → Gw lo h' r 4 (flat4 (css.set i c)) → (f ()).wp h' Q) : (ixL r t 4 >>= fun a => M.need (c.size = 4) >>= fun _ => stG a c >>= f).wp h Q := by
  subst ht
  have hl := G.len4 hw
  obtain ⟨b0, hb0, _, _⟩ := G.row4 hw hi
  rcases G with ⟨rfl, he⟩ | ⟨b, ty, cells, R⟩
  · cases hb0
  · have hsz := R.size
    have hcap := R.cap
    refine ixL_b (by omega) (by omega) R.base (need_b hc ?_)
    rw [add_mk, show 0 + (i : Int).toNat * 4 = i * 4 by omega]
    refine stR (vs := c) R.blk (by omega) h1 (fun h' u g => H b h' R.base u (.inr ⟨b, ty, _, R.base, R.lo, g, by rw [lay_size]; exact R.size, R.cap, ?_, fun j v hj => ?_⟩))
    · rw [flat4_len (hw.set hc h1), List.length_set, hl]
    · rw [flat4_set hw i c hc hi] at hj
      have hfl := flat4_len hw
      rw [← Array.getElem?_toList, lay_toList _ _ _ (by rw [Array.length_toList]; omega), Array.length_toList, hc]
      have hlen1 : ((flat4 css).take (i * 4)).length = i * 4 := by rw [List.length_take]; omega
      have hlen2 : (cells.toList.take (i * 4)).length = i * 4 := by rw [List.length_take, Array.length_toList]; omega
      by_cases h1 : j < i * 4
      · rw [List.append_assoc, List.getElem?_append_left (by omega), List.getElem?_take, if_pos h1] at hj
        rw [List.append_assoc, List.getElem?_append_left (by omega), List.getElem?_take, if_pos h1, Array.getElem?_toList]
        exact R.get j v hj
      · by_cases h2 : j < i * 4 + 4
        · rw [List.append_assoc, List.getElem?_append_right (by omega), hlen1, List.getElem?_append_left (by rw [Array.length_toList, hc]; omega)] at hj
          rw [List.append_assoc, List.getElem?_append_right (by omega), hlen2, List.getElem?_append_left (by rw [Array.length_toList, hc]; omega)]
          exact hj
        · rw [List.getElem?_append_right (by rw [List.length_append, hlen1, Array.length_toList, hc]; omega), List.length_append, hlen1, Array.length_toList, hc, List.getElem?_drop] at hj
          rw [List.getElem?_append_right (by rw [List.length_append, hlen2, Array.length_toList, hc]; omega), List.length_append, hlen2, Array.length_toList, hc, List.getElem?_drop, Array.getElem?_toList]
          exact R.get _ v hj
/-- a row of one's own that holds values: their own blocks are S's -/
structure VGw (lo : Nat) (S : Nat → Prop) (h : Heap) (r : Sl) (css : List (Array Value)) (l : List Vl) : Prop where
  gw : Gw lo h r 4 (flat4 css)
  w4 : W4 css
  len : css.length = l.length
  rep : ∀ j (h1 : j < l.length) (h2 : j < css.length), VRepS S h l[j] css[j]
theorem VGw.nil (lo : Nat) (S : Nat → Prop) (h : Heap) : VGw lo S h Sl.nil [] [] := ⟨Gw.nil _ _ _, fun c hc => (by cases hc), rfl, fun j h1 => (by cases h1)⟩
theorem VGw.rep_ {lo : Nat} {S : Nat → Prop} {h : Heap} {r : Sl} {css : List (Array Value)} {l : List Vl} (G : VGw lo S h r css l) (hl : l.length ≤ 9223372036854775807) : VsRepS (fun b => S b ∨ Sl.on r b) h r l :=
  ⟨by rw [G.gw.len4 G.w4, G.len], G.gw.cap, by rw [G.gw.len4 G.w4, G.len]; exact hl, VsAtS.of (fun j hj => by
    obtain ⟨b, hb, hon, hc⟩ := G.gw.row4 G.w4 (i := j) (by rw [G.len]; exact hj)
    exact ⟨_, css[j]'(by rw [G.len]; exact hj), hb, .inr hon, (G.w4 _ (List.getElem_mem _)).1, fun m hm => by rw [Nat.zero_add]; exact hc m hm, (G.rep j hj (by rw [G.len]; exact hj)).mono (fun b hb => .inl hb)⟩)⟩
theorem VGw.same {lo : Nat} {S : Nat → Prop} {h h' : Heap} {r : Sl} {css : List (Array Value)} {l : List Vl} (G : VGw lo S h r css l) (e1 : ∀ b, Sl.on r b → h'[b]? = h[b]?) (e2 : ∀ b, S b → h'[b]? = h[b]?) : VGw lo S h' r css l :=
  ⟨G.gw.same e1, G.w4, G.len, fun j h1 h2 => (G.rep j h1 h2).same e2⟩
theorem VGw.mono {lo : Nat} {S T : Nat → Prop} {h : Heap} {r : Sl} {css : List (Array Value)} {l : List Vl} (G : VGw lo S h r css l) (e : ∀ b, S b → T b) : VGw lo T h r css l :=
  ⟨G.gw, G.w4, G.len, fun j h1 h2 => (G.rep j h1 h2).mono e⟩
/-- append -/
theorem vap_grow {lo : Nat} {S : Nat → Prop} {h : Heap} {Q : Sl → Heap → Prop} {r x : Sl} {css css' : List (Array Value)} {l l' : List Vl} (G : VGw lo S h r css l) (hlo : lo ≤ h.size) (hS : ∀ b, S b → b < h.size ∧ ¬ Sl.on r b) (hw : W4 css') (hl' : css'.length = l'.length) (hx : x.len = l'.length) (hr : Reads h x.base (flat4 css')) (hv : ∀ j (h1 : j < l'.length) (h2 : j < css'.length), VRepS S h l'[j] css'[j])
    (hm : l.length + l'.length ≤ 2199023255552)
    (hq : ∀ h' r', VGw lo S h' r' (css ++ css') (l ++ l') → h.size ≤ h'.size → (∀ i, i < h.size → ¬ Sl.on r i → h'[i]? = h[i]?) → (∀ i, Sl.on r' i → Sl.on r i ∨ h.size ≤ i) → Q r' h') : (apL ty_api_Value 4 56 (#[.int .i64 0, .int .i64 0, .string ByteArray.empty, .slice none 0 0] : Array Value) r x).wp h Q := by
  have hrl := G.gw.len4 G.w4
  have hgl := G.len
  refine ap_grow (vs := flat4 css) (news := flat4 css') rfl G.gw (by rw [flat4_len hw, hl', hx]) hr (flat4_one hw) (by omega) (by omega) hlo (fun h' r' G' hlen hs same on_ => ?_)
  have he : ∀ b, S b → h'[b]? = h[b]? := fun b hb => same b (hS b hb).1 (hS b hb).2
  refine hq h' r' ⟨?_, G.w4.append hw, by rw [List.length_append, List.length_append, G.len, hl'], fun j h1 h2 => ?_⟩ hs same on_
  · unfold flat4 at G' ⊢
    rw [List.flatMap_append]
    exact G'
  · by_cases hj : j < l.length
    · rw [List.getElem_append_left hj, List.getElem_append_left (by rw [G.len]; exact hj)]
      exact (G.rep j hj _).same he
    · rw [List.getElem_append_right (by omega), List.getElem_append_right (by omega)]
      have h3 : css.length = l.length := G.len
      simp only [h3]
      exact (hv _ (by rw [List.length_append] at h1; omega) _).same he
end Gx
namespace Gx
open Go
set_option linter.unusedVariables false
set_option linter.unusedSimpArgs false
theorem VsAtS.css {S : Nat → Prop} {h : Heap} : ∀ {l : List Vl} {b : Option Addr} {i : Nat}, VsAtS S h l b i → ∃ css : List (Array Value), W4 css ∧ css.length = l.length ∧ (∀ j (h1 : j < l.length) (h2 : j < css.length), VRepS S h l[j] css[j]) ∧ (∀ j (h2 : j < css.length), ∃ a, b = some a ∧ ∀ m, m < 4 → hcell h (a.add ((i + j) * 4 + m)) = css[j][m]?)
  | [], _, _, _ => ⟨[], fun c hc => (by cases hc), rfl, fun j h1 => (by cases h1), fun j h1 => (by cases h1)⟩
  | v :: l, b, i, H => by
    rw [VsAtS] at H
    obtain ⟨⟨a, cs, ha, hS, hs, hc, hv⟩, H2⟩ := H
    obtain ⟨css, h1, h2, h3, h4⟩ := VsAtS.css H2
    refine ⟨cs :: css, ?_, by simp [h2], ?_, ?_⟩
    · intro c hc
      rcases List.mem_cons.1 hc with rfl | hc
      · exact ⟨hs, hv.to.one⟩
      · exact h1 c hc
    · intro j j1 j2
      cases j with
      | zero => exact hv
      | succ j => exact h3 j (by simpa using j1) (by simpa using j2)
    · intro j j2
      cases j with
      | zero => exact ⟨a, ha, hc⟩
      | succ j =>
        obtain ⟨a', ha', h5⟩ := h4 j (by simpa using j2)
        refine ⟨a', ha', fun m hm => ?_⟩
        rw [show i + (j + 1) = i + 1 + j by omega]
        exact h5 m hm
theorem VsRepS.css {S : Nat → Prop} {h : Heap} {x : Sl} {l : List Vl} (H : VsRepS S h x l) : ∃ css : List (Array Value), W4 css ∧ css.length = l.length ∧ (∀ j (h1 : j < l.length) (h2 : j < css.length), VRepS S h l[j] css[j]) ∧ Reads h x.base (flat4 css) := by
  obtain ⟨css, h1, h2, h3, h4⟩ := H.at_.css
  refine ⟨css, h1, h2, h3, ?_⟩
  cases hc : css with
  | nil => exact .inl rfl
  | cons c r =>
    rw [← hc]
    obtain ⟨a, ha, _⟩ := h4 0 (by rw [hc]; simp)
    refine .inr ⟨a, ha, fun n v hn => ?_⟩
    have hlt := (List.getElem?_eq_some_iff.1 hn).1
    rw [flat4_len h1] at hlt
    have hj : n / 4 < css.length := by omega
    obtain ⟨a', ha', h5⟩ := h4 (n / 4) hj
    rw [ha] at ha'; cases ha'
    have h6 := flat4_get h1 (n / 4) (n % 4) (by omega)
    rw [show n / 4 * 4 + n % 4 = n by omega, hn, List.getElem?_eq_getElem hj] at h6
    have h7 := h5 (n % 4) (by omega)
    rw [show (0 + n / 4) * 4 + n % 4 = n by omega] at h7
    rw [h7]
    exact h6.symm
theorem vreps_lt {S : Nat → Prop} {h : Heap} : ∀ (m : Nat) (v : Vl) (cs : Array Value), sizeOf v < m → VRepS S h v cs → VRepS (fun b => S b ∧ b < h.size) h v cs := by
  intro m
  induction m with
  | zero => intro v cs hm; omega
  | succ m ih =>
    rintro ⟨k, n, s, l⟩ cs hm H
    obtain ⟨x, h1, h2, h3, h4, h5⟩ := VRepS.eq.1 H
    refine VRepS.eq.2 ⟨x, h1, h2, h3, h4, h5.len, h5.cap, h5.big, VsAtS.of (fun j hj => ?_)⟩
    obtain ⟨a, cs', ha, hS, hs, hc, hv⟩ := h5.at_.get hj
    refine ⟨a, cs', ha, ⟨hS, ?_⟩, hs, hc, ih _ _ (vl_lt hm hj) hv⟩
    have h0 := hc 0 (by decide)
    rw [Array.getElem?_eq_getElem (by omega)] at h0
    have := hcell_lt h0
    rwa [add_block] at this
theorem VRepS.lt2 {S : Nat → Prop} {h : Heap} {v : Vl} {cs : Array Value} (H : VRepS S h v cs) : VRepS (fun b => S b ∧ b < h.size) h v cs := vreps_lt _ v cs (Nat.lt_succ_self _) H
theorem vcells_one (k n : Int) (s : List UInt8) (x : Sl) : ∀ v ∈ (vcells k n s x).toList, one v = true := fun v hv => by
  simp only [vcells, List.mem_cons, List.not_mem_nil, or_false] at hv
  rcases hv with rfl | rfl | rfl | rfl <;> first | rfl | exact one_v _
/-- a slice's own copy -/
theorem sclone_spec {S : Nat → Prop} {h : Heap} {Q : Sl → Heap → Prop} {x : Sl} {l : List Vl} (hx : VsRepS S h x l) (hS : ∀ b, S b → b < h.size) (hm : l.length ≤ 1099511627776)
    (H : ∀ h' r css, Ext h h' → VGw h.size S h' r css l → Q r h') : (slices_Clone_slapi_Value_api_Value x).wp h Q := by
  unfold slices_Clone_slapi_Value_api_Value
  refine ite_w (fun hn => ?_) (fun hn => ?_)
  · have hb : x.base = none := by simpa using hn
    have hl : l = [] := by
      cases hl : l with
      | nil => rfl
      | cons v r =>
        obtain ⟨a, cs, ha, _⟩ := hx.get (j := 0) (by rw [hl]; simp)
        rw [hb] at ha; cases ha
    subst hl
    exact pure_w (H _ _ _ (Ext.refl _) (VGw.nil _ _ _))
  · refine ⟨zRow (#[.int .i64 0, .int .i64 0, .string ByteArray.empty, .slice none 0 0] : Array Value) 0, rfl, bdL_b ?_⟩
    have e1 := Ext.push h (.cells (zRow (#[.int .i64 0, .int .i64 0, .string ByteArray.empty, .slice none 0 0] : Array Value) 0) ty_api_Value)
    have g1 : (h.push (.cells (zRow (#[.int .i64 0, .int .i64 0, .string ByteArray.empty, .slice none 0 0] : Array Value) 0) ty_api_Value))[h.size]? = some (.cells (zRow (#[.int .i64 0, .int .i64 0, .string ByteArray.empty, .slice none 0 0] : Array Value) 0) ty_api_Value (0, 0)) := get_push_eq
    have hs1 : (h.push (.cells (zRow (#[.int .i64 0, .int .i64 0, .string ByteArray.empty, .slice none 0 0] : Array Value) 0) ty_api_Value)).size = h.size + 1 := by simp
    generalize h.push (.cells (zRow (#[.int .i64 0, .int .i64 0, .string ByteArray.empty, .slice none 0 0] : Array Value) 0) ty_api_Value) = h1 at e1 g1 hs1 ⊢
    obtain ⟨css, w4, hcl, hrep, hrd⟩ := hx.css
    have G1 : VGw h.size S h1 ⟨some ⟨h.size, 0, none⟩, 0, 0⟩ [] [] := ⟨.inr ⟨h.size, _, _, rfl, Nat.le_refl _, g1, zRow_size _ _, Nat.le_refl _, rfl, fun j v hj => (by cases hj)⟩, fun c hc => (by cases hc), rfl, fun j h1 => (by cases h1)⟩
    refine bind_w (vap_grow (l' := l) (css' := css) G1 e1.size (fun b hb => ⟨by have := hS b hb; omega, fun ⟨a, ha, hab⟩ => by cases ha; have : h.size = b := hab; have := hS b hb; omega⟩) w4 hcl hx.len (e1.reads hrd) (fun j h1' h2 => (hrep j h1' h2).same (fun b hb => e1.same b (hS b hb))) (by simp; omega) (fun h2 r G2 hs same on_ => pure_w (H h2 r css ?_ (by simpa using G2))))
    exact ⟨Nat.le_trans e1.size hs, fun i hi => (same i (Nat.lt_of_lt_of_le hi e1.size) (fun ⟨a, ha, hab⟩ => by cases ha; have : h.size = i := hab; omega)).trans (e1.same i hi)⟩
theorem set_cells3 {h : Heap} {b : Nat} {k n : Int} {s : List UInt8} {x y : Sl} {t : TypeId} (hb : h[b]? = some (.cells (vcells k n s x) t (0, 0))) : (hset h ⟨b, 3, none⟩ y.v)[b]? = some (.cells (vcells k n s y) t (0, 0)) := by
  rw [hset_at hb]; rfl
theorem vclone_spec : ∀ (m : Nat) (v : Vl) {h : Heap} {Q : Array Value → Heap → Prop} {x : Array Value}, sizeOf v < m → VRep h v x → wt v ≤ 1099511627776 → (∀ h' c, Ext h h' → VRepS (h.size ≤ ·) h' v c → Q c h') → (value_Clone x).wp h Q := by
  intro m
  induction m with
  | zero => intro v h Q x hm; omega
  | succ m ih =>
    rintro ⟨k, n, s, l⟩ h Q x hm hx hw H
    obtain ⟨xs, rfl, k1, n1, s1, r1⟩ := VRep.eq.1 hx
    rw [wt] at hw
    have hcnt := wts_len l
    unfold value_Clone
    refine mkV_b (fun h1 e1 z1 g1 => mkV_b (fun h2 e2 z2 g2 => ?_))
    have E2 := e1.trans e2
    have g1' := e2.blk g1
    have c3 : hcell h2 ((⟨h.size, 0, none⟩ : Addr).add 3) = some xs.v := by rw [blk_cell g1']; rfl
    have rS : VsRepS (· < h.size) h2 xs l := r1.lt.same (fun b hb => E2.same b hb) (fun _ h => h)
    refine ldL_b c3 (bind_w (sclone_spec rS (fun b hb => Nat.lt_of_lt_of_le hb E2.size) (by omega) (fun h3 y css e3 G3 => ?_)))
    have g1'' := e3.blk g1'
    have g2'' := e3.blk g2
    refine stV_b (x := xs.v) (e3.cell c3) (by rw [add_mk, hfrozen_blk g1'']) (one_v _) ?_
    rw [add_mk, Nat.zero_add]
    have u4 := Upd.hset h3 h.size 3 y.v
    have g4 := set_cells3 (y := y) g1''
    generalize hset h3 ⟨h.size, 3, none⟩ y.v = h4 at u4 g4 ⊢
    have yon : ∀ b, Sl.on y b → h2.size ≤ b ∧ b < h3.size := fun b hb => ⟨(G3.gw.lt hb).2, (G3.gw.lt hb).1⟩
    have hs1 : h1.size = h.size + 1 := z1
    have hs2 : h2.size = h1.size + 1 := z2
    have hs3 := e3.size
    have E4 : Ext h h4 := (E2.trans e3).upd u4 (Nat.le_refl _)
    have g24 : h4[h1.size]? = _ := (u4.ne _ (by omega)).trans g2''
    have cy : ∀ {hh : Heap}, hh[h.size]? = some (.cells (vcells k n s y) ty_api_Value (0, 0)) → hcell hh ((⟨h.size, 0, none⟩ : Addr).add 3) = some y.v := fun hb => by rw [blk_cell hb]; rfl
    refine ldL_b (cy g4) ?_
    have hyl : y.len = l.length := by rw [G3.gw.len4 G3.w4, G3.len]
    rw [hyl]
    refine M.loop_inv (fun (t : Int) hh => ∃ (i : Nat) (css : List (Array Value)), t = (i : Int) ∧ i ≤ l.length ∧ Gw h2.size hh y 4 (flat4 css) ∧ W4 css ∧ css.length = l.length ∧ (∀ j (j1 : j < l.length) (j2 : j < css.length), j < i → VRepS (h3.size ≤ ·) hh l[j] css[j]) ∧ (∀ j (j1 : j < l.length) (j2 : j < css.length), i ≤ j → VRepS (· < h.size) hh l[j] css[j]) ∧ Ext h hh ∧ h3.size ≤ hh.size ∧ hh[h.size]? = some (.cells (vcells k n s y) ty_api_Value (0, 0)) ∧ hh[h1.size]? = h4[h1.size]?) (fun t _ => ((l.length : Int) - t).toNat) ?_
      ⟨0, css, rfl, Nat.zero_le _, G3.gw.same (fun b hb => u4.ne b (by have := (yon b hb).1; omega)), G3.w4, G3.len, fun j j1 j2 h0 => by omega, fun j j1 j2 _ => (G3.rep j j1 j2).same (fun b hb => u4.ne b (by omega)), E4, by rw [u4.size]; exact Nat.le_refl _, g4, rfl⟩
    rintro t hh ⟨i, css, rfl, hi, G, w4, hcl, hnew, hold, E, hsz, gb, gz⟩ self hself
    unfold value_Clone_l1
    refine ite_w (fun hc => ?_) (fun hc => ?_)
    · have hlt : i < l.length := by have := of_decide_eq_true hc; omega
      have hlc : i < css.length := by omega
      refine ldL_b (cy gb) (ldL_b (cy gb) ?_)
      obtain ⟨b, hb, hon, hrow⟩ := G.row4 w4 hlc
      have hv := hold i hlt hlc (Nat.le_refl _)
      have hi4 : (i : Int).toNat * 4 = i * 4 := by omega
      refine ixL_b (by omega) (by omega) hb (ldG_b hv.size (fun j hj => by rw [Addr.add_add, hi4]; exact hrow j hj) ?_)
      have hwi := wts_mem (List.getElem_mem hlt)
      refine bind_w (callF_w (S_value_Clone _) (ih l[i] (vl_lt hm hlt) hv.to (by omega) (fun h5 c e5 hc5 => ?_)))
      have hcell5 : ∀ j, j < 4 → hcell h5 (((⟨b, 0, none⟩ : Addr).add ((i : Int).toNat * 4)).add j) = css[i][j]? := fun j hj => by
        rw [Addr.add_add, hi4]
        have h6 := hrow j hj
        have h7 : css[i][j]? = some (css[i][j]'(by rw [hv.size]; exact hj)) := Array.getElem?_eq_getElem _
        rw [h7] at h6 ⊢
        exact e5.cell h6
      have G5 := G.ext e5
      refine chk_b ⟨e5.cell (cy gb), e5.cell (cy gb), hv.size, hcell5⟩ ?_
      refine vset_b G5 w4 hlc rfl hc5.size hc5.to.one (fun b' h6 hb' u6 G6 => ?_)
      rw [hb] at hb'; cases hb'
      have hbl := yon b hon
      have hcs : ∀ j (j1 : j < (css.set i c).length) (j2 : j < css.length), i ≠ j → (css.set i c)[j] = css[j] := fun j j1 j2 hne => List.getElem_set_ne hne _
      have hs5 := e5.size
      rw [w64 (by omega) (by omega)]
      refine hself _ _ ⟨i + 1, css.set i c, by simp, by omega, G6, w4.set hc5.size hc5.to.one, by rw [List.length_set]; exact hcl, fun j j1 j2 hj => ?_, fun j j1 j2 hj => ?_, (E.trans e5).upd u6 (by omega), by rw [u6.size]; omega, ?_, ?_⟩ (by omega)
      · by_cases hji : i = j
        · subst hji
          rw [List.getElem_set_self]
          exact (hc5.same (fun b1 hb1 => u6.ne b1 (by omega))).mono (fun b1 hb1 => by omega)
        · rw [hcs j j2 (by rw [hcl]; exact j1) hji]
          have := hnew j j1 (by rw [hcl]; exact j1) (by omega)
          exact (this.lt2.same (fun b1 hb1 => (u6.ne b1 (by omega)).trans (e5.same b1 hb1.2))).mono (fun b1 hb1 => hb1.1)
      · rw [hcs j j2 (by rw [hcl]; exact j1) (by omega)]
        exact (hold j j1 (by rw [hcl]; exact j1) (by omega)).same (fun b1 hb1 => (u6.ne b1 (by omega)).trans (e5.same b1 (by have := E.size; omega)))
      · rw [u6.ne _ (by omega)]; exact e5.blk gb
      · rw [u6.ne _ (by omega), ← gz]
        exact e5.same _ (by omega)
    · have hge : i = l.length := by have := of_decide_eq_false hc; omega
      subst hge
      refine ldG_b (cs := vcells k n s y) rfl (fun j hj => by rw [blk_cell gb]) (need_b rfl ?_)
      rw [g24] at gz
      refine stR (vs := vcells k n s y) (off := 0) gz (Nat.le_refl 4) (vcells_one k n s y) (fun h7 u7 g7 => ?_)
      rw [lay_full (by rfl), Array.toArray_toList] at g7
      refine ldG_b (cs := vcells k n s y) rfl (fun j hj => by rw [blk_cell g7]) (pure_w (H _ _ (E.upd u7 (by omega)) ?_))
      have hG : VGw h2.size (h3.size ≤ ·) h7 y css l := ⟨G.same (fun b hb => u7.ne b (by have := (yon b hb).1; omega)), w4, hcl, fun j j1 j2 => (hnew j j1 j2 j1).same (fun b hb => u7.ne b (by omega))⟩
      exact VRepS.eq.2 ⟨y, rfl, k1, n1, s1, (hG.rep_ (by omega)).same (fun _ _ => rfl) (fun b hb => hb.elim (fun hb => by omega) (fun hb => by have := (yon b hb).1; omega))⟩

/-- what a map has for a key -/
def getV (key : Vl) : List Vl → Option Vl
  | [] => none
  | [_] => none
  | a :: b :: r => if cmpV a key = 0 then some b else getV key r
def getM (m key : Vl) : Option Vl := if m.k = 5 then getV key m.l else none
theorem getM_ne {k n : Int} {s : List UInt8} {l : List Vl} {key : Vl} (h : ¬ k = 5) : getM (.mk k n s l) key = none := if_neg h
theorem getM_eq {k n : Int} {s : List UInt8} {l : List Vl} {key : Vl} (h : k = 5) : getM (.mk k n s l) key = getV key l := if_pos h
def vl0 : Vl := .mk 0 0 [] []
theorem vl0_rep (S : Nat → Prop) (h : Heap) : VRepS S h vl0 (#[.int .i64 0, .int .i64 0, .string ByteArray.empty, .slice none 0 0] : Array Value) :=
  VRepS.eq.2 ⟨Sl.nil, rfl, ⟨by decide, by decide⟩, ⟨by decide, by decide⟩, by decide, rfl, Nat.le_refl _, by decide, by rw [VsAtS]; trivial⟩
def optV (o : Option Vl) : Vl := o.getD vl0
theorem getV_step {key : Vl} {l : List Vl} {i : Nat} (hi : i + 1 < l.length) : getV key (l.drop i) = if cmpV (l[i]'(by omega)) key = 0 then some l[i + 1] else getV key (l.drop (i + 2)) := by
  rw [List.drop_eq_getElem_cons (show i < l.length by omega), List.drop_eq_getElem_cons hi, getV]
theorem getV_end {key : Vl} {l : List Vl} {i : Nat} (hi : l.length ≤ i + 1) : getV key (l.drop i) = none := by
  have : (l.drop i).length ≤ 1 := by rw [List.length_drop]; omega
  match h : l.drop i with
  | [] => rfl
  | [_] => rfl
  | _ :: _ :: _ => rw [h] at this; simp at this
theorem vget_spec {m key : Vl} {h : Heap} {Q : Array Value × Bool → Heap → Prop} {x y : Array Value} (hx : VRep h m x) (hy : VRep h key y) (hw : wt m ≤ 1099511627776) (H : ∀ h' c, Ext h h' → VRep h' (optV (getM m key)) c → Q (c, (getM m key).isSome) h') : (value_Get x y).wp h Q := by
  obtain ⟨k, n, s, l⟩ := m
  obtain ⟨xs, rfl, k1, n1, s1, r1⟩ := VRep.eq.1 hx
  unfold value_Get
  refine mkV_b (fun h1 e1 z1 g1 => mkV_b (fun h2 e2 z2 g2 => mkV_b (fun h3 e3 z3 g3 => ?_)))
  have E := (e1.trans e2).trans e3
  have g1' := (e2.trans e3).blk g1
  have g2' := e3.blk g2
  have c0 : hcell h3 ((⟨h.size, 0, none⟩ : Addr).add 0) = some (.int .i64 k) := by rw [blk_cell g1']; rfl
  have c3 : hcell h3 ((⟨h.size, 0, none⟩ : Addr).add 3) = some xs.v := by rw [blk_cell g1']; rfl
  have hlast : ∀ {hh : Heap} {c : Array Value} {b : Bool} {v : Vl}, Ext h3 hh → VRepS (· ≠ h2.size) hh v c → v = optV (getM (.mk k n s l) key) → b = (getM (.mk k n s l) key).isSome → (M.need (c.size = 4) >>= fun _ => stG ⟨h2.size, 0, none⟩ c >>= fun _ => ldG 4 ⟨h2.size, 0, none⟩ >>= fun r => M.pure (r, b)).wp hh Q := fun {hh c b v} e4 hc hv hb => by
    subst hv; subst hb
    refine need_b hc.size (stR (vs := c) (e4.blk g3) (by rw [hc.size]; decide) hc.to.one (fun h5 u5 g5 => ?_))
    rw [lay_full (by rw [Array.length_toList, hc.size]; rfl), Array.toArray_toList] at g5
    have E5 : Ext h h5 := (E.trans e4).upd u5 (by have := (e1.trans e2).size; omega)
    exact ldR g5 hc.size (pure_w (H _ _ E5 (hc.same (fun b hb => u5.ne b hb)).to))
  refine ldI_b c0 (ite_w (fun hk => ?_) (fun hk => ?_))
  · have hk : ¬ k = 5 := by simpa using hk
    exact hlast (Ext.refl _) (vl0_rep _ _) (by rw [getM_ne hk]; rfl) (by rw [getM_ne hk]; rfl)
  have hk : k = 5 := by simpa using hk
  have hM : getM (.mk k n s l) key = getV key l := getM_eq hk
  rw [hM] at hlast
  rw [wt] at hw
  have hcnt := wts_len l
  have hxl := r1.len
  refine M.loop_inv (fun (t : Int) hh => Ext h3 hh ∧ ∃ i : Nat, t = (i : Int) ∧ i ≤ l.length + 1 ∧ getV key (l.drop i) = getV key l) (fun t _ => ((l.length : Int) + 1 - t).toNat) ?_ ⟨Ext.refl _, 0, rfl, Nat.zero_le _, rfl⟩
  rintro t hh ⟨e4, i, rfl, hi, hd⟩ self hself
  unfold value_Get_l1
  have cc := e4.cell c3
  refine ldL_b cc ?_
  rw [hxl]
  have hw1 : IntKind.wrap .i64 ((i : Int) + 1) = ((i + 1 : Nat) : Int) := by rw [w64 (by omega) (by omega)]; simp
  rw [hw1]
  refine ite_w (fun hc => ?_) (fun hc => ?_)
  · have hlt : i + 1 < l.length := by have := of_decide_eq_true hc; omega
    rw [getV_step hlt] at hd
    have rr := (r1.ext E).ext e4
    refine ldL_b cc (ixV_b rr (i := i) (by omega) rfl (fun a c hs hcs hv => ldG_b hs hcs (ldV_b (v := key) (e4.blk g2') hy.size ?_)))
    refine bind_w (vsame_spec hv ((hy.ext E).ext e4) (fun h5 e5 => ?_))
    refine ite_w (fun hs0 => ?_) (fun hs0 => ?_)
    · have hs0 : cmpV l[i] key = 0 := of_decide_eq_true hs0
      rw [if_pos hs0] at hd
      refine ldL_b (e5.cell cc) (ixV_b (rr.ext e5) (i := i + 1) hlt rfl (fun a' c' hs' hcs' hv' => ldG_b hs' hcs' ?_))
      have := wts_mem (List.getElem_mem hlt)
      refine bind_w (vclone_spec _ l[i + 1] (Nat.lt_succ_self _) hv' (by omega) (fun h6 c6 e6 hc6 => ?_))
      refine hlast ((e4.trans e5).trans e6) (hc6.mono (fun b hb => by have := e3.size; have := (e4.trans e5).size; omega)) (by rw [← hd]; rfl) (by rw [← hd]; rfl)
    · have hs0 : ¬ cmpV l[i] key = 0 := of_decide_eq_false hs0
      rw [if_neg hs0] at hd
      rw [w64 (by omega) (by omega)]
      exact hself _ _ ⟨e4.trans e5, i + 2, by simp, by omega, hd⟩ (by omega)
  · have hge : l.length ≤ i + 1 := by have := of_decide_eq_false hc; omega
    rw [getV_end hge] at hd
    exact hlast e4 (vl0_rep _ _) (by rw [← hd]; rfl) (by rw [← hd]; rfl)
theorem rget_spec {S : Nat → Prop} {m key : Vl} {h : Heap} {Q : Array Value × Bool → Heap → Prop} {x y : Array Value} (hxS : VRepS S h m x) (hSl : ∀ b, S b → b < h.size) (hy : VRep h key y) (hb : m.l.length ≤ 1099511627776) (H : ∀ h' c, Ext h h' → VRepS S h' (optV (getM m key)) c → Q (c, (getM m key).isSome) h') : (rambleref02_Get x y).wp h Q := by
  have hx := hxS.to
  obtain ⟨k, n, s, l⟩ := m
  obtain ⟨xs, rfl, k1, n1, s1, rS0⟩ := VRepS.eq.1 hxS
  have r1 := rS0.to
  have hcnt : l.length ≤ 1099511627776 := hb
  unfold rambleref02_Get
  refine mkV_b (fun h1 e1 z1 g1 => mkV_b (fun h2 e2 z2 g2 => mkV_b (fun h3 e3 z3 g3 => ?_)))
  have E := (e1.trans e2).trans e3
  have g1' := (e2.trans e3).blk g1
  have g2' := e3.blk g2
  have c0 : hcell h3 ((⟨h.size, 0, none⟩ : Addr).add 0) = some (.int .i64 k) := by rw [blk_cell g1']; rfl
  have c3 : hcell h3 ((⟨h.size, 0, none⟩ : Addr).add 3) = some xs.v := by rw [blk_cell g1']; rfl
  have hlast : ∀ {hh : Heap} {c : Array Value} {b : Bool} {v : Vl}, Ext h3 hh → VRepS S hh v c → v = optV (getM (.mk k n s l) key) → b = (getM (.mk k n s l) key).isSome → (M.need (c.size = 4) >>= fun _ => stG ⟨h2.size, 0, none⟩ c >>= fun _ => ldG 4 ⟨h2.size, 0, none⟩ >>= fun r => M.pure (r, b)).wp hh Q := fun {hh c b v} e4 hc hv hb => by
    subst hv; subst hb
    refine need_b hc.size (stR (vs := c) (e4.blk g3) (by rw [hc.size]; decide) hc.to.one (fun h5 u5 g5 => ?_))
    rw [lay_full (by rw [Array.length_toList, hc.size]; rfl), Array.toArray_toList] at g5
    have E5 : Ext h h5 := (E.trans e4).upd u5 (by have := (e1.trans e2).size; omega)
    exact ldR g5 hc.size (pure_w (H _ _ E5 (hc.same (fun b hb => u5.ne b (by have := hSl b hb; have := (e1.trans e2).size; omega)))))
  refine ldI_b c0 (ite_w (fun hk => ?_) (fun hk => ?_))
  · have hk : ¬ k = 5 := by simpa using hk
    exact hlast (Ext.refl _) (vl0_rep _ _) (by rw [getM_ne hk]; rfl) (by rw [getM_ne hk]; rfl)
  have hk : k = 5 := by simpa using hk
  have hM : getM (.mk k n s l) key = getV key l := getM_eq hk
  rw [hM] at hlast
  have hxl := r1.len
  refine M.loop_inv (fun (t : Int) hh => Ext h3 hh ∧ ∃ i : Nat, t = (i : Int) ∧ i ≤ l.length + 1 ∧ getV key (l.drop i) = getV key l) (fun t _ => ((l.length : Int) + 1 - t).toNat) ?_ ⟨Ext.refl _, 0, rfl, Nat.zero_le _, rfl⟩
  rintro t hh ⟨e4, i, rfl, hi, hd⟩ self hself
  unfold rambleref02_Get_l1
  have cc := e4.cell c3
  refine ldL_b cc ?_
  rw [hxl]
  have hw1 : IntKind.wrap .i64 ((i : Int) + 1) = ((i + 1 : Nat) : Int) := by rw [w64 (by omega) (by omega)]; simp
  rw [hw1]
  refine ite_w (fun hc => ?_) (fun hc => ?_)
  · have hlt : i + 1 < l.length := by have := of_decide_eq_true hc; omega
    rw [getV_step hlt] at hd
    have rr := (r1.ext E).ext e4
    refine ldL_b cc (ixV_b rr (i := i) (by omega) rfl (fun a c hs hcs hv => ldG_b hs hcs (ldV_b (v := key) (e4.blk g2') hy.size ?_)))
    refine bind_w (rsame_spec hv ((hy.ext E).ext e4) (fun h5 e5 => ?_))
    refine ite_w (fun hs0 => ?_) (fun hs0 => ?_)
    · have hs0 : cmpV l[i] key = 0 := of_decide_eq_true hs0
      rw [if_pos hs0] at hd
      have rS := (rS0.same (T := S) (fun b hb => (((E.trans e4).trans e5).same b (hSl b hb))) (fun _ h => h))
      refine ldL_b (e5.cell cc) ?_
      obtain ⟨a', c', ha', hS', hs', hcs', hv'⟩ := rS.get hlt
      refine ixL_b (by omega) (by omega) ha' (ldG_b hs' (fun j hj => by rw [Addr.add_add, show ((i + 1 : Nat) : Int).toNat * 4 = (i + 1) * 4 by omega]; exact hcs' j hj) ?_)
      refine hlast (e4.trans e5) hv' (by rw [← hd]; rfl) (by rw [← hd]; rfl)
    · have hs0 : ¬ cmpV l[i] key = 0 := of_decide_eq_false hs0
      rw [if_neg hs0] at hd
      rw [w64 (by omega) (by omega)]
      exact hself _ _ ⟨e4.trans e5, i + 2, by simp, by omega, hd⟩ (by omega)
  · have hge : l.length ≤ i + 1 := by have := of_decide_eq_false hc; omega
    rw [getV_end hge] at hd
    exact hlast e4 (vl0_rep _ _) (by rw [← hd]; rfl) (by rw [← hd]; rfl)
end Gx
namespace Gx
open Go
set_option linter.unusedVariables false
set_option linter.unusedSimpArgs false
/-! ### The order of values -/
/-- three numbers: how a and b, b and c, a and c stand, and b and a -/
structure Tri (ab bc ac : Int) : Prop where
  tr : ab < 0 → bc < 0 → ac < 0
  z1 : ab = 0 → ac = bc
  z2 : bc = 0 → ac = ab
theorem Tri.cOr {x y z x' y' z' : Int} (h : Tri x y z) (h' : x = 0 → y = 0 → Tri x' y' z') : Tri (cOr x x') (cOr y y') (cOr z z') := by
  unfold Gx.cOr
  obtain ⟨t, a, b⟩ := h
  by_cases hx : x = 0
  · have hz := a hx
    by_cases hy : y = 0
    · have hz0 : z = 0 := by omega
      rw [if_pos hx, if_pos hy, if_pos hz0]
      exact h' hx hy
    · have hz0 : ¬ z = 0 := by omega
      rw [if_pos hx, if_neg hy, if_neg hz0]
      refine ⟨fun h1 h2 => by omega, fun h1 => hz, fun h1 => by omega⟩
  · by_cases hy : y = 0
    · have hz := b hy
      have hz0 : ¬ z = 0 := by omega
      rw [if_neg hx, if_pos hy, if_neg hz0]
      exact ⟨fun h1 h2 => by omega, fun h1 => by omega, fun h1 => hz⟩
    · rw [if_neg hx, if_neg hy]
      refine ⟨fun h1 h2 => ?_, fun h1 => by omega, fun h1 => by omega⟩
      have := t h1 h2
      rw [if_neg (by omega)]; exact this
theorem cmpI_tri (a b c : Int) : Tri (cmpI a b) (cmpI b c) (cmpI a c) := by
  unfold cmpI
  constructor <;> (repeat' split) <;> intros <;> omega
theorem cmpI_anti (a b : Int) : cmpI b a = - cmpI a b := by
  unfold cmpI
  (repeat' split) <;> omega
theorem cmpI_eq (a b : Int) : cmpI a b = 0 ↔ a = b := by
  unfold cmpI
  (repeat' split) <;> omega
theorem cOr_anti {x x' y y' : Int} (h : x' = -x) (h' : x = 0 → y' = -y) : cOr x' y' = - cOr x y := by
  unfold cOr
  by_cases hx : x = 0
  · rw [if_pos hx, if_pos (by omega)]; exact h' hx
  · rw [if_neg hx, if_neg (by omega)]; exact h
theorem cOr_zero {x y : Int} : cOr x y = 0 ↔ x = 0 ∧ y = 0 := by
  unfold cOr
  by_cases hx : x = 0
  · rw [if_pos hx]; simp [hx]
  · rw [if_neg hx]; simp [hx]
/-- lists, by their elements -/
def cmpL {α : Type} (f : α → α → Int) : List α → List α → Int
  | [], [] => 0
  | [], _ :: _ => -1
  | _ :: _, [] => 1
  | a :: l, b :: l' => cOr (f a b) (cmpL f l l')
theorem cmpL_anti {α : Type} {f : α → α → Int} : ∀ {l l' : List α}, (∀ a ∈ l, ∀ b ∈ l', f b a = - f a b) → cmpL f l' l = - cmpL f l l'
  | [], [], _ => rfl
  | [], _ :: _, _ => rfl
  | _ :: _, [], _ => rfl
  | a :: l, b :: l', h => cOr_anti (h a (by simp) b (by simp)) (fun _ => cmpL_anti (fun x hx y hy => h x (List.mem_cons_of_mem _ hx) y (List.mem_cons_of_mem _ hy)))
theorem cmpL_eq {α : Type} {f : α → α → Int} : ∀ {l l' : List α}, (∀ a ∈ l, ∀ b ∈ l', f a b = 0 ↔ a = b) → (cmpL f l l' = 0 ↔ l = l')
  | [], [], _ => by simp [cmpL]
  | [], _ :: _, _ => by simp [cmpL]
  | _ :: _, [], _ => by simp [cmpL]
  | a :: l, b :: l', h => by
    rw [cmpL, cOr_zero, h a (by simp) b (by simp), cmpL_eq (fun x hx y hy => h x (List.mem_cons_of_mem _ hx) y (List.mem_cons_of_mem _ hy))]
    simp
theorem cmpL_tri {α : Type} {f : α → α → Int} : ∀ {l l' l'' : List α}, (∀ a ∈ l, ∀ b ∈ l', ∀ c ∈ l'', Tri (f a b) (f b c) (f a c)) → Tri (cmpL f l l') (cmpL f l' l'') (cmpL f l l'')
  | [], [], [], _ => by simp only [cmpL]; constructor <;> intros <;> omega
  | [], [], _ :: _, _ => by simp only [cmpL]; constructor <;> intros <;> omega
  | [], _ :: _, [], _ => by simp only [cmpL]; constructor <;> intros <;> omega
  | [], b :: l', c :: l'', _ => by
    show Tri (-1) (cmpL f (b :: l') (c :: l'')) (-1)
    constructor <;> intros <;> omega
  | _ :: _, [], [], _ => by simp only [cmpL]; constructor <;> intros <;> omega
  | _ :: _, [], _ :: _, _ => by simp only [cmpL]; constructor <;> intros <;> omega
  | a :: l, b :: l', [], _ => by
    show Tri (cmpL f (a :: l) (b :: l')) 1 1
    constructor <;> intros <;> omega
  | a :: l, b :: l', c :: l'', h => Tri.cOr (h a (by simp) b (by simp) c (by simp)) (fun _ _ => cmpL_tri (fun x hx y hy z hz => h x (List.mem_cons_of_mem _ hx) y (List.mem_cons_of_mem _ hy) z (List.mem_cons_of_mem _ hz)))
def cmpU (a b : UInt8) : Int := cmpI (a.toNat : Int) (b.toNat : Int)
theorem cmpB_L : ∀ s t : List UInt8, Lib.compareBytes s t = cmpL cmpU s t
  | [], [] => rfl
  | [], _ :: _ => rfl
  | _ :: _, [] => rfl
  | a :: s, b :: t => by
    rw [compareBytes_cons, cmpL, cOr, cmpB_L s t]
    have : cmpU a b = 0 ↔ a = b := by
      unfold cmpU
      rw [cmpI_eq, ← UInt8.toNat_inj]; omega
    by_cases h : a = b
    · rw [if_pos h, if_pos (this.2 h)]
    · rw [if_neg h, if_neg (fun h' => h (this.1 h'))]; rfl
theorem cmpU_eq (a b : UInt8) : cmpU a b = 0 ↔ a = b := by
  unfold cmpU
  rw [cmpI_eq, ← UInt8.toNat_inj]; omega
theorem cmpVs_L : ∀ l l' : List Vl, cmpVs l l' = cmpL cmpV l l'
  | [], [] => by simp [cmpVs, cmpL]
  | [], _ :: _ => by simp [cmpVs, cmpL]
  | _ :: _, [] => by simp [cmpVs, cmpL]
  | a :: l, b :: l' => by rw [cmpVs, cmpL, cmpVs_L l l']
theorem cmpV_mk (k n k' n' : Int) (s s' : List UInt8) (l l' : List Vl) : cmpV (.mk k n s l) (.mk k' n' s' l') = cOr (cmpI k k') (cOr (cmpI n n') (cOr (cmpL cmpU s s') (cmpL cmpV l l'))) := by
  rw [cmpV, cmpB_L, cmpVs_L]
theorem mem_lt {k n : Int} {s : List UInt8} {l : List Vl} {m : Nat} {v : Vl} (hm : sizeOf (Vl.mk k n s l) < m + 1) (hv : v ∈ l) : sizeOf v < m := by
  have := List.sizeOf_lt_of_mem hv
  simp only [Vl.mk.sizeOf_spec] at hm
  omega
theorem cmpV_anti_ : ∀ (m : Nat) (a b : Vl), sizeOf a < m → cmpV b a = - cmpV a b := by
  intro m
  induction m with
  | zero => intro a b h; omega
  | succ m ih =>
    rintro ⟨k, n, s, l⟩ ⟨k', n', s', l'⟩ hm
    rw [cmpV_mk, cmpV_mk]
    exact cOr_anti (cmpI_anti _ _) (fun _ => cOr_anti (cmpI_anti _ _) (fun _ => cOr_anti (cmpL_anti (fun a _ b _ => cmpI_anti _ _)) (fun _ => cmpL_anti (fun a ha b hb => ih a b (mem_lt hm ha)))))
theorem cmpV_anti (a b : Vl) : cmpV b a = - cmpV a b := cmpV_anti_ _ a b (Nat.lt_succ_self _)
theorem cmpV_eq_ : ∀ (m : Nat) (a b : Vl), sizeOf a < m → (cmpV a b = 0 ↔ a = b) := by
  intro m
  induction m with
  | zero => intro a b h; omega
  | succ m ih =>
    rintro ⟨k, n, s, l⟩ ⟨k', n', s', l'⟩ hm
    rw [cmpV_mk, cOr_zero, cOr_zero, cOr_zero, cmpI_eq, cmpI_eq, cmpL_eq (fun a _ b _ => cmpU_eq a b), cmpL_eq (fun a ha b hb => ih a b (mem_lt hm ha))]
    simp
theorem cmpV_eq (a b : Vl) : cmpV a b = 0 ↔ a = b := cmpV_eq_ _ a b (Nat.lt_succ_self _)
theorem cmpV_tri_ : ∀ (m : Nat) (a b c : Vl), sizeOf a < m → Tri (cmpV a b) (cmpV b c) (cmpV a c) := by
  intro m
  induction m with
  | zero => intro a b c h; omega
  | succ m ih =>
    rintro ⟨k, n, s, l⟩ ⟨k', n', s', l'⟩ ⟨k'', n'', s'', l''⟩ hm
    rw [cmpV_mk, cmpV_mk, cmpV_mk]
    exact Tri.cOr (cmpI_tri _ _ _) (fun _ _ => Tri.cOr (cmpI_tri _ _ _) (fun _ _ => Tri.cOr (cmpL_tri (fun a _ b _ c _ => cmpI_tri _ _ _)) (fun _ _ => cmpL_tri (fun a ha b hb c hc => ih a b c (mem_lt hm ha)))))
theorem cmpV_tri (a b c : Vl) : Tri (cmpV a b) (cmpV b c) (cmpV a c) := cmpV_tri_ _ a b c (Nat.lt_succ_self _)
theorem cmpV_self (a : Vl) : cmpV a a = 0 := (cmpV_eq a a).2 rfl
theorem cmpV_trans {a b c : Vl} (h1 : cmpV a b < 0) (h2 : cmpV b c < 0) : cmpV a c < 0 := (cmpV_tri a b c).tr h1 h2
theorem cmpV_lt_or (a b : Vl) : cmpV a b < 0 ∨ a = b ∨ cmpV b a < 0 := by
  have := cmpV_anti a b
  have := cmpV_eq a b
  by_cases h : cmpV a b = 0
  · exact .inr (.inl (this.1 h))
  · omega
end Gx
namespace Gx
open Go Go.Proofs Go.Shelf Go.RowKit Go.Lib Go.Sort
set_option linter.unusedVariables false
set_option linter.unusedSimpArgs false
set_option maxRecDepth 100000
/-! ### slices.SortFunc over values -/
abbrev EV (S : Nat → Prop) (h : Heap) := { p : Vl × Array Value // VRepS S h p.1 p.2 }
instance (S : Nat → Prop) (h : Heap) : Inhabited (EV S h) := ⟨⟨(vl0, _), vl0_rep S h⟩⟩
def evEnc {S : Nat → Prop} {h : Heap} (p : EV S h) : List Value := p.1.2.toList
def evCmp {S : Nat → Prop} {h : Heap} (p q : EV S h) : Int := cmpV p.1.1 q.1.1
theorem ev_swo (S : Nat → Prop) (h : Heap) : SWO (ltOf (evCmp (S := S) (h := h))) where
  irrefl x := by unfold ltOf evCmp; rw [cmpV_self]; rfl
  trans x y z h1 h2 := by
    unfold ltOf evCmp at *
    exact decide_eq_true (cmpV_trans (of_decide_eq_true h1) (of_decide_eq_true h2))
  ntrans x y z h1 h2 := by
    unfold ltOf evCmp at *
    have h1 := of_decide_eq_false h1
    have h2 := of_decide_eq_false h2
    refine decide_eq_false (fun h3 => ?_)
    have t := cmpV_tri z.1.1 y.1.1 x.1.1
    have a1 := cmpV_anti x.1.1 y.1.1
    have a2 := cmpV_anti y.1.1 z.1.1
    have a3 := cmpV_anti x.1.1 z.1.1
    have hz := t.z1
    by_cases h4 : cmpV z.1.1 y.1.1 = 0
    · have := t.z1 h4; omega
    · by_cases h5 : cmpV y.1.1 x.1.1 = 0
      · have := t.z2 h5; omega
      · have := t.tr (by omega) (by omega); omega
theorem onCells_other {w : World} {blk i : Nat} {f : Array Value → Array Value} (h : i ≠ blk) : (mapBlock w blk f).heap[i]? = w.heap[i]? := by
  unfold mapBlock
  simp only [Array.getElem?_modify]
  rw [if_neg (fun e => h e.symm)]
theorem onCells_at {w : World} {blk : Nat} {f : Array Value → Array Value} {c : Array Value} {t : TypeId} {z : Nat × Nat} (h : w.heap[blk]? = some (.cells c t z)) : (mapBlock w blk f).heap[blk]? = some (.cells (f c) t z) := by
  unfold mapBlock
  simp only [Array.getElem?_modify, if_true, h]
  rfl
theorem mapBlock_size {w : World} {blk : Nat} {f : Array Value → Array Value} : (mapBlock w blk f).heap.size = w.heap.size := by
  unfold mapBlock
  simp
theorem sw_other {α : Type} [Inhabited α] {enc : α → List Value} {k : Nat} {w : World} {blk off n : Nat} {d : Array α} {os : Array Obj} {i : Nat} (hi : i < w.heap.size) (hne : i ≠ blk) : (sortWorldK enc k w blk off n d os).heap[i]? = w.heap[i]? := by
  show ((mapBlock (ahead w n) blk (putCells id off (flatK enc k d))).heap ++ os)[i]? = _
  rw [Array.getElem?_append_left (by rw [mapBlock_size]; exact hi), onCells_other hne]
  rfl
theorem sw_at {α : Type} [Inhabited α] {enc : α → List Value} {k : Nat} {w : World} {blk off n : Nat} {d : Array α} {os : Array Obj} {c : Array Value} {t : TypeId} {z : Nat × Nat} (h : w.heap[blk]? = some (.cells c t z)) : (sortWorldK enc k w blk off n d os).heap[blk]? = some (.cells (putCells id off (flatK enc k d) c) t z) := by
  show ((mapBlock (ahead w n) blk (putCells id off (flatK enc k d))).heap ++ os)[blk]? = _
  rw [Array.getElem?_append_left (by rw [mapBlock_size]; exact blk_lt h), onCells_at (w := ahead w n) h]
theorem sw_size {α : Type} [Inhabited α] {enc : α → List Value} {k : Nat} {w : World} {blk off n : Nat} {d : Array α} {os : Array Obj} : w.heap.size ≤ (sortWorldK enc k w blk off n d os).heap.size := by
  show _ ≤ ((mapBlock (ahead w n) blk (putCells id off (flatK enc k d))).heap ++ os).size
  rw [Array.size_append, mapBlock_size]
  exact Nat.le_add_right _ _
theorem grown_of {w w' : World} (e : Ext w.heap w'.heap) (r : Rest w w') : ∃ q os', w' = grow (w.drewN q) os' := by
  refine ⟨w'.drawn - w.drawn, w'.heap.extract w.heap.size w'.heap.size, ?_⟩
  have h1 : w'.heap = w.heap ++ w'.heap.extract w.heap.size w'.heap.size := by
    apply Array.ext_getElem?
    intro i
    by_cases hi : i < w.heap.size
    · rw [Array.getElem?_append_left hi, e.same i hi]
    · rw [Array.getElem?_append_right (by omega), Array.getElem?_extract]
      have := e.size
      by_cases h2 : i < w'.heap.size
      · rw [if_pos (by omega)]; congr 1; omega
      · rw [if_neg (by omega), Array.getElem?_eq_none (by omega)]
  have h2 : w'.drawn = w.drawn + (w'.drawn - w.drawn) := by have := r.drawn; omega
  have h3 := r.os
  have h4 := r.output
  have h5 := r.tape
  cases w'
  simp only [grow, World.drewN, World.mk.injEq] at *
  exact ⟨h1, h5, h2, h3, h4⟩
theorem ev_lays {S : Nat → Prop} {w : World} {blk off size : Nat} (hS : ∀ b, S b → b < w.heap.size ∧ b ≠ blk) : CmpLays Go.Proofs.Tryd.prog fn_value_Compare #[] (evEnc (S := S) (h := w.heap)) 4 evCmp blk off size w := by
  intro m os dk hs x y
  have hx : VRep (sortWorldK evEnc 4 w blk off m dk os).heap x.1.1 x.1.2 := (x.2.same (fun b hb => sw_other (hS b hb).1 (hS b hb).2)).to
  have hy : VRep (sortWorldK evEnc 4 w blk off m dk os).heap y.1.1 y.1.2 := (y.2.same (fun b hb => sw_other (hS b hb).1 (hS b hb).2)).to
  have h := S_value_Compare x.1.2 y.1.2 (sortWorldK evEnc 4 w blk off m dk os) (fun r h' => r = cmpV x.1.1 y.1.1 ∧ Ext (sortWorldK evEnc 4 w blk off m dk os).heap h') (vcompare_spec hx hy (fun h' e => ⟨rfl, e⟩))
  have e1 : (#[Value.agg (evEnc x).toArray, Value.agg (evEnc y).toArray] ++ (#[] : Array Value)) = #[.agg x.1.2, .agg y.1.2] := by
    unfold evEnc
    rw [Array.toArray_toList, Array.toArray_toList]
    rfl
  rw [e1]
  refine h.mono ?_
  rintro e w' ⟨r, rfl, ⟨rfl, E⟩, R⟩
  exact ⟨rfl, grown_of E R⟩

theorem flatK_get {S : Nat → Prop} {h : Heap} (d : Array (EV S h)) {i j : Nat} (hi : i < d.size) (hj : j < 4) : (flatK evEnc 4 d)[i * 4 + j]! = (d[i]'hi).1.2[j]'(by rw [(d[i]'hi).2.size]; exact hj) := by
  rw [get_flatK _ _ _ _ (by omega), show (i * 4 + j) / 4 = i by omega, show (i * 4 + j) % 4 = j by omega, getElem!_pos d i hi]
  unfold evEnc
  have hs := (d[i]'hi).2.size
  rw [getElem!_pos _ j (by rw [Array.length_toList]; omega)]
  rfl
def evs {S : Nat → Prop} {h : Heap} {css : List (Array Value)} {l : List Vl} (hl : css.length = l.length) (H : ∀ j (h1 : j < l.length) (h2 : j < css.length), VRepS S h l[j] css[j]) : Array (EV S h) :=
  Array.ofFn (n := l.length) fun j => ⟨(l[j.1]'j.2, css[j.1]'(by rw [hl]; exact j.2)), H j.1 j.2 _⟩
theorem putCells_get {cells : Array Value} {F : Array Value} {i : Nat} (h1 : i < cells.size) (h2 : i < F.size) : (putCells id 0 F cells)[i]? = some F[i]! := by
  unfold putCells
  rw [Array.getElem?_mapIdx, Array.getElem?_eq_getElem h1]
  simp [h2]
theorem putCells_size {cells : Array Value} {F : Array Value} : (putCells id 0 F cells).size = cells.size := by simp [putCells]
theorem vsort_spec {lo : Nat} {S : Nat → Prop} {h : Heap} {Q : Unit → Heap → Prop} {r : Sl} {css : List (Array Value)} {l : List Vl} (G : VGw lo S h r css l) (hS : ∀ b, S b → b < h.size ∧ ¬ Sl.on r b) (hm : l.length < 4611686018427387904)
    (H : ∀ h' css' l', VGw lo S h' r css' l' → l'.Perm l → l'.Pairwise (fun a b => ¬ cmpV b a < 0) → h.size ≤ h'.size → (∀ i, i < h.size → ¬ Sl.on r i → h'[i]? = h[i]?) → Q () h') :
    (callF Go.Proofs.Tryd.prog fn_slices_SortFunc_slapi_Value_api_Value #[r.v, .func (.func fn_value_Compare) #[] #[]] (fun _ : Unit => .tuple #[])).wp h Q := by
  intro w hw
  subst hw
  have hrl := G.gw.len4 G.w4
  have hgl := G.len
  rcases G.gw with ⟨rfl, he⟩ | ⟨b, ty, cells, R⟩
  · have : css = [] := by
      have := flat4_len G.w4
      rw [he] at this
      exact List.length_eq_zero_iff.1 (by simp at this; omega)
    subst this
    have : l = [] := List.length_eq_zero_iff.1 hgl.symm
    subst this
    refine (AnyF.slices_SortFunc_none lib_sort15 none 0 (.func (.func fn_value_Compare) #[] #[]) w).mono ?_
    rintro e w' ⟨rfl, rfl⟩
    exact ⟨(), rfl, H _ _ _ G (List.Perm.refl _) List.Pairwise.nil (Nat.le_refl _) (fun i _ _ => rfl), Rest.refl _⟩
  · have hb : ∀ i, Sl.on r i ↔ i = b := fun i => ⟨fun ⟨a, ha, hab⟩ => by rw [R.base] at ha; cases ha; exact hab.symm, fun e => ⟨_, R.base, e.symm⟩⟩
    have hS' : ∀ i, S i → i < w.heap.size ∧ i ≠ b := fun i hi => ⟨(hS i hi).1, fun e => (hS i hi).2 ((hb i).2 e)⟩
    obtain ⟨d, hd⟩ : ∃ d, d = evs G.len G.rep := ⟨_, rfl⟩
    have hds : d.size = l.length := by rw [hd]; simp [evs]
    have hdg : ∀ j (h1 : j < d.size), (d[j]'h1).1 = (l[j]'(by omega), css[j]'(by omega)) := fun j h1 => by subst hd; simp [evs]
    have hcz := R.size
    have hcap := R.cap
    have hH : HoldsK evEnc 4 w b 0 d := fun j hj => by
      rw [size_flatK] at hj
      have hj4 : j / 4 * 4 + j % 4 = j := by omega
      have h1 : j / 4 < d.size := by omega
      have h2 := flatK_get d h1 (show j % 4 < 4 by omega)
      rw [hj4] at h2
      have h3 := flat4_get G.w4 (j / 4) (j % 4) (by omega)
      rw [hj4, List.getElem?_eq_getElem (l := css) (i := j / 4) (by omega)] at h3
      have hcs : (d[j / 4]'h1).1.2 = css[j / 4]'(by omega) := by rw [hdg _ h1]
      have hsz : (css[j / 4]'(by omega)).size = 4 := (G.w4 _ (List.getElem_mem _)).1
      have h4 := R.get j (flatK evEnc 4 d)[j]! (by
        rw [h3, h2]
        simp only [hcs]
        exact Array.getElem?_eq_getElem (by rw [hsz]; omega))
      refine ⟨?_, ?_⟩
      · rw [Nat.zero_add, cell_h, hcell_blk R.blk]
        exact h4
      · rw [frozen_h, hfrozen_blk R.blk]
    have hblk : b < w.heap.size := blk_lt R.blk
    have hcon := AnyQ.slices_SortFunc lib_sort15 4 Tryd.isAgg42 Tryd.sizeOf42 evEnc (fun x => by unfold evEnc; rw [Array.length_toList]; exact x.2.size) (fun x => x.2.to.one) evCmp (ev_swo S w.heap) fn_value_Compare #[] b 0 r.cap d w (enters_of Tryd.func16 (by kernel_rfl) rfl) (ev_lays hS') hH hblk (by omega)
    have hargs : (#[r.v, .func (.func fn_value_Compare) #[] #[]] : Array Value) = #[.slice (some ⟨b, 0, none⟩) d.size r.cap, .func (.func fn_value_Compare) #[] #[]] := by
      have : r.v = .slice (some ⟨b, 0, none⟩) d.size r.cap := by
        have h1 := R.base
        have h2 : r.len = d.size := by omega
        obtain ⟨rb, rl, rc⟩ := r
        simp only at h1 h2
        subst h1; subst h2
        rfl
      rw [this]
    rw [hargs]
    refine hcon.mono ?_
    rintro e w' ⟨rfl, d', n, os, ⟨hp1, hp2, hp3⟩, hs, rfl⟩
    refine ⟨(), rfl, ?_, ⟨rfl, rfl, rfl, Nat.le_add_right _ _⟩⟩
    rw [← hp1, Array.extract_size, hp1, Array.extract_size] at hp3
    have hl' : (d'.toList.map (fun p => p.1.2)).length = (d'.toList.map (fun p => p.1.1)).length := by simp
    refine H _ (d'.toList.map (fun p => p.1.2)) (d'.toList.map (fun p => p.1.1)) ⟨.inr ⟨b, ty, _, R.base, R.lo, sw_at R.blk, by rw [putCells_size]; exact R.size, R.cap, ?_, ?_⟩, ?_, hl', ?_⟩ ?_ ?_ sw_size (fun i hi hno => sw_other hi (fun e => hno ((hb i).2 e)))
    · have hw4 : W4 (d'.toList.map (fun p => p.1.2)) := fun c hc => by
        obtain ⟨p, _, rfl⟩ := List.mem_map.1 hc
        exact ⟨p.2.size, p.2.to.one⟩
      rw [flat4_len hw4, List.length_map, Array.length_toList, hp1]; omega
    · intro j v hj
      have hlt := (List.getElem?_eq_some_iff.1 hj).1
      have hw4 : W4 (d'.toList.map (fun p => p.1.2)) := fun c hc => by
        obtain ⟨p, _, rfl⟩ := List.mem_map.1 hc
        exact ⟨p.2.size, p.2.to.one⟩
      rw [flat4_len hw4, List.length_map, Array.length_toList] at hlt
      have hj4 : j / 4 * 4 + j % 4 = j := by omega
      have h1 : j / 4 < d'.size := by omega
      have h2 := flatK_get d' h1 (show j % 4 < 4 by omega)
      have h3 := flat4_get hw4 (j / 4) (j % 4) (by omega)
      rw [hj4] at h2 h3
      rw [h3, List.getElem?_eq_getElem (l := d'.toList.map (fun p => p.1.2)) (i := j / 4) (by simpa using h1)] at hj
      rw [putCells_get (by omega) (by rw [size_flatK]; omega), h2]
      simp only [List.getElem_map, Array.getElem_toList, Option.bind_some] at hj
      rw [← hj]
      exact (Array.getElem?_eq_getElem _).symm
    · intro c hc
      obtain ⟨p, _, rfl⟩ := List.mem_map.1 hc
      exact ⟨p.2.size, p.2.to.one⟩
    · intro j h1 h2
      simp only [List.getElem_map, Array.getElem_toList]
      exact (d'[j]'(by simpa using h1)).2.same (fun b1 hb1 => sw_other (hS' b1 hb1).1 (hS' b1 hb1).2)
    · have h1 := hp3.map (fun p => p.1.1)
      have h2 : d.toList.map (fun p => p.1.1) = l := by
        apply List.ext_getElem
        · simp [hds]
        · intro i i1 i2
          simp only [List.getElem_map, Array.getElem_toList]
          rw [hdg]
      rwa [h2] at h1
    · rw [List.pairwise_map, List.pairwise_iff_getElem]
      intro i j i1 j1 hij
      have h1 := hs i j (Nat.zero_le _) hij (by rw [← hp1]; simpa using j1)
      rw [getElem!_pos d' i (by simpa using i1), getElem!_pos d' j (by simpa using j1)] at h1
      exact of_decide_eq_false h1
end Gx
namespace Gx
open Go
set_option linter.unusedVariables false
set_option linter.unusedSimpArgs false
/-! ### slices.Chunk(l, 2) -/
def piece (x : Sl) (i : Nat) : Sl := ⟨x.base.map (fun a => a.add (2 * i * 4)), min 2 (x.len - 2 * i), min 2 (x.len - 2 * i)⟩
def pieces (x : Sl) : List Sl := (List.range ((x.len + 1) / 2)).map (piece x)
theorem pieces_len (x : Sl) : (pieces x).length = (x.len + 1) / 2 := by simp [pieces]
theorem pieces_get (x : Sl) {i : Nat} (hi : i < (pieces x).length) : (pieces x)[i] = piece x i := by simp [pieces]
def pairAt (l : List Vl) (i : Nat) : List Vl := (l.drop (2 * i)).take 2
theorem piece_rep {S : Nat → Prop} {h : Heap} {x : Sl} {l : List Vl} (H : VsRepS S h x l) {i : Nat} (hi : 2 * i < l.length) : VsRepS S h (piece x i) (pairAt l i) := by
  have hl := H.len
  have hlen : (pairAt l i).length = min 2 (l.length - 2 * i) := by simp [pairAt]
  refine ⟨by rw [hlen]; show min 2 (x.len - 2 * i) = _; rw [hl], Nat.le_refl _, by show min 2 (x.len - 2 * i) ≤ _; omega, VsAtS.of (fun j hj => ?_)⟩
  rw [hlen] at hj
  obtain ⟨a, cs, ha, hS, hs, hc, hv⟩ := H.get (j := 2 * i + j) (by omega)
  refine ⟨a.add (2 * i * 4), cs, by show x.base.map _ = _; rw [ha]; rfl, by rw [add_block]; exact hS, hs, fun m hm => ?_, ?_⟩
  · rw [Addr.add_add, ← hc m hm]
    congr 2; omega
  · have : (pairAt l i)[j]'(by rw [hlen]; omega) = l[2 * i + j]'(by omega) := by simp [pairAt]
    rw [this]; exact hv
theorem slL3_b {β : Type} {h : Heap} {Q : β → Heap → Prop} {s : Sl} {lo hi mx : Int} {sz : Nat} {f : Sl → M β} (h0 : 0 ≤ lo) (h1 : lo ≤ hi) (h2 : hi ≤ mx) (h3 : mx ≤ s.cap) (H : (f ⟨if mx.toNat = lo.toNat then s.base else s.base.map (·.add (lo.toNat * sz)), hi.toNat - lo.toNat, mx.toNat - lo.toNat⟩).wp h Q) : (slL3 s lo hi mx sz >>= f).wp h Q := ⟨_, ⟨h0, h1, h2, h3, rfl⟩, H⟩
theorem chunk_seq {x : Sl} {a b : Addr} (hlc : x.len ≤ x.cap) (hb : x.len ≤ 1099511627776) {J : Nat → Heap → Prop} (hJ : ∀ i h1, J i h1 → hcell h1 a = some x.v ∧ hcell h1 b = some (.int .i64 2)) :
    SeqW Go.Proofs.Tryd.prog (fun x : Sl => [x.v]) (pieces x) (.func (.func fn_slices_Chunk_slapi_Value_api_Value_1) #[] #[.pointer (some a), .pointer (some b)]) J := by
  intro l Inv Stop h hInv h0 hround
  refine callV_f cl_slices_Chunk_slapi_Value_api_Value_1 (S_slices_Chunk_slapi_Value_api_Value_1 (yV l) a b) ?_
  unfold slices_Chunk_slapi_Value_api_Value_1
  rw [pieces_len]
  refine M.loop_inv (fun (t : Int) h' => ∃ i : Nat, t = ((2 * i : Nat) : Int) ∧ i ≤ (x.len + 1) / 2 ∧ Inv i h') (fun t _ => ((x.len : Int) + 2 - t).toNat) ?_ ⟨0, rfl, Nat.zero_le _, h0⟩
  rintro t h' ⟨i, rfl, hi, hI⟩ self hself
  unfold slices_Chunk_slapi_Value_api_Value_1_l1
  obtain ⟨ca, cb⟩ := hJ i h' (hInv i h' hI)
  refine ldL_b ca (ite_w (fun hc => ?_) (fun hc => ?_))
  · have hlt : 2 * i < x.len := by have := of_decide_eq_true hc; omega
    refine ldI_b cb (ldL_b ca (slL_b (by omega) (by omega) (by omega) (ldL_b ca ?_)))
    have hmin : iMin 2 (((x.len : Int).toNat - ((2 * i : Nat) : Int).toNat : Nat) : Int) = ((min 2 (x.len - 2 * i) : Nat) : Int) := by
      unfold iMin
      (repeat' split) <;> omega
    dsimp only
    rw [hmin, w64 (by omega) (by omega)]
    refine slL3_b (by omega) (by omega) (by omega) (by omega) ?_
    have hp : (⟨if (((2 * i : Nat) : Int) + ((min 2 (x.len - 2 * i) : Nat) : Int)).toNat = ((2 * i : Nat) : Int).toNat then x.base else x.base.map (fun a => a.add (((2 * i : Nat) : Int).toNat * 4)), (((2 * i : Nat) : Int) + ((min 2 (x.len - 2 * i) : Nat) : Int)).toNat - ((2 * i : Nat) : Int).toNat, (((2 * i : Nat) : Int) + ((min 2 (x.len - 2 * i) : Nat) : Int)).toNat - ((2 * i : Nat) : Int).toNat⟩ : Sl) = piece x i := by
      have e1 : (((2 * i : Nat) : Int) + ((min 2 (x.len - 2 * i) : Nat) : Int)).toNat = 2 * i + min 2 (x.len - 2 * i) := by omega
      have e2 : ((2 * i : Nat) : Int).toNat = 2 * i := rfl
      rw [e1, e2, if_neg (by omega)]
      unfold piece
      congr 1 <;> omega
    rw [hp]
    have hr := hround i (by rw [pieces_len]; omega) h' hI
    rw [pieces_get x (by rw [pieces_len]; omega)] at hr
    refine bind_w ((callV _ _ _ _).mono ?_ hr)
    rintro b1 h2 hb1
    cases b1 with
    | true =>
      have hb1 : Inv (i + 1) h2 := hb1
      obtain ⟨ca2, cb2⟩ := hJ _ _ (hInv _ _ hb1)
      refine iteF rfl (ldI_b cb2 ?_)
      rw [w64 (by omega) (by omega)]
      exact hself _ _ ⟨i + 1, by omega, by omega, hb1⟩ (by omega)
    | false => exact iteT rfl (pure_w (.inr hb1))
  · have hge : (x.len + 1) / 2 = i := by have := of_decide_eq_false hc; omega
    rw [hge]
    exact pure_w (.inl hI)
end Gx
namespace Gx
open Go
set_option linter.unusedVariables false
set_option linter.unusedSimpArgs false
/-! ### slices.CompactFunc -/
def cpt : List Vl → List Vl
  | [] => []
  | [a] => [a]
  | a :: b :: r => if cmpV b a = 0 then cpt (b :: r) else a :: cpt (b :: r)
theorem cpt_snoc : ∀ (l : List Vl) (a b : Vl), cpt (l ++ [a, b]) = if cmpV b a = 0 then cpt (l ++ [a]) else cpt (l ++ [a]) ++ [b]
  | [], a, b => by
    show cpt [a, b] = _
    unfold cpt
    by_cases h : cmpV b a = 0
    · have := (cmpV_eq b a).1 h
      subst this
      rw [if_pos h, if_pos h]; rfl
    · rw [if_neg h, if_neg h]; rfl
  | [x], a, b => by
    have ih := cpt_snoc [] a b
    simp only [List.nil_append] at ih
    show cpt (x :: a :: [b]) = if cmpV b a = 0 then cpt [x, a] else cpt [x, a] ++ [b]
    rw [cpt, ih]
    rw [show cpt [x, a] = if cmpV a x = 0 then cpt [a] else x :: cpt [a] from rfl]
    by_cases h1 : cmpV a x = 0 <;> by_cases h2 : cmpV b a = 0 <;> simp [h1, h2]
  | x :: y :: l, a, b => by
    have ih := cpt_snoc (y :: l) a b
    simp only [List.cons_append] at ih ⊢
    rw [cpt, ih]
    rw [show cpt (x :: y :: (l ++ [a])) = if cmpV y x = 0 then cpt (y :: (l ++ [a])) else x :: cpt (y :: (l ++ [a])) from rfl]
    by_cases h1 : cmpV y x = 0 <;> by_cases h2 : cmpV b a = 0 <;> simp [h1, h2]
theorem cpt_take {l : List Vl} {i : Nat} (h1 : 1 ≤ i) (hi : i < l.length) : cpt (l.take (i + 1)) = if cmpV l[i] (l[i - 1]'(by omega)) = 0 then cpt (l.take i) else cpt (l.take i) ++ [l[i]] := by
  have e1 : l.take (i + 1) = l.take (i - 1) ++ [l[i - 1]'(by omega), l[i]] := by
    rw [List.take_succ_eq_append_getElem hi]
    obtain ⟨j, rfl⟩ : ∃ j, i = j + 1 := ⟨i - 1, by omega⟩
    rw [List.take_succ_eq_append_getElem (show j < l.length by omega)]
    simp only [List.append_assoc, List.cons_append, List.nil_append, Nat.add_sub_cancel]
  have e2 : l.take i = l.take (i - 1) ++ [l[i - 1]'(by omega)] := by
    obtain ⟨j, rfl⟩ : ∃ j, i = j + 1 := ⟨i - 1, by omega⟩
    rw [List.take_succ_eq_append_getElem (show j < l.length by omega)]
    simp
  rw [e1, cpt_snoc, ← e2]
theorem cpt_ne : ∀ {l : List Vl}, l ≠ [] → cpt l ≠ []
  | [], h => absurd rfl h
  | [a], _ => by simp [cpt]
  | a :: b :: r, _ => by
    rw [cpt]
    split
    · exact cpt_ne (by simp)
    · simp
theorem cpt_len : ∀ l : List Vl, (cpt l).length ≤ l.length
  | [] => by simp [cpt]
  | [a] => by simp [cpt]
  | a :: b :: r => by
    have := cpt_len (b :: r)
    rw [cpt]
    split <;> simp at this ⊢ <;> omega
/-- a value read from a row of one's own, or from a part of it -/
theorem rd4_b {β : Type} {lo : Nat} {h : Heap} {Q : β → Heap → Prop} {r s : Sl} {css : List (Array Value)} {i k : Nat} {t : Int} {f : Addr → M β} (G : Gw lo h r 4 (flat4 css)) (hw : W4 css) (hs : s.base = r.base.map (fun a => a.add (k * 4))) (hi : k + i < css.length) (ht : t = (i : Int)) (hl : i < s.len)
    (H : ∀ b, r.base = some ⟨b, 0, none⟩ → (∀ j, j < 4 → hcell h ((⟨b, (k + i) * 4, none⟩ : Addr).add j) = css[k + i][j]?) → (f ⟨b, (k + i) * 4, none⟩).wp h Q) : (ixL s t 4 >>= f).wp h Q := by
  subst ht
  obtain ⟨b, hb, hon, hc⟩ := G.row4 hw hi
  refine ixL_b (b := ⟨b, k * 4, none⟩) (by omega) (by omega) (by rw [hs, hb]; show some ((⟨b, 0, none⟩ : Addr).add (k * 4)) = _; rw [add_mk, Nat.zero_add]) ?_
  rw [add_mk, show k * 4 + (i : Int).toNat * 4 = (k + i) * 4 by omega]
  refine H b hb (fun j hj => ?_)
  have := hc j hj
  rw [add_mk, Nat.zero_add] at this
  rw [add_mk]
  exact this
theorem add0 (b : Option Addr) (h : ∀ a, b = some a → a.spot = none) : b.map (fun a => a.add (0 * 4)) = b := by
  cases b with
  | none => rfl
  | some a =>
    have := h a rfl
    cases a with
    | mk bl of sp => subst this; simp [add_mk]
theorem Gw.base0 {lo : Nat} {h : Heap} {r : Sl} {sz : Nat} {vs : List Value} (G : Gw lo h r sz vs) : r.base.map (fun a => a.add (0 * 4)) = r.base := by
  rcases G with ⟨rfl, _⟩ | ⟨b, ty, cells, R⟩
  · rfl
  · rw [R.base]; show some ((⟨b, 0, none⟩ : Addr).add (0 * 4)) = _; rw [add_mk]

theorem same_call {a b : Vl} {h : Heap} {Q : Bool → Heap → Prop} {x y : Array Value} (hx : VRep h a x) (hy : VRep h b y) (H : ∀ h', Ext h h' → Q (decide (cmpV a b = 0)) h') : (callW Go.Proofs.Tryd.prog (fun r : Bool => .bool r) (.func (.func fn_value_Same) #[] #[]) [.agg x, .agg y]).wp h Q :=
  callW_f cl_value_Same (S_value_Same x y) (vsame_spec hx hy H)
theorem compact_spec {lo : Nat} {S : Nat → Prop} {h : Heap} {Q : Sl → Heap → Prop} {r : Sl} {css : List (Array Value)} {l : List Vl} (G : VGw lo S h r css l) (hS : ∀ b, S b → b < h.size ∧ ¬ Sl.on r b) (hm : l.length ≤ 1099511627776)
    (H : ∀ h' r' css', VGw lo S h' r' css' (cpt l) → h.size ≤ h'.size → (∀ i, i < h.size → ¬ Sl.on r i → h'[i]? = h[i]?) → (∀ i, Sl.on r' i → Sl.on r i) → Q r' h') :
    (slices_CompactFunc_slapi_Value_api_Value r (.func (.func fn_value_Same) #[] #[])).wp h Q := by
  unfold slices_CompactFunc_slapi_Value_api_Value
  have hrl := G.gw.len4 G.w4
  have hgl := G.len
  refine ite_w (fun hc => ?_) (fun hc => ?_)
  · have hlt : l.length < 2 := by have := of_decide_eq_true hc; omega
    have hcpt : cpt l = l := by
      match l, hlt with
      | [], _ => rfl
      | [a], _ => rfl
      | _ :: _ :: _, h => exact absurd h (by simp)
    refine pure_w (H h r css (by rw [hcpt]; exact G) (Nat.le_refl _) (fun i _ _ => rfl) (fun i h => h))
  have h2l : 2 ≤ l.length := by have := of_decide_eq_false hc; omega
  have hcap := G.gw.cap
  refine M.loop_inv (fun (t : Int) h' => ∃ k : Nat, t = (k : Int) ∧ 1 ≤ k ∧ k ≤ l.length ∧ Ext h h' ∧ cpt (l.take k) = l.take k) (fun t _ => ((l.length : Int) - t).toNat) ?_ ⟨1, rfl, Nat.le_refl _, by omega, Ext.refl _, by
    obtain ⟨a, b, hl⟩ : ∃ a b, l = a :: b := by cases l with | nil => simp at h2l | cons a b => exact ⟨a, b, rfl⟩
    rw [hl]; rfl⟩
  rintro t h1 ⟨k, rfl, hk1, hk, E, hcp⟩ self hself
  unfold slices_CompactFunc_slapi_Value_api_Value_l1
  have gr : ∀ {hh : Heap}, Ext h hh → VGw lo S hh r css l := fun e => G.same (fun b hb => e.same b (G.gw.lt hb).1) (fun b hb => e.same b (hS b hb).1)
  refine ite_w (fun hc => ?_) (fun hc => ?_)
  · have hlt : k < l.length := by have := of_decide_eq_true hc; omega
    have G1 := gr E
    have hkk : IntKind.wrap .i64 ((k : Int) - 1) = ((k - 1 : Nat) : Int) := by rw [w64 (by omega) (by omega)]; omega
    rw [hkk]
    refine rd4_b (s := r) (k := 0) (i := k) G1.gw G1.w4 G1.gw.base0.symm (by omega) rfl (by omega) (fun b hb hc0 => ?_)
    refine rd4_b (s := r) (k := 0) (i := k - 1) G1.gw G1.w4 G1.gw.base0.symm (by omega) rfl (by omega) (fun b' hb' hc1 => ?_)
    rw [hb] at hb'; cases hb'
    have r0 := G1.rep (0 + k) (by omega) (by omega)
    have r1 := G1.rep (0 + (k - 1)) (by omega) (by omega)
    refine ldG_b r0.size hc0 (ldG_b r1.size hc1 (bind_w (same_call r0.to r1.to (fun h2 e2 => ?_))))
    have E2 := E.trans e2
    have ecmp : cmpV (l[0 + k]'(by omega)) (l[0 + (k - 1)]'(by omega)) = cmpV l[k] (l[k - 1]'(by omega)) := by
      congr 1 <;> congr 1 <;> omega
    rw [ecmp]
    have htk := cpt_take hk1 hlt
    refine ite_w (fun hd => ?_) (fun hd => ?_)
    · -- from here on the rest is moved
      have hd : cmpV l[k] (l[k - 1]'(by omega)) = 0 := of_decide_eq_true hd
      rw [if_pos hd, hcp] at htk
      refine slL_b (by omega) (by omega) (by omega) ?_
      rw [show ((k : Int).toNat) = k from rfl, if_neg (show ¬ r.cap = k by omega)]
      refine M.loop_inv (fun (t : Int × Int) hh => ∃ (q j : Nat) (cs2 : List (Array Value)), t = ((q : Int), (j : Int)) ∧ 1 ≤ j ∧ k + j ≤ l.length ∧ q + 1 ≤ k + j ∧ (cpt (l.take (k + j))).length = q ∧ Gw lo hh r 4 (flat4 cs2) ∧ W4 cs2 ∧ cs2.length = l.length ∧ (∀ i (i1 : i < (cpt (l.take (k + j))).length) (i2 : i < cs2.length), VRepS S hh (cpt (l.take (k + j)))[i] cs2[i]) ∧ (∀ i (i1 : i < l.length) (i2 : i < cs2.length), k + j ≤ i + 1 → VRepS S hh l[i] cs2[i]) ∧ h.size ≤ hh.size ∧ (∀ i, i < h.size → ¬ Sl.on r i → hh[i]? = h[i]?)) (fun t _ => ((l.length : Int) - t.2).toNat) ?_
        ⟨k, 1, css, rfl, Nat.le_refl _, hlt, Nat.le_refl _, by rw [htk]; simp; omega, (gr E2).gw, G.w4, hgl, fun i i1 i2 => by
          have e3 : (cpt (l.take (k + 1)))[i]'i1 = l[i]'(by rw [htk] at i1; simp at i1; omega) := by
            simp only [htk, List.getElem_take]
          rw [e3]
          exact (gr E2).rep i _ i2, fun i i1 i2 _ => (gr E2).rep i i1 i2, E2.size, fun i hi _ => E2.same i hi⟩
      rintro t hh ⟨q, j, cs2, rfl, hj1, hkj, hqk, hql, Gq, w4q, hcl, hnew, hold, hsz, hsame⟩ self2 hself2
      unfold slices_CompactFunc_slapi_Value_api_Value_l2
      dsimp only
      have hlen2 : ((r.len : Int).toNat - k : Nat) = r.len - k := rfl
      have hsb : r.base.map (fun a => a.add (k * 4)) = r.base.map (fun a => a.add (k * 4)) := rfl
      refine ite_w (fun hc => ?_) (fun hc => ?_)
      · have hlt2 : k + j < l.length := by have := of_decide_eq_true hc; omega
        have hjj : IntKind.wrap .i64 ((j : Int) - 1) = ((j - 1 : Nat) : Int) := by rw [w64 (by omega) (by omega)]; omega
        rw [hjj]
        refine rd4_b (k := k) (i := j) Gq w4q hsb (by omega) rfl (by show j < (r.len : Int).toNat - k; omega) (fun b2 hb2 hc0 => ?_)
        refine rd4_b (k := k) (i := j - 1) Gq w4q hsb (by omega) rfl (by show j - 1 < (r.len : Int).toNat - k; omega) (fun b3 hb3 hc1 => ?_)
        rw [hb2] at hb3; cases hb3
        have s0 := hold (k + j) hlt2 (by omega) (by omega)
        have s1 := hold (k + (j - 1)) (by omega) (by omega) (by omega)
        refine ldG_b s0.size hc0 (ldG_b s1.size hc1 (bind_w (same_call s0.to s1.to (fun h3 e3 => ?_))))
        have ecmp2 : cmpV (l[k + j]'hlt2) (l[k + (j - 1)]'(by omega)) = cmpV (l[k + j]'hlt2) (l[k + j - 1]'(by omega)) := by
          congr 1; congr 1; omega
        rw [ecmp2]
        have htk2 := cpt_take (l := l) (i := k + j) (by omega) hlt2
        have hSe : ∀ b, S b → h3[b]? = hh[b]? := fun b hb => e3.same b (Nat.lt_of_lt_of_le (hS b hb).1 hsz)
        have Gq3 := Gq.ext e3
        have hw1 : IntKind.wrap .i64 ((j : Int) + 1) = ((j + 1 : Nat) : Int) := by rw [w64 (by omega) (by omega)]; simp
        unfold slices_CompactFunc_slapi_Value_api_Value_j1
        rw [hw1]
        refine ite_w (fun hd2 => ?_) (fun hd2 => ?_)
        · have hd2 : ¬ cmpV (l[k + j]'hlt2) (l[k + j - 1]'(by omega)) = 0 := by simpa using hd2
          rw [if_neg hd2] at htk2
          refine rd4_b (k := k) (i := j) Gq3 w4q hsb (by omega) rfl (by show j < (r.len : Int).toNat - k; omega) (fun b4 hb4 hc4 => ?_)
          have s4 := s0.same hSe
          refine ldG_b s4.size hc4 ?_
          refine vset_b Gq3 w4q (i := q) (by omega) rfl s4.size s4.to.one (fun b5 h5 hb5 u5 G5 => ?_)
          have hon : Sl.on r b5 := ⟨_, hb5, rfl⟩
          have hS5 : ∀ b, S b → h5[b]? = hh[b]? := fun b hb => (u5.ne b (fun e => (hS b hb).2 (e ▸ hon))).trans (hSe b hb)
          rw [w64 (by omega) (by omega)]
          have hlq : (cpt (l.take (k + (j + 1)))).length = q + 1 := by rw [show k + (j + 1) = k + j + 1 by omega, htk2, List.length_append, hql]; rfl
          refine hself2 _ _ ⟨q + 1, j + 1, cs2.set q cs2[k + j], rfl, by omega, by omega, by omega, hlq, G5, w4q.set s4.size s4.to.one, by rw [List.length_set]; exact hcl, fun i i1 i2 => ?_, fun i i1 i2 hi => ?_, by have := e3.size; have := u5.size; omega, fun i hi hno => ?_⟩ (by dsimp only; omega)
          · have eq1 : (cpt (l.take (k + (j + 1))))[i]'i1 = (cpt (l.take (k + j)) ++ [l[k + j]'hlt2])[i]'(by rw [List.length_append, hql]; rw [hlq] at i1; exact i1) := by
              simp only [show k + (j + 1) = k + j + 1 by omega, htk2]
            rw [eq1]
            by_cases hiq : q = i
            · subst hiq
              rw [List.getElem_set_self, List.getElem_append_right (by omega)]
              simp only [hql, Nat.sub_self, List.getElem_cons_zero]
              exact s0.same hS5
            · rw [List.getElem_set_ne hiq, List.getElem_append_left (by rw [hql]; rw [hlq] at i1; omega)]
              exact (hnew i (by rw [hql]; rw [hlq] at i1; omega) (by simpa using i2)).same hS5
          · rw [List.getElem_set_ne (by omega)]
            exact (hold i i1 (by simpa using i2) (by omega)).same hS5
          · rw [u5.ne i (fun e => hno (e ▸ hon)), e3.same i (by omega)]
            exact hsame i hi hno
        · have hd2 : cmpV (l[k + j]'hlt2) (l[k + j - 1]'(by omega)) = 0 := by simpa using hd2
          rw [if_pos hd2] at htk2
          have hkj1 : k + (j + 1) = k + j + 1 := by omega
          refine hself2 _ _ ⟨q, j + 1, cs2, rfl, by omega, by omega, by omega, by rw [hkj1, htk2]; exact hql, Gq3, w4q, hcl, fun i i1 i2 => ?_, fun i i1 i2 hi => (hold i i1 i2 (by omega)).same hSe, by have := e3.size; omega, fun i hi hno => (e3.same i (by omega)).trans (hsame i hi hno)⟩ (by dsimp only; omega)
          have eq1 : (cpt (l.take (k + (j + 1))))[i]'i1 = (cpt (l.take (k + j)))[i]'(by rw [hkj1, htk2] at i1; exact i1) := by
            simp only [hkj1, htk2]
          rw [eq1]
          exact (hnew i _ i2).same hSe
      · have hge : k + j = l.length := by have := of_decide_eq_false hc; omega
        rw [hge, List.take_length] at hql hnew
        refine slL_b (by omega) (by omega) (by omega) ?_
        rw [show ((q : Int).toNat) = q from rfl, if_neg (show ¬ r.cap = q by omega)]
        rcases Gq with ⟨rfl, hnil⟩ | ⟨b9, ty9, cells9, R9⟩
        · have := flat4_len w4q; rw [hnil] at this; simp at this; omega
        have hcz := R9.size
        have hon : Sl.on r b9 := ⟨_, R9.base, rfl⟩
        rw [R9.base]
        have hsz4 : (zRow (#[.int .i64 0, .int .i64 0, .string ByteArray.empty, .slice none 0 0] : Array Value) (((r.len : Int).toNat - q) * 4)).toList.length = (r.len - q) * 4 := by rw [Array.length_toList, zRow_size]; rfl
        refine .inr ⟨⟨b9, q * 4, none⟩, by show some ((⟨b9, 0, none⟩ : Addr).add (q * 4)) = _; rw [add_mk, Nat.zero_add], by show (r.len : Int).toNat - q ≠ 0; omega, fun j hj => ?_, fun v hv => by simp at hv; rcases hv with rfl | rfl | rfl | rfl <;> rfl, ?_⟩
        · have hj : j < ((r.len : Int).toNat - q) * 4 := hj
          rw [add_mk, hcell_blk R9.blk, hfrozen_blk R9.blk]
          exact ⟨⟨_, Array.getElem?_eq_getElem (by omega)⟩, rfl⟩
        have hat := hsetL_at (o := q * 4) (zRow (#[.int .i64 0, .int .i64 0, .string ByteArray.empty, .slice none 0 0] : Array Value) (((r.len : Int).toNat - q) * 4)).toList hh 0 _ R9.blk
        rw [Nat.add_zero] at hat
        have u9 := Upd.hsetL hh b9 (q * 4) (zRow (#[.int .i64 0, .int .i64 0, .string ByteArray.empty, .slice none 0 0] : Array Value) (((r.len : Int).toNat - q) * 4)).toList 0
        show (slL r 0 (q : Int) 4 >>= fun x => M.pure x).wp (hsetL hh ⟨b9, q * 4, none⟩ (zRow (#[.int .i64 0, .int .i64 0, .string ByteArray.empty, .slice none 0 0] : Array Value) (((r.len : Int).toNat - q) * 4)).toList 0) Q
        generalize hsetL hh ⟨b9, q * 4, none⟩ (zRow (#[.int .i64 0, .int .i64 0, .string ByteArray.empty, .slice none 0 0] : Array Value) (((r.len : Int).toNat - q) * 4)).toList 0 = h9 at hat u9 ⊢
        refine slL_b (by omega) (by omega) (by omega) (pure_w ?_)
        rw [show (0 : Int).toNat = 0 from rfl, if_neg (show ¬ r.cap = 0 by omega), R9.base, show (some (⟨b9, 0, none⟩ : Addr)).map (fun a => a.add (0 * 4)) = some ⟨b9, 0, none⟩ by show some ((⟨b9, 0, none⟩ : Addr).add (0 * 4)) = _; rw [add_mk]]
        have hw4t : W4 (cs2.take q) := fun c hc => w4q c (List.mem_of_mem_take hc)
        have hft := flat4_len hw4t
        rw [List.length_take] at hft
        have hSe : ∀ b, S b → h9[b]? = hh[b]? := fun b hb => u9.ne b (fun e => (hS b hb).2 (e ▸ hon))
        refine H h9 _ (cs2.take q) ⟨.inr ⟨b9, ty9, _, rfl, R9.lo, hat, by rw [lay_size]; exact R9.size, by show (q : Int).toNat - 0 ≤ _; show q - 0 ≤ r.cap - 0; omega, by rw [hft]; show min q cs2.length * 4 = (q - 0) * 4; omega, fun j v hj => ?_⟩, hw4t, by rw [List.length_take, hql]; omega, fun i i1 i2 => ?_⟩ (by rw [u9.size]; exact hsz) (fun i hi hno => (u9.ne i (fun e => hno (e ▸ hon))).trans (hsame i hi hno)) (fun i ⟨a, ha, hab⟩ => ⟨a, by rw [R9.base]; exact ha, hab⟩)
        · have hlt := (List.getElem?_eq_some_iff.1 hj).1
          rw [hft] at hlt
          have hpre : (flat4 cs2)[j]? = some v := by
            have e : flat4 cs2 = flat4 (cs2.take q) ++ flat4 (cs2.drop q) := by
              unfold flat4
              rw [← List.flatMap_append, List.take_append_drop]
            rw [e, List.getElem?_append_left (by rw [hft]; exact hlt)]
            exact hj
          have := R9.get j v hpre
          rw [← Array.getElem?_toList, lay_toList _ _ _ (by omega), List.append_assoc, List.getElem?_append_left (by rw [List.length_take, Array.length_toList]; omega), List.getElem?_take, if_pos (by omega), Array.getElem?_toList]
          exact this
        · rw [List.getElem_take]
          exact (hnew i i1 _).same hSe
    · have hd : ¬ cmpV l[k] (l[k - 1]'(by omega)) = 0 := of_decide_eq_false hd
      rw [if_neg hd, hcp] at htk
      rw [w64 (by omega) (by omega)]
      exact hself _ _ ⟨k + 1, by simp, by omega, by omega, E2, by rw [htk, ← List.take_succ_eq_append_getElem hlt]⟩ (by omega)
  · have hge : k = l.length := by have := of_decide_eq_false hc; omega
    subst hge
    rw [List.take_length] at hcp
    exact pure_w (H h1 r css (by rw [hcp]; exact gr E) E.size (fun i hi _ => E.same i hi) (fun i h => h))
end Gx
namespace Gx
open Go
set_option linter.unusedVariables false
set_option linter.unusedSimpArgs false
/-! ### A strings.Builder of one's own -/
/-- of what type a slice's block is -/
def KT (h : Heap) (r : Sl) (e : TypeId) : Prop := ∀ g, r.base = some ⟨g, 0, none⟩ → ∃ c z, h[g]? = some (.cells c e z)
theorem KT.same {h h' : Heap} {r : Sl} {e : TypeId} (k : KT h r e) (hs : ∀ i, Sl.on r i → h'[i]? = h[i]?) : KT h' r e := fun g hg => by
  obtain ⟨c, z, hh⟩ := k g hg
  exact ⟨c, z, (hs g ⟨_, hg, rfl⟩).trans hh⟩
theorem apGo_grow {lo : Nat} {h : Heap} {Q : Sl → Heap → Prop} {e sz bytes k : Nat} {z : Array Value} {r : Sl} {vs news : List Value} (hz : z.size = sz) (H : Gw lo h r sz vs) (hn : news.length = k * sz) (h1 : ∀ v ∈ news, one v = true)
    (hb : (r.len + k) * bytes ≤ 140737488355328) (hm : r.len + k ≤ 9223372036854775807) (hlo : lo ≤ h.size) (hnz : r.cap = 0 → r = Sl.nil) (hk : KT h r e)
    (hq : ∀ h' r', Gw lo h' r' sz (vs ++ news) → r'.len = r.len + k → h.size ≤ h'.size → (∀ i, i < h.size → ¬ Sl.on r i → h'[i]? = h[i]?) → (∀ i, Sl.on r' i → Sl.on r i ∨ h.size ≤ i) → (r'.cap = 0 → r' = Sl.nil) → KT h' r' e → Q r' h') : apGo e sz bytes z r k news h Q := by
  unfold apGo
  split
  · rename_i hc
    have hz' : (⟨r.base, r.len + k, r.cap⟩ : Sl).cap = 0 → (⟨r.base, r.len + k, r.cap⟩ : Sl) = Sl.nil := fun h0 => by
      have h0 : r.cap = 0 := h0
      have := hnz h0
      subst this
      have : k = 0 := by simp [Sl.nil] at hc; exact hc
      subst this
      rfl
    rcases H with ⟨rfl, rfl⟩ | ⟨b, ty, cells, H⟩
    · have h0 : k = 0 := by simp [Sl.nil] at hc; exact hc
      subst h0
      have : news = [] := List.length_eq_zero_iff.1 (by rw [hn]; simp)
      subst this
      refine ⟨fun a ha => (by cases ha), by simp, ?_⟩
      exact hq h _ (.inl ⟨rfl, rfl⟩) rfl (Nat.le_refl _) (fun i _ _ => rfl) (fun i hi => .inl hi) hz' hk
    · have hsz : r.len * sz + news.length ≤ cells.size := by
        rw [hn, H.size, ← Nat.add_mul]
        exact Nat.mul_le_mul_right _ hc
      have hblk : (hputL h r.base (r.len * sz) news)[b]? = some (.cells (lay cells (r.len * sz) news) ty (0, 0)) := by
        rw [H.base]
        show (hsetL h ((⟨b, 0, none⟩ : Addr).add (r.len * sz)) news 0)[b]? = _
        rw [add_mk, Nat.zero_add, hsetL_at _ _ _ _ H.blk, Nat.add_zero]
      have hne : ∀ i, i ≠ b → (hputL h r.base (r.len * sz) news)[i]? = h[i]? := fun i hi => by
        rw [H.base]
        show (hsetL h ((⟨b, 0, none⟩ : Addr).add (r.len * sz)) news 0)[i]? = _
        rw [add_mk, hsetL_ne hi]
      have hsize : (hputL h r.base (r.len * sz) news).size = h.size := by
        rw [H.base]
        exact hsetL_size _ _ _
      refine ⟨fun a ha j hj => ?_, h1, hq _ _ (.inr ⟨b, ty, _, H.base, H.lo, hblk, ?_, hc, ?_, fun j v hj => ?_⟩) rfl (by rw [hsize]; exact Nat.le_refl _) (fun i hi hno => hne i (fun e => hno ⟨_, H.base, e.symm⟩)) (fun i hi => .inl hi) hz' (fun g hg => ?_)⟩
      · rw [H.base] at ha; cases ha
        rw [add_mk, add_mk, Nat.zero_add, hcell_blk H.blk, hfrozen_blk H.blk]
        exact ⟨⟨_, Array.getElem?_eq_getElem (by omega)⟩, rfl⟩
      · rw [lay_size]; exact H.size
      · rw [List.length_append, H.len, hn, Nat.add_mul]
      · rw [← Array.getElem?_toList, lay_toList _ _ _ hsz]
        have hlen : (cells.toList.take (r.len * sz)).length = r.len * sz := by rw [List.length_take, Array.length_toList]; omega
        by_cases hj1 : j < vs.length
        · rw [List.getElem?_append_left hj1] at hj
          have := H.get j v hj
          rw [List.append_assoc, List.getElem?_append_left (by rw [hlen, ← H.len]; exact hj1), List.getElem?_take, if_pos (by rw [← H.len]; exact hj1), Array.getElem?_toList]
          exact this
        · rw [List.getElem?_append_right (by omega)] at hj
          have hjn : j - vs.length < news.length := (List.getElem?_eq_some_iff.1 hj).1
          rw [List.append_assoc, List.getElem?_append_right (by rw [hlen, ← H.len]; omega), hlen, List.getElem?_append_left (by rw [← H.len]; exact hjn), ← H.len]
          exact hj
      · have hg : r.base = some ⟨g, 0, none⟩ := hg
        rw [H.base] at hg; cases hg
        obtain ⟨c, z, hh⟩ := hk b H.base
        rw [H.blk] at hh; cases hh
        exact ⟨_, _, hblk⟩
  · rename_i hc
    refine ⟨hb, hm, vs, H.len, H.reads, fun cap hcap => ?_⟩
    have hl := H.len
    refine hq _ _ (.inr ⟨h.size, e, _, rfl, hlo, get_push_eq, ?_, hcap, ?_, fun j v hj => ?_⟩) rfl (by simp) (fun i hi _ => get_push_lt hi) (fun i hi => .inr ?_) (fun h0 => by have h0 : cap = 0 := h0; omega) (fun g hg => by cases hg; exact ⟨_, _, get_push_eq⟩)
    · rw [Array.size_append, Array.size_append, zRow_size, List.size_toArray, List.size_toArray, hl, hn, hz]
      show r.len * sz + k * sz + (cap - (r.len + k)) * sz = cap * sz
      rw [← Nat.add_mul, ← Nat.add_mul]
      congr 1
      omega
    · rw [List.length_append, hl, hn, Nat.add_mul]
    · have hlt : j < (vs ++ news).length := (List.getElem?_eq_some_iff.1 hj).1
      rw [Array.getElem?_append_left (by simpa using hlt)]
      rw [← hj]
      simp
    · obtain ⟨a, ha, rfl⟩ := hi
      cases ha
      exact Nat.le_refl _
theorem apS_b {β : Type} {e : Nat} {s : Sl} {x : ByteArray} {h : Heap} {Q : β → Heap → Prop} {f : Sl → M β} (H : apGo e 1 1 #[.int .u8 0] s x.size (sbytes x) h (fun r h' => (f r).wp h' Q)) : (apS e s x >>= f).wp h Q := H
theorem apL_b {β : Type} {e sz bytes : Nat} {z : Array Value} {s x : Sl} {news : List Value} {h : Heap} {Q : β → Heap → Prop} {f : Sl → M β} (hn : news.length = x.len * sz) (hr : Reads h x.base news) (H : apGo e sz bytes z s x.len news h (fun r h' => (f r).wp h' Q)) : (apL e sz bytes z s x >>= f).wp h Q := ⟨news, hn, hr, H⟩
theorem sbytes_bs (l : List UInt8) : sbytes (bs l) = l.map bv := rfl
/-- what a builder holds -/
structure Bld (lo : Nat) (h : Heap) (b : Nat) (r : Sl) (l : List UInt8) : Prop where
  low : lo ≤ b
  ptr : ∃ p, h[b]? = some (.cells #[p, r.v] ty_strings_Builder (0, 0)) ∧ (p = .pointer none ∨ p = .pointer (some ⟨b, 0, none⟩))
  row : Gw lo h r 1 (l.map bv)
  off : ¬ Sl.on r b
  nz : r.cap = 0 → r = Sl.nil
  kt : KT h r ty_uint8
theorem Bld.len {lo : Nat} {h : Heap} {b : Nat} {r : Sl} {l : List UInt8} (B : Bld lo h b r l) : r.len = l.length := by
  have := B.row.len
  simp at this
  exact this.symm
theorem Bld.lt {lo : Nat} {h : Heap} {b : Nat} {r : Sl} {l : List UInt8} (B : Bld lo h b r l) : b < h.size := by
  obtain ⟨p, h1, _⟩ := B.ptr
  exact blk_lt h1
theorem Bld.ext {lo : Nat} {h h' : Heap} {b : Nat} {r : Sl} {l : List UInt8} (B : Bld lo h b r l) (e : Ext h h') : Bld lo h' b r l := by
  obtain ⟨p, h1, h2⟩ := B.ptr
  exact ⟨B.low, ⟨p, e.blk h1, h2⟩, B.row.ext e, B.off, B.nz, B.kt.same (fun i hi => e.same i (B.row.lt hi).1)⟩
theorem Bld.new {lo : Nat} {h h' : Heap} (hl : lo ≤ h.size) (hb : h'[h.size]? = some (.cells #[.pointer none, .slice none 0 0] ty_strings_Builder (0, 0))) : Bld lo h' h.size Sl.nil [] :=
  ⟨hl, ⟨_, hb, .inl rfl⟩, Gw.nil _ _ _, fun ⟨a, ha, _⟩ => (by cases ha), fun _ => rfl, fun g hg => by cases hg⟩
/-- what a builder's work leaves as it was -/
structure BKeep (b : Nat) (r r' : Sl) (h h' : Heap) : Prop where
  size : h.size ≤ h'.size
  same : ∀ i, i < h.size → i ≠ b → ¬ Sl.on r i → h'[i]? = h[i]?
  on_ : ∀ i, Sl.on r' i → Sl.on r i ∨ h.size ≤ i
theorem BKeep.refl (b : Nat) (r : Sl) (h : Heap) : BKeep b r r h h := ⟨Nat.le_refl _, fun _ _ _ _ => rfl, fun _ h => .inl h⟩
theorem BKeep.trans {b : Nat} {r r' r'' : Sl} {h h' h'' : Heap} (k : BKeep b r r' h h') (k' : BKeep b r' r'' h' h'') (hb : b < h.size) : BKeep b r r'' h h'' :=
  ⟨Nat.le_trans k.size k'.size, fun i hi hne hno => (k'.same i (Nat.lt_of_lt_of_le hi k.size) hne (fun ho => (k.on_ i ho).elim hno (fun h => by omega))).trans (k.same i hi hne hno),
   fun i hi => (k'.on_ i hi).elim (fun h => k.on_ i h) (fun h => .inr (Nat.le_trans k.size h))⟩
theorem BKeep.ext {lo : Nat} {b : Nat} {r r' : Sl} {h0 h h' : Heap} {l : List UInt8} (e : Ext h0 h) (B : Bld lo h b r l) (hl : h0.size ≤ lo) (k : BKeep b r r' h h') : Ext h0 h' :=
  ⟨Nat.le_trans e.size k.size, fun i hi => (k.same i (Nat.lt_of_lt_of_le hi e.size) (by have := B.low; omega) (fun ho => by have := (B.row.lt ho).2; omega)).trans (e.same i hi)⟩
/-- the same, where a block is put away -/
theorem BKeep.push {b : Nat} {r r' : Sl} {h h' h'' : Heap} (k : BKeep b r r' h h') (e : Ext h' h'') : BKeep b r r' h h'' :=
  ⟨Nat.le_trans k.size e.size, fun i hi h1 h2 => (e.same i (Nat.lt_of_lt_of_le hi k.size)).trans (k.same i hi h1 h2), k.on_⟩
theorem ext_bkeep {b : Nat} {r : Sl} {h h' : Heap} (e : Ext h h') : BKeep b r r h h' := ⟨e.size, fun i hi _ _ => e.same i hi, fun i h => .inl h⟩
theorem hset_cells {h : Heap} {b : Nat} {p v u : Value} {t : TypeId} (hb : h[b]? = some (.cells #[p, v] t (0, 0))) : (hset h ⟨b, 1, none⟩ u)[b]? = some (.cells #[p, u] t (0, 0)) := by
  rw [hset_at hb]; rfl
theorem hset_cells0 {h : Heap} {b : Nat} {p v u : Value} {t : TypeId} (hb : h[b]? = some (.cells #[p, v] t (0, 0))) : (hset h ⟨b, 0, none⟩ u)[b]? = some (.cells #[u, v] t (0, 0)) := by
  rw [hset_at hb]; rfl
theorem ty_bld : ty_strings_Builder = 53 := rfl
/-- the builder's own check -/
theorem copyCheck_b {β : Type} {lo : Nat} {h : Heap} {b : Nat} {r : Sl} {l : List UInt8} {Q : β → Heap → Prop} {f : Unit → M β} (B : Bld lo h b r l)
    (H : ∀ h', Bld lo h' b r l → Upd b h h' → (f ()).wp h' Q) : (strings_Builder_copyCheck (some ⟨b, 0, none⟩) >>= f).wp h Q := by
  obtain ⟨p, h1, h2⟩ := B.ptr
  refine ⟨b, p, r.v, rfl, h1, ?_⟩
  rcases h2 with rfl | rfl
  · refine .inr ⟨rfl, H _ ⟨B.low, ⟨_, hset_cells0 h1, .inr rfl⟩, B.row.same (fun i hi => hset_ne (fun e => B.off ((show i = b from e) ▸ hi))), B.off, B.nz, B.kt.same (fun i hi => hset_ne (fun e => B.off ((show i = b from e) ▸ hi)))⟩ (Upd.hset _ _ _ _)⟩
  · exact .inl ⟨rfl, H _ B (Upd.refl _ _)⟩
/-- what is appended to the buffer, and put back -/
theorem bld_put {lo : Nat} {h h0 h' : Heap} {b : Nat} {r r' : Sl} {l l' : List UInt8} (B : Bld lo h0 b r l) (u : Upd b h h0) (hs : h0.size ≤ h'.size)
    (same : ∀ i, i < h0.size → ¬ Sl.on r i → h'[i]? = h0[i]?) (on_ : ∀ i, Sl.on r' i → Sl.on r i ∨ h0.size ≤ i) (G : Gw lo h' r' 1 (l'.map bv)) (nz : r'.cap = 0 → r' = Sl.nil) (kt : KT h' r' ty_uint8) :
    Bld lo (hset h' ⟨b, 1, none⟩ r'.v) b r' l' ∧ BKeep b r r' h (hset h' ⟨b, 1, none⟩ r'.v) := by
  have hb := B.lt
  obtain ⟨p, h1, h2⟩ := B.ptr
  have h1' : h'[b]? = some (.cells #[p, r.v] ty_strings_Builder (0, 0)) := by rw [same b hb B.off]; exact h1
  have hoff : ¬ Sl.on r' b := fun ho => (on_ b ho).elim B.off (fun h => by omega)
  refine ⟨⟨B.low, ⟨p, hset_cells h1', h2⟩, G.same (fun i hi => hset_ne (fun e => hoff ((show i = b from e) ▸ hi))), hoff, nz, kt.same (fun i hi => hset_ne (fun e => hoff ((show i = b from e) ▸ hi)))⟩, ?_, fun i hi hne hno => ?_, fun i hi => ?_⟩
  · rw [hset_size, ← u.size]; exact hs
  · rw [hset_ne hne, same i (by rw [u.size]; exact hi) hno, u.ne i hne]
  · rw [← u.size]; exact on_ i hi

theorem wstr_spec {lo : Nat} {h : Heap} {b : Nat} {r : Sl} {l s : List UInt8} {Q : Int × Value → Heap → Prop} (B : Bld lo h b r l) (hlo : lo ≤ h.size) (hm : l.length + s.length ≤ 140737488355328)
    (H : ∀ h' r' n, Bld lo h' b r' (l ++ s) → BKeep b r r' h h' → Q (n, Value.nilIface) h') : (strings_Builder_WriteString (some ⟨b, 0, none⟩) (bs s)).wp h Q := by
  unfold strings_Builder_WriteString
  refine copyCheck_b B (fun h0 B0 u => nilP_b ?_)
  obtain ⟨p, h1, h2⟩ := B0.ptr
  have hl := B0.len
  refine ldL_b (n := r) (by rw [add_mk, hcell_blk h1]; rfl) ?_
  refine apS_b ?_
  rw [sbytes_bs, bs_size]
  refine apGo_grow (vs := l.map bv) (z := #[.int .u8 0]) rfl B0.row (by simp) (fun v hv => by obtain ⟨x, _, rfl⟩ := List.mem_map.1 hv; rfl) (by omega) (by omega) (by rw [u.size]; exact hlo) B0.nz B0.kt (fun h' r' G hlen hs same on_ nz kt => ?_)
  refine nilP_b ?_
  rw [← List.map_append] at G
  obtain ⟨B', K⟩ := bld_put B0 u hs same on_ G nz kt
  have h1' : h'[b]? = some (.cells #[p, r.v] ty_strings_Builder (0, 0)) := by rw [same b B0.lt B0.off]; exact h1
  refine stV_b (x := r.v) (by rw [add_mk, hcell_blk h1']; rfl) (by rw [add_mk, hfrozen_blk h1']) (one_v _) (pure_w ?_)
  rw [add_mk]
  exact H _ _ _ B' K
theorem wbyte_spec {lo : Nat} {h : Heap} {b : Nat} {r : Sl} {l : List UInt8} {c : UInt8} {n : Int} {Q : Value → Heap → Prop} (B : Bld lo h b r l) (hlo : lo ≤ h.size) (hm : l.length + 1 ≤ 140737488355328) (hn : n = (c.toNat : Int))
    (H : ∀ h' r', Bld lo h' b r' (l ++ [c]) → BKeep b r r' h h' → Q Value.nilIface h') : (strings_Builder_WriteByte (some ⟨b, 0, none⟩) n).wp h Q := by
  subst hn
  unfold strings_Builder_WriteByte
  refine copyCheck_b B (fun h0 B0 u => nilP_b ?_)
  have hl := B0.len
  obtain ⟨p, h1, h2⟩ := B0.ptr
  refine ldL_b (n := r) (by rw [add_mk, hcell_blk h1]; rfl) (bdL_b ?_)
  have e1 := Ext.push h0 (.cells #[.int .u8 (c.toNat : Int)] ty_uint8)
  have B1 := B0.ext e1
  refine apL_b (news := [bv c]) rfl (.inr ⟨_, rfl, fun j v hj => ?_⟩) ?_
  · rw [add_mk, hcell_blk get_push_eq, Nat.zero_add]
    rw [show (#[Value.int .u8 (c.toNat : Int)] : Array Value) = [bv c].toArray from rfl]
    simpa using hj
  refine apGo_grow (vs := l.map bv) (news := [bv c]) (z := #[.int .u8 0]) rfl B1.row rfl (fun v hv => by simp at hv; subst hv; rfl) (by show (r.len + 1) * 1 ≤ _; omega) (by show r.len + 1 ≤ _; omega) (by have := e1.size; have := u.size; omega) B1.nz B1.kt (fun h' r' G hlen hs same on_ nz kt => ?_)
  refine nilP_b ?_
  have G : Gw lo h' r' 1 ((l ++ [c]).map bv) := by rw [List.map_append]; exact G
  obtain ⟨p', h1', h2'⟩ := B1.ptr
  have := bld_put B1 (Upd.refl _ _) hs same on_ G nz kt
  obtain ⟨B', K⟩ := this
  have h1'' : h'[b]? = some (.cells #[p', r.v] ty_strings_Builder (0, 0)) := by rw [same b B1.lt B1.off]; exact h1'
  refine stV_b (x := r.v) (by rw [add_mk, hcell_blk h1'']; rfl) (by rw [add_mk, hfrozen_blk h1'']) (one_v _) (pure_w ?_)
  rw [add_mk, Nat.zero_add]
  refine H _ _ B' ?_
  refine ⟨?_, fun i hi hne hno => ?_, fun i hi => (K.on_ i hi).imp id (fun hh => ?_)⟩
  · have := K.size; have := e1.size; have := u.size; omega
  · rw [K.same i (by have := e1.size; have := u.size; omega) hne hno, e1.same i (by rw [u.size]; exact hi), u.ne i hne]
  · have := e1.size; have := u.size; omega
/-- the text that it holds; nothing is written to it from then on -/
theorem bstr_spec {lo : Nat} {h : Heap} {b : Nat} {r : Sl} {l : List UInt8} {Q : ByteArray → Heap → Prop} (B : Bld lo h b r l) (hm : l.length ≤ 140737488355328)
    (H : ∀ h', BKeep b r r h h' → h'.size = h.size → Q (bs l) h') : (strings_Builder_String (some ⟨b, 0, none⟩)).wp h Q := by
  unfold strings_Builder_String
  obtain ⟨p, h1, h2⟩ := B.ptr
  have hl := B.len
  have c1 : hcell h ((⟨b, 0, none⟩ : Addr).add 1) = some r.v := by rw [add_mk, hcell_blk h1]; rfl
  refine nilP_b (nilP_b (ldL_b (n := r) c1 (ldL_b (n := r) c1 ?_)))
  rcases B.row with ⟨rfl, hv⟩ | ⟨g, ty, cells, R⟩
  · have : l = [] := by simpa using hv
    subst this
    exact ⟨none, .inl ⟨rfl, rfl⟩, .inl ⟨rfl, H h (BKeep.refl _ _ _) rfl⟩⟩
  · have hc : r.cap ≠ 0 := fun h0 => by
      have := B.nz h0
      rw [this] at R
      have := R.base
      cases this
    refine ⟨_, .inr ⟨hc, R.base⟩, ?_⟩
    by_cases h0 : l = []
    · subst h0
      refine .inl ⟨by rw [hl]; rfl, H h (BKeep.refl _ _ _) rfl⟩
    · have hs := R.size
      have := R.cap
      refine .inr ⟨g, cells, (0, 0), l, rfl, by rw [hl], h0, by omega, by omega, ?_, fun j x hj => ?_, fun h' a1 a2 => pure_w (H _ ⟨by rw [a1]; exact Nat.le_refl _, fun i hi hne hno => a2 i (fun e => hno ⟨_, R.base, e.symm⟩), fun i hi => .inl hi⟩ a1)⟩
      · obtain ⟨c, z, hh⟩ := B.kt g R.base
        rw [R.blk] at hh; cases hh
        exact R.blk
      · have := R.get j (bv x) (by simp [hj])
        exact this
end Gx
namespace Gx
open Go
set_option linter.unusedVariables false
set_option linter.unusedSimpArgs false
/-! ### The texts of numbers and of strings -/
def hexc (n : Nat) : UInt8 := if n < 10 then UInt8.ofNat (48 + n) else UInt8.ofNat (87 + n)
theorem hexc_get : ∀ n, n < 16 → ([48, 49, 50, 51, 52, 53, 54, 55, 56, 57, 97, 98, 99, 100, 101, 102, 103, 104, 105, 106, 107, 108, 109, 110, 111, 112, 113, 114, 115, 116, 117, 118, 119, 120, 121, 122] : List UInt8)[n]? = some (hexc n) := by decide
theorem hexc_get' : ∀ n, n < 16 → ([48, 49, 50, 51, 52, 53, 54, 55, 56, 57, 97, 98, 99, 100, 101, 102] : List UInt8)[n]? = some (hexc n) := by decide
theorem ixS_at {β : Type} {h : Heap} {Q : β → Heap → Prop} {l : List UInt8} {i : Nat} {t : Int} {c : UInt8} {f : Int → M β} (ht : t = (i : Int)) (hi : l[i]? = some c) (H : (f (c.toNat : Int)).wp h Q) : (ixS (bs l) t >>= f).wp h Q := by
  obtain ⟨h1, rfl⟩ := List.getElem?_eq_some_iff.1 hi
  exact ixS_b ht h1 H
theorem stU_b {β : Type} {h : Heap} {Q : β → Heap → Prop} {b i : Nat} {t : TypeId} {l : List UInt8} {c : UInt8} {f : Unit → M β} (hb : BB h b t l) (hi : i < l.length)
    (H : ∀ h', BB h' b t (l.set i c) → Upd b h h' → (f ()).wp h' Q) : (stV ⟨b, i, none⟩ (.int .u8 (c.toNat : Int)) >>= f).wp h Q :=
  stV_b (hb.cell hi) (hb.frozen i) (one_bv c) (H _ (hb.set i c) (Upd.hset _ _ _ _))
theorem digits36 : (⟨#[48, 49, 50, 51, 52, 53, 54, 55, 56, 57, 97, 98, 99, 100, 101, 102, 103, 104, 105, 106, 107, 108, 109, 110, 111, 112, 113, 114, 115, 116, 117, 118, 119, 120, 121, 122]⟩ : ByteArray) = bs [48, 49, 50, 51, 52, 53, 54, 55, 56, 57, 97, 98, 99, 100, 101, 102, 103, 104, 105, 106, 107, 108, 109, 110, 111, 112, 113, 114, 115, 116, 117, 118, 119, 120, 121, 122] := rfl
theorem DbTab.ext {h h' : Heap} (H : DbTab h) (e : Ext h h') : DbTab h' := by
  obtain ⟨cs, ty, fz, h1, h2⟩ := H
  exact ⟨cs, ty, fz, e.blk h1, h2⟩
theorem PowTab.ext {h h' : Heap} (H : PowTab h) (e : Ext h h') : PowTab h' := by
  obtain ⟨fz, ty, h1⟩ := H
  exact ⟨fz, ty, e.blk h1⟩
theorem fmt16_spec {n : Nat} (hn : n < 16) {h : Heap} {Q : ByteArray → Heap → Prop} (hd : DbTab h) (H : ∀ h', Ext h h' → Q (bs [hexc n]) h') : (internal_strconv_FormatInt (n : Int) 16).wp h Q := by
  unfold internal_strconv_FormatInt
  refine iteF (by decide) (bind_w ?_)
  have w1 : IntKind.wrap .u64 (n : Int) = (n : Int) := by rw [IntKind.wrap_u64]; omega
  rw [w1, show decide ((n : Int) < 0) = false by simp]
  unfold internal_strconv_formatBits
  refine iteF_b (by decide) (pure_b (iteF_b (by decide) (pure_b (iteF (by decide) (mkB_b (iteF rfl ?_))))))
  have e1 := Ext.push h (.cells (Array.replicate 65 (.int .u8 0)) ty_65_uint8)
  have g1 : (h.push (.cells (Array.replicate 65 (.int .u8 0)) ty_65_uint8))[h.size]? = some (.cells (Array.replicate 65 (.int .u8 0)) ty_65_uint8 (0, 0)) := get_push_eq
  generalize h.push (.cells (Array.replicate 65 (.int .u8 0)) ty_65_uint8) = h1 at e1 g1 ⊢
  unfold internal_strconv_formatBits_j1 internal_strconv_isPowerOfTwo
  refine pure_b (iteT (by decide) ?_)
  unfold math_bits_TrailingZeros math_bits_TrailingZeros64
  obtain ⟨cs, ty, fz, d1, d2⟩ := hd.ext e1
  refine bind_w (iteF_b (by decide) (ixA_b (by decide) (by decide) (ldI_b (n := 4) ?_ (pure_b (pure_w ?_)))))
  · rw [show ((iShr .u64 (IntKind.wrap .u64 ((iAnd .u64 (IntKind.wrap .u64 16) (IntKind.wrap .u64 (0 - (IntKind.wrap .u64 16)))) * 285870213051353865)) 58).toNat * 1) = 15 by decide, add_mk, hcell_blk d1]
    exact d2
  have b1 : BB h1 h.size ty_65_uint8 (List.replicate 65 0) := by
    unfold BB
    rw [g1]
    rfl
  refine M.loop_inv (fun (t : Int × Int) h' => h' = h1 ∧ t = ((n : Int), 65)) (fun _ _ => 0) ?_ ⟨rfl, rfl⟩
  rintro t h' ⟨rfl, rfl⟩ self hself
  unfold internal_strconv_formatBits_l1
  refine iteF (by simp [IntKind.wrap_u64]; omega) ?_
  rw [digits36]
  refine ixS_at rfl (hexc_get n hn) (ixA_b (by decide) (by decide) ?_)
  rw [show (IntKind.wrap .i64 (65 - 1)).toNat * 1 = 64 by decide, add_mk, Nat.zero_add]
  refine stU_b b1 (by decide) (fun h2 b2 u2 => ?_)
  unfold internal_strconv_formatBits_j2 internal_strconv_formatBits_j3
  refine iteF rfl (iteF rfl (slA_b (by decide) (by decide) (by decide) ?_))
  rw [show (IntKind.wrap .i64 (65 - 1)).toNat = 64 by decide, if_neg (by decide), add_mk]
  refine b2s_b (ns := [hexc n]) rfl ?_ (pure_w (pure_w (H _ (e1.upd u2 (Nat.le_refl _)))))
  have := (b2.bys 64 1 1 (by simp)).at_
  exact this
end Gx
namespace Gx
open Go
set_option linter.unusedVariables false
set_option linter.unusedSimpArgs false
theorem ntext_spec {n : Int} {h : Heap} {Q : ByteArray → Heap → Prop} (hn : I64 n) (hp : PowTab h) (H : ∀ h', Ext h h' → Q (bs (Lib.itoa n)) h') : (num_Text n).wp h Q := by
  unfold num_Text strconv_FormatInt
  refine bind_w (bind_w (callF_w (S_lib_FormatInt10 n) ⟨hn.1, hn.2, hp, fun h' h1 h2 => pure_w (pure_w (H _ ⟨h1, h2⟩))⟩))
theorem fmt16_b {β : Type} {n : Nat} (hn : n < 16) {t : Int} (ht : t = (n : Int)) {h : Heap} {Q : β → Heap → Prop} {f : ByteArray → M β} (hd : DbTab h) (H : ∀ h', Ext h h' → (f (bs [hexc n])).wp h' Q) : (strconv_FormatInt t 16 >>= f).wp h Q := by
  subst ht
  unfold strconv_FormatInt
  exact bind_w (bind_w (callF_w (S_internal_strconv_FormatInt _ _) (fmt16_spec hn hd (fun h' e => pure_w (H _ e)))))
/-- a byte of a string's text -/
def qc (c : UInt8) : List UInt8 := if c < 32 ∨ 126 < c then [92, 120, hexc (c.toNat / 16), hexc (c.toNat % 16)] else if c = 39 ∨ c = 92 then [92, c] else [c]
def quoteB (s : List UInt8) : List UInt8 := 39 :: s.flatMap qc ++ [39]
theorem qc_le (c : UInt8) : (qc c).length ≤ 4 := by unfold qc; split <;> (try split) <;> simp
/-- a builder's work beside a block that is read -/
structure BW (h0 : Heap) (b c : Nat) (o : Obj) (h : Heap) (r : Sl) (l : List UInt8) : Prop where
  bld : Bld h0.size h b r l
  ext : Ext h0 h
  blk : h[c]? = some o
  off : ¬ Sl.on r c
  ne : c ≠ b
theorem BW.keep {h0 h h' : Heap} {b c : Nat} {o : Obj} {r r' : Sl} {l l' : List UInt8} (W : BW h0 b c o h r l) (B : Bld h0.size h' b r' l') (K : BKeep b r r' h h') : BW h0 b c o h' r' l' :=
  ⟨B, K.ext W.ext W.bld (Nat.le_refl _), (K.same c (blk_lt W.blk) W.ne W.off).trans W.blk, fun ho => (K.on_ c ho).elim W.off (fun h => by have := blk_lt W.blk; omega), W.ne⟩
theorem BW.more {h0 h h' : Heap} {b c : Nat} {o : Obj} {r : Sl} {l : List UInt8} (W : BW h0 b c o h r l) (e : Ext h h') : BW h0 b c o h' r l :=
  ⟨W.bld.ext e, W.ext.trans e, e.blk W.blk, W.off, W.ne⟩
theorem u8_div (c : UInt8) : iShr .u8 (c.toNat : Int) 4 = ((c.toNat / 16 : Nat) : Int) := by
  have h : (c.toNat : Int).fdiv 16 = ((c.toNat / 16 : Nat) : Int) := by
    rw [Int.fdiv_eq_ediv_of_nonneg _ (by decide)]; rfl
  exact h
set_option maxRecDepth 100000 in
theorem u8_and : ∀ c : UInt8, iAnd .u8 (c.toNat : Int) 15 = ((c.toNat % 16 : Nat) : Int) := by
  intro c
  have hk : ∀ n, n < 256 → iAnd .u8 ((n : Nat) : Int) 15 = ((n % 16 : Nat) : Int) := by decide
  exact hk c.toNat c.toNat_lt
theorem take_flat {l : List UInt8} {i : Nat} (hi : i < l.length) (f : UInt8 → List UInt8) : (l.take (i + 1)).flatMap f = (l.take i).flatMap f ++ f l[i] := by
  rw [take_snoc hi, List.flatMap_append]; simp
theorem vquote_spec {s : List UInt8} {h : Heap} {Q : ByteArray → Heap → Prop} (hs : (quoteB s).length ≤ 140737488355328) (hd : DbTab h) (H : ∀ h', Ext h h' → Q (bs (quoteB s)) h') : (value_quote (bs s)).wp h Q := by
  unfold value_quote
  refine mkV_b (fun h1 e1 z1 g1 => ?_)
  have B1 := Bld.new (Nat.le_refl _) g1
  refine bind_w (wbyte_spec (c := 39) B1 (by omega) (by simp) rfl (fun h2 r2 B2 K2 => ?_))
  refine fun cap hcap mk hmk => ?_
  have e3 := Ext.push h2 (.cells ((sbytes (bs s)).toArray ++ Array.replicate (cap - (bs s).size) (.int .u8 0)) ty_uint8 mk)
  have g3 : (h2.push (.cells ((sbytes (bs s)).toArray ++ Array.replicate (cap - (bs s).size) (.int .u8 0)) ty_uint8 mk))[h2.size]? = some (.cells ((sbytes (bs s)).toArray ++ Array.replicate (cap - (bs s).size) (.int .u8 0)) ty_uint8 mk) := get_push_eq
  generalize h2.push (.cells ((sbytes (bs s)).toArray ++ Array.replicate (cap - (bs s).size) (.int .u8 0)) ty_uint8 mk) = h3 at e3 g3 ⊢
  have hlt := B2.lt
  have W3 : BW h h.size h2.size _ h3 r2 [39] := ⟨B2.ext e3, (K2.ext e1 B1 (Nat.le_refl _)).trans e3, g3, fun ho => by have := (B2.row.lt ho).1; omega, by omega⟩
  rw [bs_size]
  have hq : (quoteB s).length = (s.flatMap qc).length + 2 := by simp [quoteB]
  have hsl : s.length ≤ (s.flatMap qc).length := by
    rw [List.length_flatMap]
    clear hs H hcap W3 g3 e3 hq K2 B2 hlt
    induction s with
    | nil => simp
    | cons a s ih => rw [List.map_cons, List.sum_cons, List.length_cons]; have : 1 ≤ (qc a).length := by { unfold qc; split <;> (try split) <;> simp }; omega
  have hpre : ∀ i, ((s.take i).flatMap qc).length ≤ (s.flatMap qc).length := fun i => by
    conv => rhs; rw [← List.take_append_drop i s, List.flatMap_append, List.length_append]
    omega
  refine M.loop_inv (fun (t : Int) h' => ∃ i : Nat, t = (i : Int) ∧ i ≤ s.length ∧ ∃ r, BW h h.size h2.size (.cells ((sbytes (bs s)).toArray ++ Array.replicate (cap - (bs s).size) (.int .u8 0)) ty_uint8 mk) h' r (39 :: (s.take i).flatMap qc)) (fun t _ => ((s.length : Int) - t).toNat) ?_ ⟨0, rfl, Nat.zero_le _, r2, W3⟩
  rintro t h' ⟨i, rfl, hi, r, W⟩ self hself
  unfold value_quote_l1
  have hpi := hpre i
  refine ite_w (fun hc => ?_) (fun hc => ?_)
  · have hlt' : i < s.length := by have := of_decide_eq_true hc; dsimp only at this; omega
    have hpj := hpre (i + 1)
    have htk := take_flat hlt' qc
    have cell : hcell h' ((⟨h2.size, 0, none⟩ : Addr).add ((i : Int).toNat * 1)) = some (.int .u8 (s[i].toNat : Int)) := by
      rw [add_mk, hcell_blk W.blk, show 0 + (i : Int).toNat * 1 = i by omega, Array.getElem?_append_left (by rw [sbytes_bs]; simpa using hlt')]
      simp [sbytes_bs, hlt', bv]
    refine ixL_b (by omega) (by show (i : Int) < (s.length : Int); omega) rfl (ldI_b cell ?_)
    have hw64 : IntKind.wrap .i64 ((i : Int) + 1) = ((i + 1 : Nat) : Int) := by rw [w64 (by omega) (by omega)]; simp
    have hnext : ∀ {h4 : Heap} {r4 : Sl}, BW h h.size h2.size (.cells ((sbytes (bs s)).toArray ++ Array.replicate (cap - (bs s).size) (.int .u8 0)) ty_uint8 mk) h4 r4 (39 :: (s.take (i + 1)).flatMap qc) → (value_quote_j1 self (i : Int)).wp h4 Q := fun W4 => by
      unfold value_quote_j1
      rw [hw64]
      exact hself _ _ ⟨i + 1, rfl, by omega, _, W4⟩ (by omega)
    rw [htk] at hnext hpj
    have c32 : (decide ((s[i].toNat : Int) < 32)) = decide (s[i] < 32) := by rw [Bool.eq_iff_iff]; simp [u8_lt_int]
    have c126 : (decide ((s[i].toNat : Int) > 126)) = decide (126 < s[i]) := by rw [Bool.eq_iff_iff]; simp [u8_lt_int]
    refine or_b (c := decide (126 < s[i])) (fun _ Q' hq' => pure_w (by rw [c126]; exact hq')) ?_
    rw [c32]
    have hlo : h.size ≤ h'.size := W.ext.size
    refine ite_w (fun hx => ?_) (fun hx => ?_)
    · have hx' : s[i] < 32 ∨ 126 < s[i] := by simpa using hx
      have hqc : qc s[i] = [92, 120, hexc (s[i].toNat / 16), hexc (s[i].toNat % 16)] := by unfold qc; rw [if_pos hx']
      rw [hqc] at hnext hpj
      simp only [List.length_append, List.length_cons, List.length_nil] at hpj
      have hdiv : s[i].toNat / 16 < 16 := by have := s[i].toNat_lt; omega
      refine bind_w (wstr_spec (s := [92, 120]) W.bld hlo (by simp only [List.length_cons, List.length_append, List.length_nil]; omega) (fun h4 r4 n4 B4 K4 => ?_))
      have W4 := W.keep B4 K4
      refine fmt16_b hdiv (by rw [u8_div, w64 (by omega) (by omega)]) (hd.ext W4.ext) (fun h5 e5 => ?_)
      have W5 := W4.more e5
      refine bind_w (wstr_spec W5.bld W5.ext.size (by simp only [List.length_cons, List.length_append, List.length_nil]; omega) (fun h6 r6 n6 B6 K6 => ?_))
      have W6 := W5.keep B6 K6
      refine fmt16_b (Nat.mod_lt _ (by decide)) (by rw [u8_and, w64 (by omega) (by omega)]) (hd.ext W6.ext) (fun h7 e7 => ?_)
      have W7 := W6.more e7
      refine bind_w (wstr_spec W7.bld W7.ext.size (by simp only [List.length_cons, List.length_append, List.length_nil]; omega) (fun h8 r8 n8 B8 K8 => ?_))
      exact hnext (by have := W7.keep B8 K8; simpa using this)
    · have hx' : ¬ (s[i] < 32 ∨ 126 < s[i]) := by simpa using hx
      have c39 : ((s[i].toNat : Int) == 39) = decide (s[i] = 39) := by
        rw [Bool.eq_iff_iff]; simp only [beq_iff_eq, decide_eq_true_eq]
        exact ⟨fun e => UInt8.toNat_inj.1 (by simpa using (by omega : s[i].toNat = 39)), fun e => by rw [e]; rfl⟩
      have c92 : ((s[i].toNat : Int) == 92) = decide (s[i] = 92) := by
        rw [Bool.eq_iff_iff]; simp only [beq_iff_eq, decide_eq_true_eq]
        exact ⟨fun e => UInt8.toNat_inj.1 (by simpa using (by omega : s[i].toNat = 92)), fun e => by rw [e]; rfl⟩
      refine or_b (c := decide (s[i] = 92)) (fun _ Q' hq' => pure_w (by rw [c92]; exact hq')) ?_
      rw [c39]
      refine ite_w (fun hy => ?_) (fun hy => ?_)
      · have hy' : s[i] = 39 ∨ s[i] = 92 := by simpa using hy
        have hqc : qc s[i] = [92, s[i]] := by unfold qc; rw [if_neg hx', if_pos hy']
        rw [hqc] at hnext hpj
        simp only [List.length_append, List.length_cons, List.length_nil] at hpj
        refine bind_w (wbyte_spec (c := 92) W.bld hlo (by simp only [List.length_cons, List.length_append, List.length_nil]; omega) rfl (fun h4 r4 B4 K4 => ?_))
        have W4 := W.keep B4 K4
        refine bind_w (wbyte_spec (c := s[i]) W4.bld W4.ext.size (by simp only [List.length_cons, List.length_append, List.length_nil]; omega) rfl (fun h5 r5 B5 K5 => ?_))
        exact hnext (by have := W4.keep B5 K5; simpa using this)
      · have hy' : ¬ (s[i] = 39 ∨ s[i] = 92) := by simpa using hy
        have hqc : qc s[i] = [s[i]] := by unfold qc; rw [if_neg hx', if_neg hy']
        rw [hqc] at hnext hpj
        simp only [List.length_append, List.length_cons, List.length_nil] at hpj
        refine bind_w (wbyte_spec (c := s[i]) W.bld hlo (by simp only [List.length_cons, List.length_append, List.length_nil]; omega) rfl (fun h4 r4 B4 K4 => ?_))
        exact hnext (by have := W.keep B4 K4; simpa using this)
  · have hge : i = s.length := by have := of_decide_eq_false hc; dsimp only at this; omega
    subst hge
    rw [List.take_length] at W
    refine bind_w (wbyte_spec (c := 39) W.bld W.ext.size (by simp only [List.length_cons, List.length_append, List.length_nil]; omega) rfl (fun h4 r4 B4 K4 => ?_))
    have W4 := W.keep B4 K4
    refine bind_w (bstr_spec B4 (by simp only [List.length_cons, List.length_append, List.length_nil]; omega) (fun h5 K5 _ => pure_w ?_))
    exact H _ (K5.ext W4.ext B4 (Nat.le_refl _))
end Gx
namespace Gx
open Go
set_option linter.unusedVariables false
set_option linter.unusedSimpArgs false
/-- bytes put behind one's own -/
theorem apB_b {β : Type} {h0 h : Heap} {Q : β → Heap → Prop} {r : Sl} {l news : List UInt8} {n b : Nat} {f : Sl → M β} (G : Gw h0.size h r 1 (l.map bv)) (e : Ext h0 h) (hn : n = news.length) (hb : h[b]? = some (.cells (news.map bv).toArray ty_uint8 (0, 0)))
    (hm : l.length + news.length ≤ 140737488355328)
    (H : ∀ h' r', Gw h0.size h' r' 1 ((l ++ news).map bv) → Ext h0 h' → (f r').wp h' Q) : (apL ty_uint8 1 1 (#[.int .u8 0] : Array Value) r ⟨some ⟨b, 0, none⟩, n, n⟩ >>= f).wp h Q := by
  subst hn
  have hl := G.len
  simp at hl
  refine ap_grow (vs := l.map bv) (news := news.map bv) rfl G (by simp) (.inr ⟨_, rfl, fun j v hj => ?_⟩) (fun v hv => by obtain ⟨x, _, rfl⟩ := List.mem_map.1 hv; rfl) (by dsimp only; omega) (by dsimp only; omega) e.size (fun h' r' G' hlen hs same on_ => ?_)
  · rw [add_mk, hcell_blk hb]
    simpa using hj
  · rw [← List.map_append] at G'
    exact H _ _ G' ⟨Nat.le_trans e.size hs, fun i hi => (same i (Nat.lt_of_lt_of_le hi e.size) (fun ho => by have := (G.lt ho).2; omega)).trans (e.same i hi)⟩
theorem gw_bd {h0 h : Heap} {c : List UInt8} {b : Nat} (hl : h0.size ≤ b) (hb : h[b]? = some (.cells (c.map bv).toArray ty_uint8 (0, 0))) : Gw h0.size h ⟨some ⟨b, 0, none⟩, c.length, c.length⟩ 1 (c.map bv) :=
  .inr ⟨b, _, _, rfl, hl, hb, by simp, Nat.le_refl _, by simp, fun j v hj => by simpa using hj⟩
theorem digits16 : (⟨#[48, 49, 50, 51, 52, 53, 54, 55, 56, 57, 97, 98, 99, 100, 101, 102]⟩ : ByteArray) = bs [48, 49, 50, 51, 52, 53, 54, 55, 56, 57, 97, 98, 99, 100, 101, 102] := rfl
theorem bd1 (c : UInt8) : (#[.int .u8 (c.toNat : Int)] : Array Value) = ([c].map bv).toArray := rfl
theorem quote_len (s : List UInt8) : (quoteB s).length = (s.flatMap qc).length + 2 := by simp [quoteB]
theorem flat_ge (s : List UInt8) : s.length ≤ (s.flatMap qc).length := by
  induction s with
  | nil => simp
  | cons a s ih => rw [List.flatMap_cons, List.length_append, List.length_cons]; have : 1 ≤ (qc a).length := by { unfold qc; split <;> (try split) <;> simp }; omega
theorem flat_pre (s : List UInt8) (i : Nat) : ((s.take i).flatMap qc).length ≤ (s.flatMap qc).length := by
  conv => rhs; rw [← List.take_append_drop i s, List.flatMap_append, List.length_append]
  omega
theorem rquote_spec {s : List UInt8} {h : Heap} {Q : ByteArray → Heap → Prop} (hs : (quoteB s).length ≤ 140737488355328) (H : ∀ h', Ext h h' → Q (bs (quoteB s)) h') : (rambleref02_Quote (bs s)).wp h Q := by
  unfold rambleref02_Quote
  rw [quote_len] at hs
  have hsl := flat_ge s
  refine bdL_b ?_
  have e1 := Ext.push h (.cells #[.int .u8 39] ty_uint8)
  have g1 : (h.push (.cells #[.int .u8 39] ty_uint8))[h.size]? = some (.cells (([39] : List UInt8).map bv).toArray ty_uint8 (0, 0)) := get_push_eq
  generalize h.push (.cells #[.int .u8 39] ty_uint8) = h1 at e1 g1 ⊢
  refine M.loop_inv (fun (t : Sl × Int) h' => ∃ i : Nat, t.2 = (i : Int) ∧ i ≤ s.length ∧ Gw h.size h' t.1 1 ((39 :: (s.take i).flatMap qc).map bv) ∧ Ext h h') (fun t _ => ((s.length : Int) - t.2).toNat) ?_ ⟨0, rfl, Nat.zero_le _, gw_bd (c := [39]) (Nat.le_refl _) g1, e1⟩
  rintro ⟨r, t⟩ h' ⟨i, hti, hi, G, E⟩ self hself
  have hti : t = (i : Int) := hti
  subst hti
  unfold rambleref02_Quote_l1
  rw [bs_size]
  have hpi := flat_pre s i
  refine ite_w (fun hc => ?_) (fun hc => ?_)
  · have hlt' : i < s.length := by have := of_decide_eq_true hc; omega
    have hpj := flat_pre s (i + 1)
    have htk := take_flat hlt' qc
    refine ixS_b rfl hlt' ?_
    have hw64 : IntKind.wrap .i64 ((i : Int) + 1) = ((i + 1 : Nat) : Int) := by rw [w64 (by omega) (by omega)]; simp
    have hnext : ∀ {h4 : Heap} {r4 : Sl}, Gw h.size h4 r4 1 ((39 :: (s.take (i + 1)).flatMap qc).map bv) → Ext h h4 → (rambleref02_Quote_j1 self (i : Int) r4).wp h4 Q := fun G4 E4 => by
      unfold rambleref02_Quote_j1
      rw [hw64]
      exact hself (_, _) _ ⟨i + 1, rfl, by omega, G4, E4⟩ (by dsimp only; omega)
    rw [htk] at hnext hpj
    have c32 : (decide ((s[i].toNat : Int) < 32)) = decide (s[i] < 32) := by rw [Bool.eq_iff_iff]; simp [u8_lt_int]
    have c126 : (decide ((s[i].toNat : Int) > 126)) = decide (126 < s[i]) := by rw [Bool.eq_iff_iff]; simp [u8_lt_int]
    have c39 : ((s[i].toNat : Int) == 39) = decide (s[i] = 39) := by
      rw [Bool.eq_iff_iff]; simp only [beq_iff_eq, decide_eq_true_eq]
      exact ⟨fun e => UInt8.toNat_inj.1 (by simpa using (by omega : s[i].toNat = 39)), fun e => by rw [e]; rfl⟩
    have c92 : ((s[i].toNat : Int) == 92) = decide (s[i] = 92) := by
      rw [Bool.eq_iff_iff]; simp only [beq_iff_eq, decide_eq_true_eq]
      exact ⟨fun e => UInt8.toNat_inj.1 (by simpa using (by omega : s[i].toNat = 92)), fun e => by rw [e]; rfl⟩
    refine or_b (c := decide (s[i] = 92)) (fun _ Q' hq' => pure_w (by rw [c92]; exact hq')) ?_
    rw [c39]
    refine ite_w (fun hy => ?_) (fun hy => ?_)
    · have hy' : s[i] = 39 ∨ s[i] = 92 := by simpa using hy
      have hx' : ¬ (s[i] < 32 ∨ 126 < s[i]) := by rcases hy' with e | e <;> rw [e] <;> decide
      have hqc : qc s[i] = [92, s[i]] := by unfold qc; rw [if_neg hx', if_pos hy']
      rw [hqc] at hnext hpj
      simp only [List.length_append, List.length_cons, List.length_nil] at hpj
      refine bdL_b (apB_b (news := [92, s[i]]) (G.ext (Ext.push _ _)) (E.pushed _) rfl get_push_eq (by simp only [List.length_cons, List.length_append, List.length_nil]; omega) (fun h4 r4 G4 E4 => hnext G4 E4))
    · have hy' : ¬ (s[i] = 39 ∨ s[i] = 92) := by simpa using hy
      refine or_b (c := decide (126 < s[i])) (fun _ Q' hq' => pure_w (by rw [c126]; exact hq')) ?_
      rw [c32]
      refine ite_w (fun hx => ?_) (fun hx => ?_)
      · have hx' : s[i] < 32 ∨ 126 < s[i] := by simpa using hx
        have hqc : qc s[i] = [92, 120, hexc (s[i].toNat / 16), hexc (s[i].toNat % 16)] := by unfold qc; rw [if_pos hx']
        rw [hqc] at hnext hpj
        simp only [List.length_append, List.length_cons, List.length_nil] at hpj
        have hdiv : s[i].toNat / 16 < 16 := by have := s[i].toNat_lt; omega
        rw [digits16]
        refine ixS_at (i := s[i].toNat / 16) (by rw [Int.tdiv_eq_ediv_of_nonneg (by omega), IntKind.wrap_u8]; omega) (hexc_get' _ hdiv) (ixS_at (i := s[i].toNat % 16) (by rw [Int.tmod_eq_emod_of_nonneg (by omega)]; omega) (hexc_get' _ (Nat.mod_lt _ (by decide))) ?_)
        exact bdL_b (apB_b (news := [92, 120, hexc (s[i].toNat / 16), hexc (s[i].toNat % 16)]) (G.ext (Ext.push _ _)) (E.pushed _) rfl get_push_eq (by simp only [List.length_cons, List.length_append, List.length_nil]; omega) (fun h4 r4 G4 E4 => hnext G4 E4))
      · have hx' : ¬ (s[i] < 32 ∨ 126 < s[i]) := by simpa using hx
        have hqc : qc s[i] = [s[i]] := by unfold qc; rw [if_neg hx', if_neg hy']
        rw [hqc] at hnext hpj
        simp only [List.length_append, List.length_cons, List.length_nil] at hpj
        exact bdL_b (apB_b (news := [s[i]]) (G.ext (Ext.push _ _)) (E.pushed _) rfl get_push_eq (by simp only [List.length_cons, List.length_append, List.length_nil]; omega) (fun h4 r4 G4 E4 => hnext G4 E4))
  · have hge : i = s.length := by have := of_decide_eq_false hc; omega
    subst hge
    rw [List.take_length] at G hpi
    refine bdL_b (apB_b (news := [39]) (G.ext (Ext.push _ _)) (E.pushed _) rfl get_push_eq (by simp only [List.length_cons, List.length_append, List.length_nil]; omega) (fun h4 r4 G4 E4 => ?_))
    have B := G4.bys
    exact b2s_b B.len.symm B.at_ (pure_w (H _ E4))
end Gx
