/- Own proofs: what those Lean programs compute. No condition. -/
import Derived.Test.YthelieedlghccaaGreatDoorP0
import Derived.Test.YthelieedlghccaaGreatDoorP1
import Derived.Test.YthelieedlghccaaGreatDoorP2
import Derived.Test.YthelieedlghccaaGreatDoorP3
import Derived.Test.YthelieedlghccaaGreatDoorP4
import Derived.Test.YthelieedlghccaaGreatDoorP5
import Derived.Test.YthelieedlghccaaGreatDoorP6
import Derived.Test.YthelieedlghccaaGreatDoorTie
import Derived.KernelRfl
import Derived.ChangeArms
import Derived.DataReads
set_option linter.unusedVariables false
set_option linter.unusedSimpArgs false
namespace Gx
open Go
set_option linter.unusedVariables false
set_option linter.unusedSimpArgs false
abbrev bs (l : List UInt8) : ByteArray := ⟨l.toArray⟩
inductive Vl where
  | mk (k n : Int) (s : List UInt8) (l : List Vl)
instance : Inhabited Vl := ⟨.mk 0 0 [] []⟩
def I64 (n : Int) : Prop := -9223372036854775808 ≤ n ∧ n ≤ 9223372036854775807
def vcells (k n : Int) (s : List UInt8) (x : Sl) : Array Value := #[.int .i64 k, .int .i64 n, .string (bs s), x.v]
mutual
def VRep (h : Heap) : Vl → Array Value → Prop
  | .mk k n s l, cs => ∃ x : Sl, cs = vcells k n s x ∧ I64 k ∧ I64 n ∧ s.length ≤ 9223372036854775807 ∧ (x.len = l.length ∧ x.len ≤ x.cap ∧ x.len ≤ 9223372036854775807 ∧ VsAt h l x.base 0)
def VsAt (h : Heap) : List Vl → Option Addr → Nat → Prop
  | [], _, _ => True
  | v :: l, b, i => (∃ a cs, b = some a ∧ cs.size = 4 ∧ (∀ j, j < 4 → hcell h (a.add (i * 4 + j)) = cs[j]?) ∧ VRep h v cs) ∧ VsAt h l b (i + 1)
end
structure VsRep (h : Heap) (x : Sl) (l : List Vl) : Prop where
  len : x.len = l.length
  cap : x.len ≤ x.cap
  big : x.len ≤ 9223372036854775807
  at_ : VsAt h l x.base 0
theorem VRep.eq {h : Heap} {k n : Int} {s : List UInt8} {l : List Vl} {cs : Array Value} : VRep h (.mk k n s l) cs ↔ ∃ x : Sl, cs = vcells k n s x ∧ I64 k ∧ I64 n ∧ s.length ≤ 9223372036854775807 ∧ VsRep h x l := by
  rw [VRep]
  constructor
  · rintro ⟨x, h1, h2, h3, h4, h5, h6, h7, h8⟩; exact ⟨x, h1, h2, h3, h4, h5, h6, h7, h8⟩
  · rintro ⟨x, h1, h2, h3, h4, h5, h6, h7, h8⟩; exact ⟨x, h1, h2, h3, h4, h5, h6, h7, h8⟩
theorem VRep.size {h : Heap} : ∀ {v : Vl} {cs : Array Value}, VRep h v cs → cs.size = 4
  | .mk _ _ _ _, cs, H => by obtain ⟨x, rfl, _⟩ := VRep.eq.1 H; rfl
theorem VRep.one {h : Heap} : ∀ {v : Vl} {cs : Array Value}, VRep h v cs → ∀ u ∈ cs.toList, Gx.one u = true
  | .mk _ _ _ _, cs, H => by
    obtain ⟨x, rfl, _⟩ := VRep.eq.1 H
    intro u hu
    simp only [vcells, List.mem_cons, List.not_mem_nil, or_false] at hu
    rcases hu with rfl | rfl | rfl | rfl <;> first | rfl | exact one_v _
theorem VsAt.get {h : Heap} : ∀ {l : List Vl} {b : Option Addr} {i : Nat}, VsAt h l b i → ∀ {j : Nat} (hj : j < l.length), ∃ a cs, b = some a ∧ cs.size = 4 ∧ (∀ m, m < 4 → hcell h (a.add ((i + j) * 4 + m)) = cs[m]?) ∧ VRep h l[j] cs
  | [], _, _, _, j, hj => by simp at hj
  | v :: l, b, i, H, 0, hj => by rw [VsAt] at H; exact H.1
  | v :: l, b, i, H, j + 1, hj => by
    rw [VsAt] at H
    have := VsAt.get H.2 (j := j) (by simpa using hj)
    rw [show i + (j + 1) = i + 1 + j by omega]
    exact this
theorem VsAt.of {h : Heap} : ∀ {l : List Vl} {b : Option Addr} {i : Nat}, (∀ j (hj : j < l.length), ∃ a cs, b = some a ∧ cs.size = 4 ∧ (∀ m, m < 4 → hcell h (a.add ((i + j) * 4 + m)) = cs[m]?) ∧ VRep h l[j] cs) → VsAt h l b i
  | [], _, _, _ => by rw [VsAt]; trivial
  | v :: l, b, i, H => by
    rw [VsAt]
    refine ⟨H 0 (by simp), VsAt.of (fun j hj => ?_)⟩
    have := H (j + 1) (by simpa using hj)
    rw [show i + 1 + j = i + (j + 1) by omega]
    exact this
theorem VsRep.get {h : Heap} {x : Sl} {l : List Vl} (H : VsRep h x l) {j : Nat} (hj : j < l.length) : ∃ a cs, x.base = some a ∧ cs.size = 4 ∧ (∀ m, m < 4 → hcell h (a.add (j * 4 + m)) = cs[m]?) ∧ VRep h l[j] cs := by
  have := H.at_.get hj
  rw [Nat.zero_add] at this
  exact this
theorem Ext.row {h h' : Heap} (e : Ext h h') {a : Addr} {cs : Array Value} {i n : Nat} (hs : cs.size = n) (H : ∀ m, m < n → hcell h (a.add (i + m)) = cs[m]?) : ∀ m, m < n → hcell h' (a.add (i + m)) = cs[m]? := fun m hm => by
  have h1 : cs[m]? = some (cs[m]'(by omega)) := Array.getElem?_eq_getElem (by omega)
  rw [h1]
  exact e.cell (by rw [H m hm, h1])
theorem vrep_ext {h h' : Heap} (e : Ext h h') : ∀ (m : Nat) (v : Vl) (cs : Array Value), sizeOf v < m → VRep h v cs → VRep h' v cs := by
  intro m
  induction m with
  | zero => intro v cs hm; omega
  | succ m ih =>
    rintro ⟨k, n, s, l⟩ cs hm H
    obtain ⟨x, h1, h2, h3, h4, h5⟩ := VRep.eq.1 H
    refine VRep.eq.2 ⟨x, h1, h2, h3, h4, h5.len, h5.cap, h5.big, VsAt.of (fun j hj => ?_)⟩
    obtain ⟨a, cs', ha, hs, hc, hv⟩ := h5.at_.get hj
    refine ⟨a, cs', ha, hs, e.row hs hc, ih _ _ ?_ hv⟩
    have := List.sizeOf_lt_of_mem (List.getElem_mem hj)
    simp only [Vl.mk.sizeOf_spec] at hm
    omega
theorem VRep.ext {h h' : Heap} {v : Vl} {cs : Array Value} (H : VRep h v cs) (e : Ext h h') : VRep h' v cs := vrep_ext e _ v cs (Nat.lt_succ_self _) H
theorem VsRep.ext {h h' : Heap} {x : Sl} {l : List Vl} (H : VsRep h x l) (e : Ext h h') : VsRep h' x l :=
  ⟨H.len, H.cap, H.big, VsAt.of (fun j hj => by
    obtain ⟨a, cs', ha, hs, hc, hv⟩ := H.at_.get hj
    exact ⟨a, cs', ha, hs, e.row hs hc, hv.ext e⟩)⟩
theorem VsRep.nil (h : Heap) : VsRep h Sl.nil [] := ⟨rfl, Nat.le_refl _, by decide, by rw [VsAt]; trivial⟩
def cmpI (a b : Int) : Int := if a < b then -1 else if b < a then 1 else 0
def cOr (a b : Int) : Int := if a = 0 then b else a
mutual
def cmpV : Vl → Vl → Int
  | .mk k n s l, .mk k' n' s' l' => cOr (cmpI k k') (cOr (cmpI n n') (cOr (Lib.compareBytes s s') (cmpVs l l')))
def cmpVs : List Vl → List Vl → Int
  | [], [] => 0
  | [], _ :: _ => -1
  | _ :: _, [] => 1
  | a :: l, b :: l' => cOr (cmpV a b) (cmpVs l l')
end
theorem mkV_b {β : Type} {t : TypeId} {h : Heap} {Q : β → Heap → Prop} {cs : Array Value} {f : Addr → M β} (H : ∀ h', Ext h h' → h'.size = h.size + 1 → h'[h.size]? = some (.cells cs t (0, 0)) → (f ⟨h.size, 0, none⟩).wp h' Q) : (mkB t cs >>= f).wp h Q :=
  mkB_b (H _ (Ext.push _ _) (by simp) get_push_eq)
theorem blk_cell {h : Heap} {b i : Nat} {cs : Array Value} {t : TypeId} {z : Nat × Nat} (hb : h[b]? = some (.cells cs t z)) : hcell h ((⟨b, 0, none⟩ : Addr).add i) = cs[i]? := by
  rw [add_mk, Nat.zero_add, hcell_blk hb]
theorem ccompare_spec {a b : Int} {h : Heap} {Q : Int → Heap → Prop} (H : Q (cmpI a b) h) : (cmp_Compare_int a b).wp h Q := by
  unfold cmp_Compare_int cmp_isNaN_int
  refine pure_b (pure_b (iteF (by simp) (iteF (by simp) ?_)))
  unfold cmpI at H
  refine ite_w (fun hc => ?_) (fun hc => ?_)
  · rw [if_pos (of_decide_eq_true hc)] at H; exact H
  · rw [if_neg (of_decide_eq_false hc)] at H
    refine ite_w (fun hc => ?_) (fun hc => ?_)
    · rw [if_pos (of_decide_eq_true hc)] at H; exact H
    · rw [if_neg (of_decide_eq_false hc)] at H; exact H
theorem ccompare64_spec {a b : Int} {h : Heap} {Q : Int → Heap → Prop} (H : Q (cmpI a b) h) : (cmp_Compare_int64 a b).wp h Q := by
  unfold cmp_Compare_int64 cmp_isNaN_int64
  refine pure_b (pure_b (iteF (by simp) (iteF (by simp) ?_)))
  unfold cmpI at H
  refine ite_w (fun hc => ?_) (fun hc => ?_)
  · rw [if_pos (of_decide_eq_true hc)] at H; exact H
  · rw [if_neg (of_decide_eq_false hc)] at H
    refine ite_w (fun hc => ?_) (fun hc => ?_)
    · rw [if_pos (of_decide_eq_true hc)] at H; exact H
    · rw [if_neg (of_decide_eq_false hc)] at H; exact H
def cOrs : List Int → Int
  | [] => 0
  | a :: l => cOr a (cOrs l)
theorem cor_spec {t : TypeId} {b n : Nat} {zs : List Int} {h : Heap} {Q : Int → Heap → Prop} (hb : h[b]? = some (.cells (zs.map (Value.int .i64)).toArray t (0, 0))) (hn : n = zs.length) (hz : zs.length ≤ 1000) (H : Q (cOrs zs) h) : (cmp_Or_int ⟨some ⟨b, 0, none⟩, n, n⟩).wp h Q := by
  subst hn
  unfold cmp_Or_int
  refine M.loop_inv (fun (t : Int) h' => h' = h ∧ ∃ i : Nat, t = (i : Int) ∧ i ≤ zs.length ∧ cOrs (zs.drop i) = cOrs zs) (fun t _ => ((zs.length : Int) - t).toNat) ?_ ⟨rfl, 0, rfl, Nat.zero_le _, by simp⟩
  rintro t h' ⟨rfl, i, rfl, hi, hd⟩ self hself
  unfold cmp_Or_int_l1
  refine ite_w (fun hc => ?_) (fun hc => ?_)
  · have hlt : i < zs.length := by have := of_decide_eq_true hc; dsimp only at this; omega
    refine ixL_b (by omega) (by dsimp only; omega) rfl ?_
    refine ldI_b (n := zs[i]) (by rw [show (i : Int).toNat * 1 = i by omega, blk_cell hb]; simp [hlt]) ?_
    rw [List.drop_eq_getElem_cons hlt, cOrs] at hd
    refine ite_w (fun hne => ?_) (fun heq => ?_)
    · have hne : zs[i] ≠ 0 := by simpa using hne
      rw [cOr, if_neg hne] at hd
      rw [← hd] at H
      exact pure_w H
    · have heq : zs[i] = 0 := by simpa using heq
      rw [cOr, if_pos heq] at hd
      rw [w64 (by omega) (by omega)]
      exact hself _ _ ⟨rfl, i + 1, by simp, by omega, hd⟩ (by omega)
  · have hge : i = zs.length := by have := of_decide_eq_false hc; dsimp only at this; omega
    subst hge
    rw [List.drop_length] at hd
    have hd : (0 : Int) = cOrs zs := hd
    rw [← hd] at H
    exact pure_w H
theorem comparefunc_spec {l l' : List Vl} {h : Heap} {Q : Int → Heap → Prop} {x y : Sl} {g : Value} (hx : VsRep h x l) (hy : VsRep h y l')
    (hg : ∀ j (hj : j < l.length) (hj' : j < l'.length) h1 c c' (Q1 : Int → Heap → Prop), Ext h h1 → VRep h1 l[j] c → VRep h1 l'[j] c' → (∀ h2, Ext h1 h2 → Q1 (cmpV l[j] l'[j]) h2) → (callV Go.Proofs.Tryz.prog (fun r : Int => .int .i64 r) g [.agg c, .agg c']).wp h1 Q1)
    (H : ∀ h', Ext h h' → Q (cmpVs l l') h') : (slices_CompareFunc_slapi_Value_slapi_Value_api_Value_api_Value x y g).wp h Q := by
  unfold slices_CompareFunc_slapi_Value_slapi_Value_api_Value_api_Value
  have hxl := hx.len
  have hyl := hy.len
  have hxb := hx.big
  have hyb := hy.big
  have hxc := hx.cap
  have hyc := hy.cap
  refine M.loop_inv (fun (t : Int) h' => Ext h h' ∧ ∃ i : Nat, t = (i : Int) ∧ i ≤ l.length ∧ i ≤ l'.length ∧ cmpVs (l.drop i) (l'.drop i) = cmpVs l l') (fun t _ => ((l.length : Int) - t).toNat) ?_ ⟨Ext.refl h, 0, rfl, Nat.zero_le _, Nat.zero_le _, by simp⟩
  rintro t h' ⟨E, i, rfl, hi, hi', hd⟩ self hself
  unfold slices_CompareFunc_slapi_Value_slapi_Value_api_Value_api_Value_l1
  rw [hxl, hyl]
  refine ite_w (fun hc => ?_) (fun hc => ?_)
  · have hlt : i < l.length := by have := of_decide_eq_true hc; omega
    obtain ⟨a, c, ha, hs, hcs, hv⟩ := (hx.ext E).get hlt
    refine ixL_b (by omega) (by rw [hxl]; omega) ha (ldG_b hs (fun j hj => by rw [Addr.add_add, show (i : Int).toNat * 4 = i * 4 by omega]; exact hcs j hj) (mkV_b (fun h1 e1 s1 g1 => ?_)))
    refine need_b hs (stR (vs := c) g1 (by rw [hs]; decide) hv.one (fun h2 u2 g2 => ?_))
    have E2 : Ext h' h2 := e1.upd u2 (Nat.le_refl _)
    rw [lay_full (by rw [Array.length_toList, hs]; rfl), Array.toArray_toList] at g2
    refine ite_w (fun hge => ?_) (fun hlt' => ?_)
    · have hge : i = l'.length := by have := of_decide_eq_true hge; omega
      subst hge
      rw [List.drop_length, List.drop_eq_getElem_cons hlt, cmpVs] at hd
      have := H _ (E.trans E2)
      rw [← hd] at this
      exact pure_w this
    · have hlt' : i < l'.length := by have := of_decide_eq_false hlt'; omega
      obtain ⟨a', c', ha', hs', hcs', hv'⟩ := (hy.ext (E.trans E2)).get hlt'
      refine ixL_b (by omega) (by rw [hyl]; omega) ha' (ldG_b hs' (fun j hj => by rw [Addr.add_add, show (i : Int).toNat * 4 = i * 4 by omega]; exact hcs' j hj) (mkV_b (fun h3 e3 s3 g3 => ?_)))
      refine need_b hs' (stR (vs := c') g3 (by rw [hs']; decide) hv'.one (fun h4 u4 g4 => ?_))
      have E4 : Ext h2 h4 := e3.upd u4 (Nat.le_refl _)
      rw [lay_full (by rw [Array.length_toList, hs']; rfl), Array.toArray_toList] at g4
      have g2' := E4.blk g2
      refine ldG_b hs (fun j hj => by rw [blk_cell g2']) (ldG_b hs' (fun j hj => by rw [blk_cell g4]) ?_)
      have E' := (E.trans E2).trans E4
      refine bind_w (hg i hlt hlt' h4 c c' _ E' ((hv.ext E2).ext E4) (hv'.ext E4) (fun h5 e5 => ?_))
      rw [List.drop_eq_getElem_cons hlt, List.drop_eq_getElem_cons hlt', cmpVs] at hd
      refine ite_w (fun hne => ?_) (fun heq => ?_)
      · have hne : cmpV l[i] l'[i] ≠ 0 := by simpa using hne
        rw [cOr, if_neg hne] at hd
        rw [hd]
        exact pure_w (H _ (E'.trans e5))
      · have heq : cmpV l[i] l'[i] = 0 := by simpa using heq
        rw [cOr, if_pos heq] at hd
        rw [w64 (by omega) (by omega)]
        exact hself _ _ ⟨E'.trans e5, i + 1, by simp, by omega, by omega, hd⟩ (by omega)
  · have hge : i = l.length := by have := of_decide_eq_false hc; omega
    subst hge
    rw [List.drop_length] at hd
    refine ite_w (fun hlt => ?_) (fun hge => ?_)
    · have hlt : l.length < l'.length := by have := of_decide_eq_true hlt; omega
      rw [List.drop_eq_getElem_cons hlt, cmpVs] at hd
      have := H _ E
      rw [← hd] at this
      exact pure_w this
    · have hge : l'.length = l.length := by have := of_decide_eq_false hge; omega
      rw [← hge, List.drop_length, cmpVs] at hd
      have := H _ E
      rw [← hd] at this
      exact pure_w this
theorem vcompare_aux : ∀ (m : Nat) (a b : Vl) {h : Heap} {Q : Int → Heap → Prop} {x y : Array Value}, sizeOf a < m → VRep h a x → VRep h b y → (∀ h', Ext h h' → Q (cmpV a b) h') → (value_Compare x y).wp h Q := by
  intro m
  induction m with
  | zero => intro a b h Q x y hm; omega
  | succ m ih =>
    rintro ⟨k, n, s, l⟩ ⟨k', n', s', l'⟩ h Q x y hm hx hy H
    obtain ⟨xs, rfl, k1, n1, s1, r1⟩ := VRep.eq.1 hx
    obtain ⟨ys, rfl, k2, n2, s2, r2⟩ := VRep.eq.1 hy
    unfold value_Compare
    refine mkV_b (fun h1 e1 z1 g1 => mkV_b (fun h2 e2 z2 g2 => ?_))
    have g1' := e2.blk g1
    have E := e1.trans e2
    have c0 : hcell h2 ((⟨h.size, 0, none⟩ : Addr).add 0) = some (.int .i64 k) := by rw [blk_cell g1']; rfl
    have c1 : hcell h2 ((⟨h.size, 0, none⟩ : Addr).add 1) = some (.int .i64 n) := by rw [blk_cell g1']; rfl
    have c2 : hcell h2 ((⟨h.size, 0, none⟩ : Addr).add 2) = some (.string (bs s)) := by rw [blk_cell g1']; rfl
    have c3 : hcell h2 ((⟨h.size, 0, none⟩ : Addr).add 3) = some xs.v := by rw [blk_cell g1']; rfl
    have d0 : hcell h2 ((⟨h1.size, 0, none⟩ : Addr).add 0) = some (.int .i64 k') := by rw [blk_cell g2]; rfl
    have d1 : hcell h2 ((⟨h1.size, 0, none⟩ : Addr).add 1) = some (.int .i64 n') := by rw [blk_cell g2]; rfl
    have d2 : hcell h2 ((⟨h1.size, 0, none⟩ : Addr).add 2) = some (.string (bs s')) := by rw [blk_cell g2]; rfl
    have d3 : hcell h2 ((⟨h1.size, 0, none⟩ : Addr).add 3) = some ys.v := by rw [blk_cell g2]; rfl
    refine ldI_b (n := k) c0 (ldI_b (n := k') d0 (ldI_b (n := n) c1 (ldI_b (n := n') d1 (ldS_b (n := bs s) c2 (ldS_b (n := bs s') d2 (ldL_b (n := xs) c3 (ldL_b (n := ys) d3 ?_)))))))
    refine bind_w (ccompare_spec (chk_b ⟨c0, d0, c1, d1, c2, d2, c3, d3⟩ ?_))
    refine bind_w (ccompare64_spec (chk_b ⟨c0, d0, c1, d1, c2, d2, c3, d3⟩ ?_))
    unfold strings_Compare internal_bytealg_CompareString
    refine bind_w (pure_b (pure_w (chk_b ⟨c0, d0, c1, d1, c2, d2, c3, d3⟩ ?_)))
    simp only [Vl.mk.sizeOf_spec] at hm
    refine bind_w (comparefunc_spec (r1.ext E) (r2.ext E) (fun j hj hj' h3 c c' Q1 e3 hv hv' hq => ?_) (fun h3 e3 => ?_))
    · refine callV_f cl_value_Compare (S_value_Compare _ _) (ih _ _ ?_ hv hv' hq)
      have := List.sizeOf_lt_of_mem (List.getElem_mem hj)
      omega
    · refine bdL_b ?_
      have e4 := Ext.push h3 (.cells #[Value.int .i64 (cmpI k k'), .int .i64 (cmpI n n'), .int .i64 (Lib.compareBytes (bs s).data.toList (bs s').data.toList), .int .i64 (cmpVs l l')] ty_int)
      refine bind_w (cor_spec (zs := [cmpI k k', cmpI n n', Lib.compareBytes s s', cmpVs l l']) (t := ty_int) ?_ rfl (by simp) (pure_w ?_))
      · exact get_push_eq
      · have := H _ ((E.trans e3).trans e4)
        rw [cmpV] at this
        have hz : ∀ a : Int, cOr a 0 = a := fun a => by unfold cOr; split <;> simp_all
        simpa [cOrs, hz] using this
theorem vcompare_spec {a b : Vl} {h : Heap} {Q : Int → Heap → Prop} {x y : Array Value} (hx : VRep h a x) (hy : VRep h b y) (H : ∀ h', Ext h h' → Q (cmpV a b) h') : (value_Compare x y).wp h Q := vcompare_aux _ a b (Nat.lt_succ_self _) hx hy H
end Gx
namespace Gx
open Go
set_option linter.unusedVariables false
set_option linter.unusedSimpArgs false
theorem bs_size (l : List UInt8) : (bs l).size = l.length := by simp [bs, ByteArray.size]
theorem bs_get? (l : List UInt8) (i : Nat) : (bs l)[i]? = l[i]? := by
  rcases Nat.lt_or_ge i l.length with h | h
  · rw [List.getElem?_eq_getElem h]
    have : i < (bs l).size := by rw [bs_size]; exact h
    rw [getElem?_pos (bs l) i this]
    rfl
  · rw [List.getElem?_eq_none h]
    have : ¬ i < (bs l).size := by rw [bs_size]; omega
    rw [getElem?_neg (bs l) i this]
theorem bs_toList (l : List UInt8) : (bs l).toList = l := by rw [ByteArray.toList_eq]
theorem sEq_bs (a b : List UInt8) : sEq (bs a) (bs b) = decide (a = b) := by
  unfold sEq
  rw [bs_toList, bs_toList, Bool.eq_iff_iff]
  simp
theorem bs_empty : ByteArray.empty = bs [] := rfl
theorem ixS_b {β : Type} {h : Heap} {Q : β → Heap → Prop} {l : List UInt8} {i : Nat} {t : Int} {f : Int → M β} (ht : t = (i : Int)) (hi : i < l.length) (H : (f (l[i].toNat : Int)).wp h Q) : (ixS (bs l) t >>= f).wp h Q :=
  ⟨_, ⟨by omega, l[i], by subst ht; rw [Int.toNat_natCast, bs_get?, List.getElem?_eq_getElem hi], rfl⟩, H⟩
theorem ixV_b {β : Type} {h : Heap} {Q : β → Heap → Prop} {x : Sl} {l : List Vl} {i : Nat} {t : Int} {f : Addr → M β} (H : VsRep h x l) (hi : i < l.length) (ht : t = (i : Int))
    (hq : ∀ a c, c.size = 4 → (∀ m, m < 4 → hcell h (a.add m) = c[m]?) → VRep h l[i] c → (f a).wp h Q) : (ixL x t 4 >>= f).wp h Q := by
  obtain ⟨a, c, ha, hs, hcs, hv⟩ := H.get hi
  have := H.len
  subst ht
  refine ixL_b (by omega) (by omega) ha (hq _ c hs (fun m hm => ?_) hv)
  rw [Addr.add_add, show (i : Int).toNat * 4 = i * 4 by omega]
  exact hcs m hm
theorem rnum_spec {a b : Int} {h : Heap} {Q : Int → Heap → Prop} (H : Q (cmpI a b) h) : (rambleref02_num a b).wp h Q := by
  unfold rambleref02_num
  unfold cmpI at H
  refine ite_w (fun hc => ?_) (fun hc => ?_)
  · rw [if_pos (of_decide_eq_true hc)] at H; exact H
  · rw [if_neg (of_decide_eq_false hc)] at H
    refine ite_w (fun hc => ?_) (fun hc => ?_)
    · rw [if_pos (of_decide_eq_true hc)] at H; exact H
    · rw [if_neg (of_decide_eq_false hc)] at H; exact H
theorem u8_lt_int {a b : UInt8} : (a < b) ↔ ((a.toNat : Int) < (b.toNat : Int)) := by
  rw [UInt8.lt_iff_toNat_lt]; omega
theorem compareBytes_cons (a b : UInt8) (s t : List UInt8) : Lib.compareBytes (a :: s) (b :: t) = if a = b then Lib.compareBytes s t else cmpI (a.toNat : Int) (b.toNat : Int) := by
  rw [Lib.compareBytes]
  unfold cmpI
  have h1 := @u8_lt_int a b
  have h2 := @u8_lt_int b a
  by_cases he : a = b
  · subst he
    rw [if_pos rfl, if_neg (by rw [h1]; omega), if_neg (by rw [h1]; omega)]
  · have hne : a.toNat ≠ b.toNat := fun h => he (UInt8.toNat_inj.1 h)
    rw [if_neg he]
    by_cases hlt : a < b
    · rw [if_pos hlt, if_pos (h1.1 hlt)]
    · rw [if_neg hlt, if_neg (fun h => hlt (h1.2 h))]
      have : b < a := by rw [h2]; rw [h1] at hlt; omega
      rw [if_pos this, if_pos (h2.1 this)]
theorem rtext_spec {s t : List UInt8} {h : Heap} {Q : Int → Heap → Prop} (hs : s.length ≤ 9223372036854775807) (ht : t.length ≤ 9223372036854775807) (H : Q (Lib.compareBytes s t) h) : (rambleref02_text (bs s) (bs t)).wp h Q := by
  unfold rambleref02_text
  refine M.loop_inv (fun (x : Int) h' => h' = h ∧ ∃ i : Nat, x = (i : Int) ∧ i ≤ s.length ∧ i ≤ t.length ∧ Lib.compareBytes (s.drop i) (t.drop i) = Lib.compareBytes s t) (fun x _ => ((s.length : Int) - x).toNat) ?_ ⟨rfl, 0, rfl, Nat.zero_le _, Nat.zero_le _, by simp⟩
  rintro x h' ⟨rfl, i, rfl, hi, hi', hd⟩ self hself
  unfold rambleref02_text_l1
  rw [bs_size, bs_size]
  have fin : ¬ (i < s.length ∧ i < t.length) → (rambleref02_num (s.length : Int) (t.length : Int)).wp h' (fun r h1 => (M.pure r : M Int).wp h1 Q) := fun hno => by
    refine rnum_spec (pure_w ?_)
    have : cmpI (s.length : Int) (t.length : Int) = Lib.compareBytes s t := by
      rw [← hd]
      unfold cmpI
      rcases Nat.lt_or_ge i s.length with h1 | h1
      · have h2 : i = t.length := by omega
        subst h2
        rw [List.drop_eq_getElem_cons h1, List.drop_length, Lib.compareBytes, if_neg (by omega), if_pos (by omega)]
      · have h2 : i = s.length := by omega
        subst h2
        rw [List.drop_length]
        rcases Nat.lt_or_ge s.length t.length with h3 | h3
        · rw [List.drop_eq_getElem_cons h3, Lib.compareBytes, if_pos (by omega)]
        · have : t.length = s.length := by omega
          rw [← this, List.drop_length, Lib.compareBytes, if_neg (by omega), if_neg (by omega)]
    rw [this]
    exact H
  refine bind_w (ite_w (fun h1 => ?_) (fun h1 => ?_))
  · have h1 : i < s.length := by have := of_decide_eq_true h1; omega
    refine pure_w (ite_w (fun h2 => ?_) (fun h2 => ?_))
    · have h2 : i < t.length := by have := of_decide_eq_true h2; omega
      rw [List.drop_eq_getElem_cons h1, List.drop_eq_getElem_cons h2, compareBytes_cons] at hd
      refine ixS_b rfl h1 (ixS_b rfl h2 (ite_w (fun hne => ?_) (fun heq => ?_)))
      · have hne : s[i] ≠ t[i] := fun h => by rw [h] at hne; simp at hne
        rw [if_neg hne] at hd
        have b1 := s[i].toNat_lt
        have b2 := t[i].toNat_lt
        refine ixS_b rfl h1 (ixS_b rfl h2 ?_)
        rw [w64 (by omega) (by omega), w64 (by omega) (by omega)]
        refine bind_w (rnum_spec (pure_w ?_))
        rw [hd]; exact H
      · have heq' : ((s[i].toNat : Int)) = t[i].toNat := by simpa using heq
        have heq : s[i] = t[i] := UInt8.toNat_inj.1 (by omega)
        rw [if_pos heq] at hd
        rw [w64 (by omega) (by omega)]
        exact hself _ _ ⟨rfl, i + 1, by simp, by omega, by omega, hd⟩ (by omega)
    · have h2 : ¬ i < t.length := by have := of_decide_eq_false h2; omega
      exact bind_w (fin (fun h => h2 h.2))
  · have h1 : ¬ i < s.length := by have := of_decide_eq_false h1; omega
    exact pure_w (iteF rfl (bind_w (fin (fun h => h1 h.1))))
theorem rcompare_aux : ∀ (m : Nat) (a b : Vl) {h : Heap} {Q : Int → Heap → Prop} {x y : Array Value}, sizeOf a < m → VRep h a x → VRep h b y → (∀ h', Ext h h' → Q (cmpV a b) h') → (rambleref02_Compare x y).wp h Q := by
  intro m
  induction m with
  | zero => intro a b h Q x y hm; omega
  | succ m ih =>
    rintro ⟨k, n, s, l⟩ ⟨k', n', s', l'⟩ h Q x y hm hx hy H
    obtain ⟨xs, rfl, k1, n1, s1, r1⟩ := VRep.eq.1 hx
    obtain ⟨ys, rfl, k2, n2, s2, r2⟩ := VRep.eq.1 hy
    simp only [Vl.mk.sizeOf_spec] at hm
    have hxl := r1.len
    have hyl := r2.len
    have hxb := r1.big
    have hyb := r2.big
    have hxc := r1.cap
    have hyc := r2.cap
    unfold rambleref02_Compare
    refine mkV_b (fun h1 e1 z1 g1 => mkV_b (fun h2 e2 z2 g2 => ?_))
    have g1' := e2.blk g1
    have E := e1.trans e2
    rw [cmpV] at H
    refine ldI_b (n := k) (by rw [blk_cell g1']; rfl) (ldI_b (n := k') (by rw [blk_cell g2]; rfl) (bind_w (rnum_spec ?_)))
    refine ite_w (fun hne => ?_) (fun heq => ?_)
    · have hne : cmpI k k' ≠ 0 := by simpa using hne
      have := H _ E
      rw [cOr, if_neg hne] at this
      exact pure_w this
    have heq : cmpI k k' = 0 := by simpa using heq
    rw [cOr, if_pos heq] at H
    refine ldI_b (n := n) (by rw [blk_cell g1']; rfl) (ldI_b (n := n') (by rw [blk_cell g2]; rfl) (bind_w (rnum_spec ?_)))
    refine ite_w (fun hne => ?_) (fun heq => ?_)
    · have hne : cmpI n n' ≠ 0 := by simpa using hne
      have := H _ E
      rw [cOr, if_neg hne] at this
      exact pure_w this
    have heq : cmpI n n' = 0 := by simpa using heq
    rw [cOr, if_pos heq] at H
    refine ldS_b (n := bs s) (by rw [blk_cell g1']; rfl) (ldS_b (n := bs s') (by rw [blk_cell g2]; rfl) (bind_w (rtext_spec s1 s2 ?_)))
    refine ite_w (fun hne => ?_) (fun heq => ?_)
    · have hne : Lib.compareBytes s s' ≠ 0 := by simpa using hne
      have := H _ E
      rw [cOr, if_neg hne] at this
      exact pure_w this
    have heq : Lib.compareBytes s s' = 0 := by simpa using heq
    rw [cOr, if_pos heq] at H
    refine M.loop_inv (fun (t : Int) h' => Ext h2 h' ∧ ∃ i : Nat, t = (i : Int) ∧ i ≤ l.length ∧ i ≤ l'.length ∧ cmpVs (l.drop i) (l'.drop i) = cmpVs l l') (fun t _ => ((l.length : Int) - t).toNat) ?_ ⟨Ext.refl h2, 0, rfl, Nat.zero_le _, Nat.zero_le _, by simp⟩
    rintro t h' ⟨E', i, rfl, hi, hi', hd⟩ self hself
    have f1 := E'.blk g1'
    have f2 := E'.blk g2
    have c3 : hcell h' ((⟨h.size, 0, none⟩ : Addr).add 3) = some xs.v := by rw [blk_cell f1]; rfl
    have d3 : hcell h' ((⟨h1.size, 0, none⟩ : Addr).add 3) = some ys.v := by rw [blk_cell f2]; rfl
    have EE := E.trans E'
    have fin : ¬ (i < l.length ∧ i < l'.length) → (ldL ((⟨h.size, 0, none⟩ : Addr).add 3) >>= fun x63_48 => ldL ((⟨h1.size, 0, none⟩ : Addr).add 3) >>= fun x66_49 => rambleref02_num (x63_48.len : Int) (x66_49.len : Int) >>= fun x68_50 => M.pure x68_50).wp h' Q := fun hno => by
      refine ldL_b (n := xs) c3 (ldL_b (n := ys) d3 (bind_w (rnum_spec (pure_w ?_))))
      have : cmpI (xs.len : Int) (ys.len : Int) = cmpVs l l' := by
        rw [← hd, hxl, hyl]
        unfold cmpI
        rcases Nat.lt_or_ge i l.length with h1 | h1
        · have h2 : i = l'.length := by omega
          subst h2
          rw [List.drop_eq_getElem_cons h1, List.drop_length, cmpVs, if_neg (by omega), if_pos (by omega)]
        · have h2 : i = l.length := by omega
          subst h2
          rw [List.drop_length]
          rcases Nat.lt_or_ge l.length l'.length with h3 | h3
          · rw [List.drop_eq_getElem_cons h3, cmpVs, if_pos (by omega)]
          · have : l'.length = l.length := by omega
            rw [← this, List.drop_length, cmpVs, if_neg (by omega), if_neg (by omega)]
      rw [this]
      exact H _ EE
    unfold rambleref02_Compare_l1
    refine ldL_b (n := xs) c3 (bind_w (ite_w (fun h3 => ?_) (fun h3 => ?_)))
    · have h3 : i < l.length := by have := of_decide_eq_true h3; omega
      refine ldL_b (n := ys) d3 (pure_w (ite_w (fun h4 => ?_) (fun h4 => ?_)))
      · have h4 : i < l'.length := by have := of_decide_eq_true h4; omega
        rw [List.drop_eq_getElem_cons h3, List.drop_eq_getElem_cons h4, cmpVs] at hd
        refine ldL_b (n := xs) c3 (ixV_b (r1.ext EE) h3 rfl (fun a c hs hcs hv => ldG_b hs hcs (ldL_b (n := ys) d3 (ixV_b (r2.ext EE) h4 rfl (fun a' c' hs' hcs' hv' => ldG_b hs' hcs' ?_)))))
        refine bind_w (callF_w (S_rambleref02_Compare _ _) (ih _ _ ?_ hv hv' (fun h5 e5 => ?_)))
        · have := List.sizeOf_lt_of_mem (List.getElem_mem h3)
          omega
        refine ite_w (fun hne => ?_) (fun heq => ?_)
        · have hne : cmpV l[i] l'[i] ≠ 0 := by simpa using hne
          rw [cOr, if_neg hne] at hd
          rw [hd]
          exact pure_w (H _ (EE.trans e5))
        · have heq : cmpV l[i] l'[i] = 0 := by simpa using heq
          rw [cOr, if_pos heq] at hd
          rw [w64 (by omega) (by omega)]
          exact hself _ _ ⟨E'.trans e5, i + 1, by simp, by omega, by omega, hd⟩ (by omega)
      · have h4 : ¬ i < l'.length := by have := of_decide_eq_false h4; omega
        exact fin (fun h => h4 h.2)
    · have h3 : ¬ i < l.length := by have := of_decide_eq_false h3; omega
      exact pure_w (iteF rfl (fin (fun h => h3 h.1)))
theorem rcompare_spec {a b : Vl} {h : Heap} {Q : Int → Heap → Prop} {x y : Array Value} (hx : VRep h a x) (hy : VRep h b y) (H : ∀ h', Ext h h' → Q (cmpV a b) h') : (rambleref02_Compare x y).wp h Q := rcompare_aux _ a b (Nat.lt_succ_self _) hx hy H
theorem ldV_b {β : Type} {h : Heap} {Q : β → Heap → Prop} {b : Nat} {t : TypeId} {z : Nat × Nat} {v : Vl} {cs : Array Value} {f : Array Value → M β} (hb : h[b]? = some (.cells cs t z)) (hv : cs.size = 4) (H : (f cs).wp h Q) : (ldG 4 ⟨b, 0, none⟩ >>= f).wp h Q :=
  ldG_b hv (fun i _ => by rw [blk_cell hb]) H
theorem vsame_spec {a b : Vl} {h : Heap} {Q : Bool → Heap → Prop} {x y : Array Value} (hx : VRep h a x) (hy : VRep h b y) (H : ∀ h', Ext h h' → Q (decide (cmpV a b = 0)) h') : (value_Same x y).wp h Q := by
  unfold value_Same
  refine mkV_b (fun h1 e1 z1 g1 => mkV_b (fun h2 e2 z2 g2 => ?_))
  have E := e1.trans e2
  refine ldV_b (v := a) (e2.blk g1) hx.size (ldV_b (v := b) g2 hy.size (bind_w (vcompare_spec (hx.ext E) (hy.ext E) (fun h3 e3 => pure_w ?_))))
  have := H _ (E.trans e3)
  rwa [show (cmpV a b == 0) = decide (cmpV a b = 0) from rfl]
theorem rsame_spec {a b : Vl} {h : Heap} {Q : Bool → Heap → Prop} {x y : Array Value} (hx : VRep h a x) (hy : VRep h b y) (H : ∀ h', Ext h h' → Q (decide (cmpV a b = 0)) h') : (rambleref02_Same x y).wp h Q := by
  unfold rambleref02_Same
  refine mkV_b (fun h1 e1 z1 g1 => mkV_b (fun h2 e2 z2 g2 => ?_))
  have E := e1.trans e2
  refine ldV_b (v := a) (e2.blk g1) hx.size (ldV_b (v := b) g2 hy.size (bind_w (rcompare_spec (hx.ext E) (hy.ext E) (fun h3 e3 => pure_w ?_))))
  have := H _ (E.trans e3)
  rwa [show (cmpV a b == 0) = decide (cmpV a b = 0) from rfl]
end Gx
namespace Gx
open Go
set_option linter.unusedVariables false
set_option linter.unusedSimpArgs false
def risesL : List Vl → Bool
  | a :: _ :: c :: r => decide (cmpV a c < 0) && risesL (c :: r)
  | _ => true
def bareV (s : List UInt8) (l : List Vl) : Bool := decide (s = []) && l.isEmpty
def mayV : Nat → Vl → Bool
  | 0, _ => false
  | d + 1, .mk k n s l =>
    if k = 1 then bareV s l
    else if k = 3 then bareV s l && (decide (n = 0) || decide (n = 1))
    else if k = 6 ∨ k = 7 then bareV s l && decide (1 ≤ n) && decide (n ≤ 281474976710656)
    else if k = 2 then decide (n = 0) && l.isEmpty && decide (s.length ≤ 128)
    else if k = 4 then decide (l.length ≤ 256) && (decide (n = 0) && decide (s = []) && l.all (mayV d))
    else if k = 5 then decide (l.length ≤ 512) && decide (l.length % 2 = 0) && risesL l && (decide (n = 0) && decide (s = []) && l.all (mayV d))
    else false
theorem and_b {β : Type} {h : Heap} {Q : β → Heap → Prop} {b c : Bool} {m : M Bool} {f : Bool → M β} (hm : b = true → ∀ Q' : Bool → Heap → Prop, Q' c h → m.wp h Q') (H : (f (b && c)).wp h Q) : (M.ite b m (M.pure false) >>= f).wp h Q := by
  cases b with
  | true => exact hm rfl _ H
  | false => exact H
theorem or_b {β : Type} {h : Heap} {Q : β → Heap → Prop} {b c : Bool} {m : M Bool} {f : Bool → M β} (hm : b = false → ∀ Q' : Bool → Heap → Prop, Q' c h → m.wp h Q') (H : (f (b || c)).wp h Q) : (M.ite b (M.pure true) m >>= f).wp h Q := by
  cases b with
  | true => exact H
  | false => exact hm rfl _ H
theorem len0 {n : Nat} {l : List Vl} (h : n = l.length) : ((n : Int) == 0) = l.isEmpty := by
  subst h
  cases l with
  | nil => rfl
  | cons a l => simp; omega
theorem sEq0 (s : List UInt8) : sEq (bs s) ByteArray.empty = decide (s = []) := by rw [bs_empty, sEq_bs]
theorem eqI (a b : Int) : (a == b) = decide (a = b) := rfl
theorem vcontains_spec {h : Heap} {Q : Bool → Heap → Prop} {x : Sl} {l : List Vl} {g : Value} {p : Vl → Bool} (hx : VsRep h x l)
    (hg : ∀ j (hj : j < l.length) h1 c (Q1 : Bool → Heap → Prop), Ext h h1 → VRep h1 l[j] c → (∀ h2, Ext h1 h2 → Q1 (p l[j]) h2) → (callV Go.Proofs.Tryz.prog (fun r : Bool => .bool r) g [.agg c]).wp h1 Q1)
    (H : ∀ h', Ext h h' → Q (l.any p) h') : (slices_ContainsFunc_slapi_Value_api_Value x g).wp h Q := by
  unfold slices_ContainsFunc_slapi_Value_api_Value slices_IndexFunc_slapi_Value_api_Value
  have hxl := hx.len
  have hxb := hx.big
  have hxc := hx.cap
  refine bind_w (M.loop_inv (fun (t : Int) h' => Ext h h' ∧ ∃ i : Nat, t = (i : Int) ∧ i ≤ l.length ∧ (l.drop i).any p = l.any p) (fun t _ => ((l.length : Int) - t).toNat) ?_ ⟨Ext.refl h, 0, rfl, Nat.zero_le _, by simp⟩)
  rintro t h' ⟨E, i, rfl, hi, hd⟩ self hself
  unfold slices_IndexFunc_slapi_Value_api_Value_l1
  refine ite_w (fun hc => ?_) (fun hc => ?_)
  · have hlt : i < l.length := by have := of_decide_eq_true hc; omega
    rw [List.drop_eq_getElem_cons hlt, List.any_cons] at hd
    refine ixV_b (hx.ext E) hlt rfl (fun a c hs hcs hv => ldG_b hs hcs (bind_w (hg i hlt h' c _ E hv (fun h2 e2 => ?_))))
    refine ite_w (fun ht => pure_w (pure_w ?_)) (fun hf => ?_)
    · rw [ht] at hd
      rw [show decide ((i : Int) ≥ 0) = l.any p by rw [← hd]; simp]
      exact H _ (E.trans e2)
    · rw [hf, Bool.false_or] at hd
      rw [w64 (by omega) (by omega)]
      exact hself _ _ ⟨E.trans e2, i + 1, by simp, by omega, hd⟩ (by omega)
  · have hge : i = l.length := by have := of_decide_eq_false hc; omega
    subst hge
    rw [List.drop_length] at hd
    refine pure_w (pure_w ?_)
    rw [show decide ((-1 : Int) ≥ 0) = l.any p by rw [← hd]; rfl]
    exact H _ E
theorem rises_step {l : List Vl} {i : Nat} (h2 : 2 ≤ i) (hi : i < l.length) : risesL (l.drop (i - 2)) = (decide (cmpV (l[i - 2]'(by omega)) l[i] < 0) && risesL (l.drop i)) := by
  rw [List.drop_eq_getElem_cons (show i - 2 < l.length by omega), List.drop_eq_getElem_cons (show i - 2 + 1 < l.length by omega)]
  have e : i - 2 + 1 + 1 = i := by omega
  simp only [e]
  rw [List.drop_eq_getElem_cons hi, risesL]
theorem rises_end {l : List Vl} {i : Nat} (h2 : 2 ≤ i) (hi : l.length ≤ i) : risesL (l.drop (i - 2)) = true := by
  have hl : (l.drop (i - 2)).length ≤ 2 := by rw [List.length_drop]; omega
  match h : l.drop (i - 2), hl with
  | [], _ => rfl
  | [_], _ => rfl
  | [_, _], _ => rfl
theorem any_not (l : List Vl) (p : Vl → Bool) : (!l.any fun x => !p x) = l.all p := by
  induction l with
  | nil => rfl
  | cons a l ih => simp [List.any_cons, List.all_cons, ← ih]
theorem vmay_spec : ∀ (d : Nat) (v : Vl) {h : Heap} {Q : Bool → Heap → Prop} {x : Array Value}, d ≤ 8 → VRep h v x → (∀ h', Ext h h' → Q (mayV d v) h') → (value_may x ((9 - d : Nat) : Int)).wp h Q := by
  intro d
  induction d with
  | zero =>
    rintro v h Q x _ hx H
    unfold value_may
    refine mkV_b (fun h1 e1 z1 g1 => mkV_b (fun h2 e2 z2 g2 => ?_))
    refine ldI_b (n := ((9 - 0 : Nat) : Int)) (by rw [show (⟨h1.size, 0, none⟩ : Addr) = (⟨h1.size, 0, none⟩ : Addr).add 0 from rfl, blk_cell g2]; rfl) (iteT rfl (pure_w (H _ (e1.trans e2))))
  | succ d ih =>
    rintro ⟨k, n, s, l⟩ h Q x hd hx H
    obtain ⟨xs, rfl, k1, n1, s1, r1⟩ := VRep.eq.1 hx
    have hxl := r1.len
    have hxb := r1.big
    have hxc := r1.cap
    unfold value_may
    refine mkV_b (fun h1 e1 z1 g1 => mkV_b (fun h2 e2 z2 g2 => ?_))
    have g1' := e2.blk g1
    have E := e1.trans e2
    have c0 : hcell h2 ((⟨h.size, 0, none⟩ : Addr).add 0) = some (.int .i64 k) := by rw [blk_cell g1']; rfl
    have c1 : hcell h2 ((⟨h.size, 0, none⟩ : Addr).add 1) = some (.int .i64 n) := by rw [blk_cell g1']; rfl
    have c2 : hcell h2 ((⟨h.size, 0, none⟩ : Addr).add 2) = some (.string (bs s)) := by rw [blk_cell g1']; rfl
    have c3 : hcell h2 ((⟨h.size, 0, none⟩ : Addr).add 3) = some xs.v := by rw [blk_cell g1']; rfl
    have cd : hcell h2 ⟨h1.size, 0, none⟩ = some (.int .i64 ((9 - (d + 1) : Nat) : Int)) := by rw [show (⟨h1.size, 0, none⟩ : Addr) = (⟨h1.size, 0, none⟩ : Addr).add 0 from rfl, blk_cell g2]; rfl
    have H2 : Q (mayV (d + 1) (.mk k n s l)) h2 := H _ E
    unfold mayV at H H2
    refine ldI_b cd (iteF (by simp; omega) (ldS_b c2 (and_b (c := l.isEmpty) (fun _ Q' hq => ldL_b c3 (pure_w (by rw [len0 hxl]; exact hq))) ?_)))
    rw [sEq0]
    have hb : (decide (s = []) && l.isEmpty) = bareV s l := rfl
    rw [hb]
    -- the last part: what stands within
    have tail : (∀ h', Ext h h' → Q (decide (n = 0) && decide (s = []) && l.all (mayV d)) h') → ∀ h3, Ext h2 h3 → (value_may_j1 ⟨h.size, 0, none⟩ ⟨h1.size, 0, none⟩).wp h3 Q := fun HT h3 e3 => by
      unfold value_may_j1
      refine ldI_b (e3.cell c1) (and_b (c := decide (s = [])) (fun _ Q' hq => ldS_b (e3.cell c2) (pure_w (by rw [sEq0]; exact hq))) ?_)
      rw [eqI]
      cases hns : (decide (n = 0) && decide (s = [])) with
      | false =>
        have := HT h3 (E.trans e3)
        rw [hns] at this
        exact pure_b (pure_w this)
      | true =>
        rw [hns] at HT
        refine bind_w (iteT rfl (ldL_b (e3.cell c3) (bind_w (vcontains_spec (p := fun x => !mayV d x) (r1.ext (E.trans e3)) (fun j hj h4 c Q1 e4 hv hq => ?_) (fun h4 e4 => pure_w (pure_w ?_))))))
        · refine callV_f cl_value_may_1 (S_value_may_1 _ _) ?_
          unfold value_may_1
          refine mkV_b (fun h5 e5 z5 g5 => ldV_b (v := l[j]) g5 hv.size (ldI_b (e5.cell (e4.cell (e3.cell cd))) ?_))
          rw [show IntKind.wrap .i64 (((9 - (d + 1) : Nat) : Int) + 1) = ((9 - d : Nat) : Int) by rw [w64 (by omega) (by omega)]; omega]
          exact bind_w (ih _ (by omega) (hv.ext e5) (fun h6 e6 => pure_w (hq _ (e5.trans e6))))
        · rw [any_not]
          exact HT _ ((E.trans e3).trans e4)
    refine ldI_b c0 (ite_w (fun h1k => ?_) (fun h1k => ?_))
    · have h1k : k = 1 := by simpa using h1k
      rw [if_pos h1k] at H2
      exact pure_w H2
    have h1k : ¬ k = 1 := by simpa using h1k
    rw [if_neg h1k] at H2
    simp only [if_neg h1k] at H
    refine ite_w (fun h3k => ?_) (fun h3k => ?_)
    · have h3k : k = 3 := by simpa using h3k
      rw [if_pos h3k] at H2
      refine and_b (c := (decide (n = 0) || decide (n = 1))) (fun _ Q' hq => ldI_b c1 (or_b (c := decide (n = 1)) (fun _ Q'' hq' => ldI_b c1 (pure_w hq')) (pure_w hq))) (pure_w H2)
    have h3k : ¬ k = 3 := by simpa using h3k
    rw [if_neg h3k] at H2
    simp only [if_neg h3k] at H
    have j2 : (value_may_j2 ⟨h.size, 0, none⟩ ⟨h1.size, 0, none⟩ (bareV s l) k (decide (k = 6 ∨ k = 7))).wp h2 Q := by
      unfold value_may_j2
      refine ite_w (fun h67 => ?_) (fun h67 => ?_)
      · rw [if_pos (of_decide_eq_true h67)] at H2
        refine and_b (c := decide (1 ≤ n)) (fun _ Q' hq => ldI_b c1 (pure_w hq)) (and_b (c := decide (n ≤ 281474976710656)) (fun _ Q' hq => ldI_b c1 (pure_w hq)) (pure_w H2))
      rw [if_neg (of_decide_eq_false h67)] at H2
      simp only [if_neg (of_decide_eq_false h67)] at H
      refine ite_w (fun h2k => ?_) (fun h2k => ?_)
      · have h2k : k = 2 := by simpa using h2k
        rw [if_pos h2k] at H2
        refine ldI_b c1 (and_b (c := l.isEmpty) (fun _ Q' hq => ldL_b c3 (pure_w (by rw [len0 hxl]; exact hq))) (and_b (c := decide (s.length ≤ 128)) (fun _ Q' hq => ldS_b c2 (pure_w (by rw [show decide (((bs s).size : Int) ≤ 128) = decide (s.length ≤ 128) by rw [bs_size, Bool.eq_iff_iff]; simp only [decide_eq_true_eq]; omega]; exact hq))) (pure_w ?_)))
        exact H2
      have h2k : ¬ k = 2 := by simpa using h2k
      rw [if_neg h2k] at H2
      simp only [if_neg h2k] at H
      refine ite_w (fun h4k => ?_) (fun h4k => ?_)
      · have h4k : k = 4 := by simpa using h4k
        rw [if_pos h4k] at H2
        simp only [if_pos h4k] at H
        refine ldL_b c3 (ite_w (fun hbig => ?_) (fun hsm => ?_))
        · have : ¬ l.length ≤ 256 := by have := of_decide_eq_true hbig; omega
          rw [decide_eq_false this, Bool.false_and] at H2
          exact pure_w H2
        · have : l.length ≤ 256 := by have := of_decide_eq_false hsm; omega
          simp only [decide_eq_true this, Bool.true_and] at H
          exact tail H h2 (Ext.refl _)
      have h4k : ¬ k = 4 := by simpa using h4k
      rw [if_neg h4k] at H2
      simp only [if_neg h4k] at H
      refine ite_w (fun h5k => ?_) (fun h5k => ?_)
      · have h5k : k = 5 := by simpa using h5k
        rw [if_pos h5k] at H2
        simp only [if_pos h5k] at H
        have hodd : ((Int.tmod (xs.len : Int) 2) == 1) = !decide (l.length % 2 = 0) := by
          rw [hxl, Int.tmod_eq_emod_of_nonneg (by omega), Bool.eq_iff_iff]
          simp
          omega
        refine ldL_b c3 (or_b (c := !decide (l.length % 2 = 0)) (fun _ Q' hq => ldL_b c3 (pure_w (by rw [hodd]; exact hq))) ?_)
        have hbig : decide ((xs.len : Int) > 512) = !decide (l.length ≤ 512) := by
          rw [hxl, Bool.eq_iff_iff]; simp; omega
        rw [hbig]
        cases h512 : decide (l.length ≤ 512) with
        | false => rw [h512] at H2; exact iteT rfl (pure_w (by simpa using H2))
        | true =>
          cases heven : decide (l.length % 2 = 0) with
          | false => rw [h512, heven] at H2; exact iteT rfl (pure_w (by simpa using H2))
          | true =>
            simp only [h512, heven, Bool.true_and] at H
            refine iteF rfl ?_
            refine M.loop_inv (fun (t : Int) h' => Ext h2 h' ∧ ∃ i : Nat, t = (i : Int) ∧ 2 ≤ i ∧ i ≤ l.length + 2 ∧ risesL (l.drop (i - 2)) = risesL l) (fun t _ => ((l.length : Int) + 2 - t).toNat) ?_ ⟨Ext.refl h2, 2, rfl, Nat.le_refl _, by omega, by simp⟩
            rintro t h' ⟨E', i, rfl, hi2, hi, hd'⟩ self hself
            unfold value_may_l1
            have hl512 := of_decide_eq_true h512
            refine ldL_b (E'.cell c3) (ite_w (fun hc => ?_) (fun hc => ?_))
            · have hlt : i < l.length := by have := of_decide_eq_true hc; omega
              rw [rises_step hi2 hlt] at hd'
              have EE := E.trans E'
              refine ldL_b (E'.cell c3) (ixV_b (i := i - 2) (r1.ext EE) (by omega) (by rw [w64 (by omega) (by omega)]; omega) (fun a c hs hcs hv => ldG_b hs hcs (ldL_b (E'.cell c3) (ixV_b (r1.ext EE) hlt rfl (fun a' c' hs' hcs' hv' => ldG_b hs' hcs' ?_)))))
              refine bind_w (vcompare_spec hv hv' (fun h3 e3 => ?_))
              refine ite_w (fun hge => ?_) (fun hlt' => ?_)
              · have hge : ¬ cmpV (l[i - 2]'(by omega)) l[i] < 0 := by have := of_decide_eq_true hge; omega
                rw [decide_eq_false hge, Bool.false_and] at hd'
                have := H _ (EE.trans e3)
                rw [← hd', Bool.false_and] at this
                exact pure_w this
              · have hlt' : cmpV (l[i - 2]'(by omega)) l[i] < 0 := by have := of_decide_eq_false hlt'; omega
                rw [decide_eq_true hlt', Bool.true_and] at hd'
                rw [w64 (by omega) (by omega)]
                exact hself _ _ ⟨E'.trans e3, i + 2, by simp, by omega, by omega, by simpa using hd'⟩ (by omega)
            · have hge : l.length ≤ i := by have := of_decide_eq_false hc; omega
              rw [rises_end hi2 hge] at hd'
              refine tail (fun h3 e3 => ?_) h' E'
              have := H h3 e3
              rw [← hd', Bool.true_and] at this
              exact this
      · have h5k : ¬ k = 5 := by simpa using h5k
        rw [if_neg h5k] at H2
        exact pure_w H2
    refine ite_w (fun h6k => ?_) (fun h6k => ?_)
    · have h6k : k = 6 := by simpa using h6k
      have e : (k == 6) = decide (k = 6 ∨ k = 7) := by subst h6k; rfl
      rw [e]
      exact j2
    · have h6k : ¬ k = 6 := by simpa using h6k
      have e : (k == 7) = decide (k = 6 ∨ k = 7) := by rw [eqI, Bool.eq_iff_iff]; simp [h6k]
      rw [e]
      exact j2
def checkV (v : Vl) : Int := if mayV 8 v = true then 0 else 20
theorem vcheck_spec {v : Vl} {h : Heap} {Q : Int → Heap → Prop} {x : Array Value} (hx : VRep h v x) (H : ∀ h', Ext h h' → Q (checkV v) h') : (value_Check x).wp h Q := by
  unfold value_Check
  refine mkV_b (fun h1 e1 z1 g1 => ldV_b (v := v) g1 hx.size (bind_w (vmay_spec 8 v (Nat.le_refl _) (hx.ext e1) (fun h2 e2 => ?_))))
  have := H _ (e1.trans e2)
  unfold checkV at this
  cases hm : mayV 8 v with
  | true => rw [hm, if_pos rfl] at this; exact iteF rfl (pure_w this)
  | false => rw [hm, if_neg (by simp)] at this; exact iteT rfl (pure_w this)
end Gx
namespace Gx
open Go
set_option linter.unusedVariables false
set_option linter.unusedSimpArgs false
end Gx
namespace Gx
open Go
set_option linter.unusedVariables false
set_option linter.unusedSimpArgs false
mutual
def VRepS (S : Nat → Prop) (h : Heap) : Vl → Array Value → Prop
  | .mk k n s l, cs => ∃ x : Sl, cs = vcells k n s x ∧ I64 k ∧ I64 n ∧ s.length ≤ 9223372036854775807 ∧ (x.len = l.length ∧ x.len ≤ x.cap ∧ x.len ≤ 9223372036854775807 ∧ VsAtS S h l x.base 0)
def VsAtS (S : Nat → Prop) (h : Heap) : List Vl → Option Addr → Nat → Prop
  | [], _, _ => True
  | v :: l, b, i => (∃ a cs, b = some a ∧ S a.block ∧ cs.size = 4 ∧ (∀ j, j < 4 → hcell h (a.add (i * 4 + j)) = cs[j]?) ∧ VRepS S h v cs) ∧ VsAtS S h l b (i + 1)
end
structure VsRepS (S : Nat → Prop) (h : Heap) (x : Sl) (l : List Vl) : Prop where
  len : x.len = l.length
  cap : x.len ≤ x.cap
  big : x.len ≤ 9223372036854775807
  at_ : VsAtS S h l x.base 0
theorem VRepS.eq {S : Nat → Prop} {h : Heap} {k n : Int} {s : List UInt8} {l : List Vl} {cs : Array Value} : VRepS S h (.mk k n s l) cs ↔ ∃ x : Sl, cs = vcells k n s x ∧ I64 k ∧ I64 n ∧ s.length ≤ 9223372036854775807 ∧ VsRepS S h x l := by
  rw [VRepS]
  constructor
  · rintro ⟨x, h1, h2, h3, h4, h5, h6, h7, h8⟩; exact ⟨x, h1, h2, h3, h4, h5, h6, h7, h8⟩
  · rintro ⟨x, h1, h2, h3, h4, h5, h6, h7, h8⟩; exact ⟨x, h1, h2, h3, h4, h5, h6, h7, h8⟩
theorem VsAtS.get {S : Nat → Prop} {h : Heap} : ∀ {l : List Vl} {b : Option Addr} {i : Nat}, VsAtS S h l b i → ∀ {j : Nat} (hj : j < l.length), ∃ a cs, b = some a ∧ S a.block ∧ cs.size = 4 ∧ (∀ m, m < 4 → hcell h (a.add ((i + j) * 4 + m)) = cs[m]?) ∧ VRepS S h l[j] cs
  | [], _, _, _, j, hj => by simp at hj
  | v :: l, b, i, H, 0, hj => by rw [VsAtS] at H; exact H.1
  | v :: l, b, i, H, j + 1, hj => by
    rw [VsAtS] at H
    have := VsAtS.get H.2 (j := j) (by simpa using hj)
    rw [show i + (j + 1) = i + 1 + j by omega]
    exact this
theorem VsAtS.of {S : Nat → Prop} {h : Heap} : ∀ {l : List Vl} {b : Option Addr} {i : Nat}, (∀ j (hj : j < l.length), ∃ a cs, b = some a ∧ S a.block ∧ cs.size = 4 ∧ (∀ m, m < 4 → hcell h (a.add ((i + j) * 4 + m)) = cs[m]?) ∧ VRepS S h l[j] cs) → VsAtS S h l b i
  | [], _, _, _ => by rw [VsAtS]; trivial
  | v :: l, b, i, H => by
    rw [VsAtS]
    refine ⟨H 0 (by simp), VsAtS.of (fun j hj => ?_)⟩
    have := H (j + 1) (by simpa using hj)
    rw [show i + 1 + j = i + (j + 1) by omega]
    exact this
theorem VsRepS.get {S : Nat → Prop} {h : Heap} {x : Sl} {l : List Vl} (H : VsRepS S h x l) {j : Nat} (hj : j < l.length) : ∃ a cs, x.base = some a ∧ S a.block ∧ cs.size = 4 ∧ (∀ m, m < 4 → hcell h (a.add (j * 4 + m)) = cs[m]?) ∧ VRepS S h l[j] cs := by
  have := H.at_.get hj
  rw [Nat.zero_add] at this
  exact this
theorem vl_lt {k n : Int} {s : List UInt8} {l : List Vl} {m j : Nat} (hm : sizeOf (Vl.mk k n s l) < m + 1) (hj : j < l.length) : sizeOf l[j] < m := by
  have := List.sizeOf_lt_of_mem (List.getElem_mem hj)
  simp only [Vl.mk.sizeOf_spec] at hm
  omega
theorem vreps_same {S T : Nat → Prop} {h h' : Heap} (e : ∀ b, S b → h'[b]? = h[b]?) (hT : ∀ b, S b → T b) : ∀ (m : Nat) (v : Vl) (cs : Array Value), sizeOf v < m → VRepS S h v cs → VRepS T h' v cs := by
  intro m
  induction m with
  | zero => intro v cs hm; omega
  | succ m ih =>
    rintro ⟨k, n, s, l⟩ cs hm H
    obtain ⟨x, h1, h2, h3, h4, h5⟩ := VRepS.eq.1 H
    refine VRepS.eq.2 ⟨x, h1, h2, h3, h4, h5.len, h5.cap, h5.big, VsAtS.of (fun j hj => ?_)⟩
    obtain ⟨a, cs', ha, hS, hs, hc, hv⟩ := h5.at_.get hj
    refine ⟨a, cs', ha, hT _ hS, hs, fun i hi => ?_, ih _ _ (vl_lt hm hj) hv⟩
    rw [← hc i hi]
    unfold hcell
    rw [add_block, e _ hS]
theorem VRepS.same {S : Nat → Prop} {h h' : Heap} {v : Vl} {cs : Array Value} (H : VRepS S h v cs) (e : ∀ b, S b → h'[b]? = h[b]?) : VRepS S h' v cs := vreps_same e (fun _ h => h) _ v cs (Nat.lt_succ_self _) H
theorem VRepS.mono {S T : Nat → Prop} {h : Heap} {v : Vl} {cs : Array Value} (H : VRepS S h v cs) (e : ∀ b, S b → T b) : VRepS T h v cs := vreps_same (fun _ _ => rfl) e _ v cs (Nat.lt_succ_self _) H
theorem vreps_to {S : Nat → Prop} {h : Heap} : ∀ (m : Nat) (v : Vl) (cs : Array Value), sizeOf v < m → VRepS S h v cs → VRep h v cs := by
  intro m
  induction m with
  | zero => intro v cs hm; omega
  | succ m ih =>
    rintro ⟨k, n, s, l⟩ cs hm H
    obtain ⟨x, h1, h2, h3, h4, h5⟩ := VRepS.eq.1 H
    refine VRep.eq.2 ⟨x, h1, h2, h3, h4, h5.len, h5.cap, h5.big, VsAt.of (fun j hj => ?_)⟩
    obtain ⟨a, cs', ha, hS, hs, hc, hv⟩ := h5.at_.get hj
    exact ⟨a, cs', ha, hs, hc, ih _ _ (vl_lt hm hj) hv⟩
theorem VRepS.to {S : Nat → Prop} {h : Heap} {v : Vl} {cs : Array Value} (H : VRepS S h v cs) : VRep h v cs := vreps_to _ v cs (Nat.lt_succ_self _) H
theorem hcell_lt {h : Heap} {a : Addr} {v : Value} (H : hcell h a = some v) : a.block < h.size := by
  rcases Nat.lt_or_ge a.block h.size with h1 | h1
  · exact h1
  · unfold hcell at H
    rw [Array.getElem?_eq_none h1] at H
    cases H
theorem vrep_lt {h : Heap} : ∀ (m : Nat) (v : Vl) (cs : Array Value), sizeOf v < m → VRep h v cs → VRepS (· < h.size) h v cs := by
  intro m
  induction m with
  | zero => intro v cs hm; omega
  | succ m ih =>
    rintro ⟨k, n, s, l⟩ cs hm H
    obtain ⟨x, h1, h2, h3, h4, h5⟩ := VRep.eq.1 H
    refine VRepS.eq.2 ⟨x, h1, h2, h3, h4, h5.len, h5.cap, h5.big, VsAtS.of (fun j hj => ?_)⟩
    obtain ⟨a, cs', ha, hs, hc, hv⟩ := h5.at_.get hj
    refine ⟨a, cs', ha, ?_, hs, hc, ih _ _ (vl_lt hm hj) hv⟩
    have h0 := hc 0 (by decide)
    rw [Array.getElem?_eq_getElem (by omega)] at h0
    have := hcell_lt h0
    rwa [add_block] at this
theorem VRep.lt {h : Heap} {v : Vl} {cs : Array Value} (H : VRep h v cs) : VRepS (· < h.size) h v cs := vrep_lt _ v cs (Nat.lt_succ_self _) H
theorem VsRepS.to {S : Nat → Prop} {h : Heap} {x : Sl} {l : List Vl} (H : VsRepS S h x l) : VsRep h x l :=
  ⟨H.len, H.cap, H.big, VsAt.of (fun j hj => by obtain ⟨a, cs, h1, h2, h3, h4, h5⟩ := H.at_.get hj; exact ⟨a, cs, h1, h3, h4, h5.to⟩)⟩
theorem VsRepS.same {S T : Nat → Prop} {h h' : Heap} {x : Sl} {l : List Vl} (H : VsRepS S h x l) (e : ∀ b, S b → h'[b]? = h[b]?) (hT : ∀ b, S b → T b) : VsRepS T h' x l :=
  ⟨H.len, H.cap, H.big, VsAtS.of (fun j hj => by
    obtain ⟨a, cs, h1, h2, h3, h4, h5⟩ := H.at_.get hj
    refine ⟨a, cs, h1, hT _ h2, h3, fun i hi => ?_, vreps_same e hT _ _ _ (Nat.lt_succ_self _) h5⟩
    rw [← h4 i hi]
    unfold hcell
    rw [add_block, e _ h2])⟩
theorem VsRep.lt {h : Heap} {x : Sl} {l : List Vl} (H : VsRep h x l) : VsRepS (· < h.size) h x l :=
  ⟨H.len, H.cap, H.big, VsAtS.of (fun j hj => by
    obtain ⟨a, cs, h1, h3, h4, h5⟩ := H.at_.get hj
    refine ⟨a, cs, h1, ?_, h3, h4, h5.lt⟩
    have h0 := h4 0 (by decide)
    rw [Array.getElem?_eq_getElem (by omega)] at h0
    have := hcell_lt h0
    rwa [add_block] at this)⟩
theorem VRepS.size {S : Nat → Prop} {h : Heap} {v : Vl} {cs : Array Value} (H : VRepS S h v cs) : cs.size = 4 := H.to.size
def wt : Vl → Nat
  | .mk _ _ s l => 1 + s.length + wts l
where wts : List Vl → Nat
  | [] => 0
  | v :: l => wt v + wts l
theorem wt_pos (v : Vl) : 1 ≤ wt v := by cases v; rw [wt]; omega
theorem wts_len : ∀ l : List Vl, l.length ≤ wt.wts l
  | [] => by simp
  | v :: l => by have := wts_len l; have := wt_pos v; rw [wt.wts, List.length_cons]; omega
theorem wts_mem {l : List Vl} {v : Vl} (h : v ∈ l) : wt v ≤ wt.wts l := by
  induction l with
  | nil => cases h
  | cons x l ih =>
    rw [wt.wts]
    rcases List.mem_cons.1 h with rfl | h
    · omega
    · have := ih h; omega
end Gx
namespace Gx
open Go
set_option linter.unusedVariables false
set_option linter.unusedSimpArgs false
def flat4 (css : List (Array Value)) : List Value := css.flatMap Array.toList
def W4 (css : List (Array Value)) : Prop := ∀ c ∈ css, c.size = 4 ∧ ∀ u ∈ c.toList, one u = true
theorem flat4_len : ∀ {css : List (Array Value)}, W4 css → (flat4 css).length = css.length * 4
  | [], _ => rfl
  | c :: r, h => by
    have := flat4_len (css := r) (fun x hx => h x (List.mem_cons_of_mem _ hx))
    have hc := (h c (by simp)).1
    unfold flat4 at this ⊢
    rw [List.flatMap_cons, List.length_append, this, Array.length_toList, hc, List.length_cons]; omega
theorem flat4_get : ∀ {css : List (Array Value)}, W4 css → ∀ (i j : Nat), j < 4 → (flat4 css)[i * 4 + j]? = (css[i]?).bind (fun c => c[j]?)
  | [], _, i, j, _ => by simp [flat4]
  | c :: r, h, i, j, hj => by
    have hc := (h c (by simp)).1
    unfold flat4
    rw [List.flatMap_cons]
    cases i with
    | zero => rw [List.getElem?_append_left (by rw [Array.length_toList]; omega)]; simp
    | succ i =>
      rw [List.getElem?_append_right (by rw [Array.length_toList]; omega), Array.length_toList, hc, show (i + 1) * 4 + j - 4 = i * 4 + j by omega]
      have := flat4_get (css := r) (fun x hx => h x (List.mem_cons_of_mem _ hx)) i j hj
      unfold flat4 at this
      rw [this]; simp
theorem flat4_one {css : List (Array Value)} (h : W4 css) : ∀ v ∈ flat4 css, one v = true := fun v hv => by
  obtain ⟨c, hc, hv⟩ := List.mem_flatMap.1 hv
  exact (h c hc).2 v hv
theorem W4.append {a b : List (Array Value)} (ha : W4 a) (hb : W4 b) : W4 (a ++ b) := fun c hc => (List.mem_append.1 hc).elim (ha c) (hb c)
theorem W4.set {a : List (Array Value)} (ha : W4 a) {i : Nat} {c : Array Value} (hc : c.size = 4) (h1 : ∀ u ∈ c.toList, one u = true) : W4 (a.set i c) := fun x hx => by
  rcases List.mem_or_eq_of_mem_set hx with h | rfl
  · exact ha x h
  · exact ⟨hc, h1⟩
theorem flat4_set : ∀ {css : List (Array Value)}, W4 css → ∀ (i : Nat) (c : Array Value), c.size = 4 → i < css.length → flat4 (css.set i c) = (flat4 css).take (i * 4) ++ c.toList ++ (flat4 css).drop (i * 4 + 4)
  | [], _, i, c, _, hi => by simp at hi
  | x :: r, h, 0, c, hc, _ => by
    have hx := (h x (by simp)).1
    simp only [flat4, List.set_cons_zero, List.flatMap_cons]
    rw [show (0 * 4 + 4) = x.toList.length by rw [Array.length_toList, hx]]
    simp
  | x :: r, h, i + 1, c, hc, hi => by
    have hx := (h x (by simp)).1
    have ih := flat4_set (css := r) (fun y hy => h y (List.mem_cons_of_mem _ hy)) i c hc (by simpa using hi)
    simp only [flat4, List.set_cons_succ, List.flatMap_cons] at ih ⊢
    rw [ih]
    have e1 : (i + 1) * 4 = x.toList.length + i * 4 := by rw [Array.length_toList, hx]; omega
    rw [e1, List.take_length_add_append, show x.toList.length + i * 4 + 4 = x.toList.length + (i * 4 + 4) by omega, List.drop_length_add_append]
    simp
theorem Gw.row4 {lo : Nat} {h : Heap} {r : Sl} {css : List (Array Value)} (G : Gw lo h r 4 (flat4 css)) (hw : W4 css) {i : Nat} (hi : i < css.length) : ∃ b, r.base = some ⟨b, 0, none⟩ ∧ Sl.on r b ∧ ∀ j, j < 4 → hcell h ((⟨b, 0, none⟩ : Addr).add (i * 4 + j)) = css[i][j]? := by
  have hl := flat4_len hw
  rcases G with ⟨rfl, he⟩ | ⟨b, ty, cells, R⟩
  · rw [he] at hl; simp at hl; omega
  · refine ⟨b, R.base, ⟨_, R.base, rfl⟩, fun j hj => ?_⟩
    rw [add_mk, Nat.zero_add, hcell_blk R.blk]
    have h1 := flat4_get hw i j hj
    rw [List.getElem?_eq_getElem hi] at h1
    have hc := (hw _ (List.getElem_mem hi)).1
    have h2 : css[i][j]? = some (css[i][j]'(by omega)) := Array.getElem?_eq_getElem (by omega)
    rw [h2]
    refine R.get _ _ ?_
    rw [h1]
    exact h2
theorem Gw.len4 {lo : Nat} {h : Heap} {r : Sl} {css : List (Array Value)} (G : Gw lo h r 4 (flat4 css)) (hw : W4 css) : r.len = css.length := by
  have := G.len
  rw [flat4_len hw] at this
  omega
theorem vset_b {β : Type} {lo : Nat} {h : Heap} {Q : β → Heap → Prop} {r : Sl} {css : List (Array Value)} {i : Nat} {t : Int} {c : Array Value} {f : Unit → M β} (G : Gw lo h r 4 (flat4 css)) (hw : W4 css) (hi : i < css.length) (ht : t = (i : Int)) (hc : c.size = 4) (h1 : ∀ u ∈ c.toList, one u = true)
    (H : ∀ b h', r.base = some ⟨b, 0, none⟩ → Upd b h h' → Gw lo h' r 4 (flat4 (css.set i c)) → (f ()).wp h' Q) : (ixL r t 4 >>= fun a => M.need (c.size = 4) >>= fun _ => stG a c >>= f).wp h Q := by
  subst ht
  have hl := G.len4 hw
  obtain ⟨b0, hb0, _, _⟩ := G.row4 hw hi
  rcases G with ⟨rfl, he⟩ | ⟨b, ty, cells, R⟩
  · cases hb0
  · have hsz := R.size
    have hcap := R.cap
    refine ixL_b (by omega) (by omega) R.base (need_b hc ?_)
    rw [add_mk, show 0 + (i : Int).toNat * 4 = i * 4 by omega]
    refine stR (vs := c) R.blk (by omega) h1 (fun h' u g => H b h' R.base u (.inr ⟨b, ty, _, R.base, R.lo, g, by rw [lay_size]; exact R.size, R.cap, ?_, fun j v hj => ?_⟩))
    · rw [flat4_len (hw.set hc h1), List.length_set, hl]
    · rw [flat4_set hw i c hc hi] at hj
      have hfl := flat4_len hw
      rw [← Array.getElem?_toList, lay_toList _ _ _ (by rw [Array.length_toList]; omega), Array.length_toList, hc]
      have hlen1 : ((flat4 css).take (i * 4)).length = i * 4 := by rw [List.length_take]; omega
      have hlen2 : (cells.toList.take (i * 4)).length = i * 4 := by rw [List.length_take, Array.length_toList]; omega
      by_cases h1 : j < i * 4
      · rw [List.append_assoc, List.getElem?_append_left (by omega), List.getElem?_take, if_pos h1] at hj
        rw [List.append_assoc, List.getElem?_append_left (by omega), List.getElem?_take, if_pos h1, Array.getElem?_toList]
        exact R.get j v hj
      · by_cases h2 : j < i * 4 + 4
        · rw [List.append_assoc, List.getElem?_append_right (by omega), hlen1, List.getElem?_append_left (by rw [Array.length_toList, hc]; omega)] at hj
          rw [List.append_assoc, List.getElem?_append_right (by omega), hlen2, List.getElem?_append_left (by rw [Array.length_toList, hc]; omega)]
          exact hj
        · rw [List.getElem?_append_right (by rw [List.length_append, hlen1, Array.length_toList, hc]; omega), List.length_append, hlen1, Array.length_toList, hc, List.getElem?_drop] at hj
          rw [List.getElem?_append_right (by rw [List.length_append, hlen2, Array.length_toList, hc]; omega), List.length_append, hlen2, Array.length_toList, hc, List.getElem?_drop, Array.getElem?_toList]
          exact R.get _ v hj
structure VGw (lo : Nat) (S : Nat → Prop) (h : Heap) (r : Sl) (css : List (Array Value)) (l : List Vl) : Prop where
  gw : Gw lo h r 4 (flat4 css)
  w4 : W4 css
  len : css.length = l.length
  rep : ∀ j (h1 : j < l.length) (h2 : j < css.length), VRepS S h l[j] css[j]
theorem VGw.nil (lo : Nat) (S : Nat → Prop) (h : Heap) : VGw lo S h Sl.nil [] [] := ⟨Gw.nil _ _ _, fun c hc => (by cases hc), rfl, fun j h1 => (by cases h1)⟩
theorem VGw.rep_ {lo : Nat} {S : Nat → Prop} {h : Heap} {r : Sl} {css : List (Array Value)} {l : List Vl} (G : VGw lo S h r css l) (hl : l.length ≤ 9223372036854775807) : VsRepS (fun b => S b ∨ Sl.on r b) h r l :=
  ⟨by rw [G.gw.len4 G.w4, G.len], G.gw.cap, by rw [G.gw.len4 G.w4, G.len]; exact hl, VsAtS.of (fun j hj => by
    obtain ⟨b, hb, hon, hc⟩ := G.gw.row4 G.w4 (i := j) (by rw [G.len]; exact hj)
    exact ⟨_, css[j]'(by rw [G.len]; exact hj), hb, .inr hon, (G.w4 _ (List.getElem_mem _)).1, fun m hm => by rw [Nat.zero_add]; exact hc m hm, (G.rep j hj (by rw [G.len]; exact hj)).mono (fun b hb => .inl hb)⟩)⟩
theorem VGw.same {lo : Nat} {S : Nat → Prop} {h h' : Heap} {r : Sl} {css : List (Array Value)} {l : List Vl} (G : VGw lo S h r css l) (e1 : ∀ b, Sl.on r b → h'[b]? = h[b]?) (e2 : ∀ b, S b → h'[b]? = h[b]?) : VGw lo S h' r css l :=
  ⟨G.gw.same e1, G.w4, G.len, fun j h1 h2 => (G.rep j h1 h2).same e2⟩
theorem VGw.mono {lo : Nat} {S T : Nat → Prop} {h : Heap} {r : Sl} {css : List (Array Value)} {l : List Vl} (G : VGw lo S h r css l) (e : ∀ b, S b → T b) : VGw lo T h r css l :=
  ⟨G.gw, G.w4, G.len, fun j h1 h2 => (G.rep j h1 h2).mono e⟩
theorem vap_grow {lo : Nat} {S : Nat → Prop} {h : Heap} {Q : Sl → Heap → Prop} {r x : Sl} {css css' : List (Array Value)} {l l' : List Vl} (G : VGw lo S h r css l) (hlo : lo ≤ h.size) (hS : ∀ b, S b → b < h.size ∧ ¬ Sl.on r b) (hw : W4 css') (hl' : css'.length = l'.length) (hx : x.len = l'.length) (hr : Reads h x.base (flat4 css')) (hv : ∀ j (h1 : j < l'.length) (h2 : j < css'.length), VRepS S h l'[j] css'[j])
    (hm : l.length + l'.length ≤ 2199023255552)
    (hq : ∀ h' r', VGw lo S h' r' (css ++ css') (l ++ l') → h.size ≤ h'.size → (∀ i, i < h.size → ¬ Sl.on r i → h'[i]? = h[i]?) → (∀ i, Sl.on r' i → Sl.on r i ∨ h.size ≤ i) → Q r' h') : (apL ty_api_Value 4 56 (#[.int .i64 0, .int .i64 0, .string ByteArray.empty, .slice none 0 0] : Array Value) r x).wp h Q := by
  have hrl := G.gw.len4 G.w4
  have hgl := G.len
  refine ap_grow (vs := flat4 css) (news := flat4 css') rfl G.gw (by rw [flat4_len hw, hl', hx]) hr (flat4_one hw) (by omega) (by omega) hlo (fun h' r' G' hlen hs same on_ => ?_)
  have he : ∀ b, S b → h'[b]? = h[b]? := fun b hb => same b (hS b hb).1 (hS b hb).2
  refine hq h' r' ⟨?_, G.w4.append hw, by rw [List.length_append, List.length_append, G.len, hl'], fun j h1 h2 => ?_⟩ hs same on_
  · unfold flat4 at G' ⊢
    rw [List.flatMap_append]
    exact G'
  · by_cases hj : j < l.length
    · rw [List.getElem_append_left hj, List.getElem_append_left (by rw [G.len]; exact hj)]
      exact (G.rep j hj _).same he
    · rw [List.getElem_append_right (by omega), List.getElem_append_right (by omega)]
      have h3 : css.length = l.length := G.len
      simp only [h3]
      exact (hv _ (by rw [List.length_append] at h1; omega) _).same he
end Gx
namespace Gx
open Go
set_option linter.unusedVariables false
set_option linter.unusedSimpArgs false
theorem VsAtS.css {S : Nat → Prop} {h : Heap} : ∀ {l : List Vl} {b : Option Addr} {i : Nat}, VsAtS S h l b i → ∃ css : List (Array Value), W4 css ∧ css.length = l.length ∧ (∀ j (h1 : j < l.length) (h2 : j < css.length), VRepS S h l[j] css[j]) ∧ (∀ j (h2 : j < css.length), ∃ a, b = some a ∧ ∀ m, m < 4 → hcell h (a.add ((i + j) * 4 + m)) = css[j][m]?)
  | [], _, _, _ => ⟨[], fun c hc => (by cases hc), rfl, fun j h1 => (by cases h1), fun j h1 => (by cases h1)⟩
  | v :: l, b, i, H => by
    rw [VsAtS] at H
    obtain ⟨⟨a, cs, ha, hS, hs, hc, hv⟩, H2⟩ := H
    obtain ⟨css, h1, h2, h3, h4⟩ := VsAtS.css H2
    refine ⟨cs :: css, ?_, by simp [h2], ?_, ?_⟩
    · intro c hc
      rcases List.mem_cons.1 hc with rfl | hc
      · exact ⟨hs, hv.to.one⟩
      · exact h1 c hc
    · intro j j1 j2
      cases j with
      | zero => exact hv
      | succ j => exact h3 j (by simpa using j1) (by simpa using j2)
    · intro j j2
      cases j with
      | zero => exact ⟨a, ha, hc⟩
      | succ j =>
        obtain ⟨a', ha', h5⟩ := h4 j (by simpa using j2)
        refine ⟨a', ha', fun m hm => ?_⟩
        rw [show i + (j + 1) = i + 1 + j by omega]
        exact h5 m hm
theorem VsRepS.css {S : Nat → Prop} {h : Heap} {x : Sl} {l : List Vl} (H : VsRepS S h x l) : ∃ css : List (Array Value), W4 css ∧ css.length = l.length ∧ (∀ j (h1 : j < l.length) (h2 : j < css.length), VRepS S h l[j] css[j]) ∧ Reads h x.base (flat4 css) := by
  obtain ⟨css, h1, h2, h3, h4⟩ := H.at_.css
  refine ⟨css, h1, h2, h3, ?_⟩
  cases hc : css with
  | nil => exact .inl rfl
  | cons c r =>
    rw [← hc]
    obtain ⟨a, ha, _⟩ := h4 0 (by rw [hc]; simp)
    refine .inr ⟨a, ha, fun n v hn => ?_⟩
    have hlt := (List.getElem?_eq_some_iff.1 hn).1
    rw [flat4_len h1] at hlt
    have hj : n / 4 < css.length := by omega
    obtain ⟨a', ha', h5⟩ := h4 (n / 4) hj
    rw [ha] at ha'; cases ha'
    have h6 := flat4_get h1 (n / 4) (n % 4) (by omega)
    rw [show n / 4 * 4 + n % 4 = n by omega, hn, List.getElem?_eq_getElem hj] at h6
    have h7 := h5 (n % 4) (by omega)
    rw [show (0 + n / 4) * 4 + n % 4 = n by omega] at h7
    rw [h7]
    exact h6.symm
theorem vreps_lt {S : Nat → Prop} {h : Heap} : ∀ (m : Nat) (v : Vl) (cs : Array Value), sizeOf v < m → VRepS S h v cs → VRepS (fun b => S b ∧ b < h.size) h v cs := by
  intro m
  induction m with
  | zero => intro v cs hm; omega
  | succ m ih =>
    rintro ⟨k, n, s, l⟩ cs hm H
    obtain ⟨x, h1, h2, h3, h4, h5⟩ := VRepS.eq.1 H
    refine VRepS.eq.2 ⟨x, h1, h2, h3, h4, h5.len, h5.cap, h5.big, VsAtS.of (fun j hj => ?_)⟩
    obtain ⟨a, cs', ha, hS, hs, hc, hv⟩ := h5.at_.get hj
    refine ⟨a, cs', ha, ⟨hS, ?_⟩, hs, hc, ih _ _ (vl_lt hm hj) hv⟩
    have h0 := hc 0 (by decide)
    rw [Array.getElem?_eq_getElem (by omega)] at h0
    have := hcell_lt h0
    rwa [add_block] at this
theorem VRepS.lt2 {S : Nat → Prop} {h : Heap} {v : Vl} {cs : Array Value} (H : VRepS S h v cs) : VRepS (fun b => S b ∧ b < h.size) h v cs := vreps_lt _ v cs (Nat.lt_succ_self _) H
theorem vcells_one (k n : Int) (s : List UInt8) (x : Sl) : ∀ v ∈ (vcells k n s x).toList, one v = true := fun v hv => by
  simp only [vcells, List.mem_cons, List.not_mem_nil, or_false] at hv
  rcases hv with rfl | rfl | rfl | rfl <;> first | rfl | exact one_v _
theorem sclone_spec {S : Nat → Prop} {h : Heap} {Q : Sl → Heap → Prop} {x : Sl} {l : List Vl} (hx : VsRepS S h x l) (hS : ∀ b, S b → b < h.size) (hm : l.length ≤ 1099511627776)
    (H : ∀ h' r css, Ext h h' → VGw h.size S h' r css l → Q r h') : (slices_Clone_slapi_Value_api_Value x).wp h Q := by
  unfold slices_Clone_slapi_Value_api_Value
  refine ite_w (fun hn => ?_) (fun hn => ?_)
  · have hb : x.base = none := by simpa using hn
    have hl : l = [] := by
      cases hl : l with
      | nil => rfl
      | cons v r =>
        obtain ⟨a, cs, ha, _⟩ := hx.get (j := 0) (by rw [hl]; simp)
        rw [hb] at ha; cases ha
    subst hl
    exact pure_w (H _ _ _ (Ext.refl _) (VGw.nil _ _ _))
  · refine ⟨zRow (#[.int .i64 0, .int .i64 0, .string ByteArray.empty, .slice none 0 0] : Array Value) 0, rfl, bdL_b ?_⟩
    have e1 := Ext.push h (.cells (zRow (#[.int .i64 0, .int .i64 0, .string ByteArray.empty, .slice none 0 0] : Array Value) 0) ty_api_Value)
    have g1 : (h.push (.cells (zRow (#[.int .i64 0, .int .i64 0, .string ByteArray.empty, .slice none 0 0] : Array Value) 0) ty_api_Value))[h.size]? = some (.cells (zRow (#[.int .i64 0, .int .i64 0, .string ByteArray.empty, .slice none 0 0] : Array Value) 0) ty_api_Value (0, 0)) := get_push_eq
    have hs1 : (h.push (.cells (zRow (#[.int .i64 0, .int .i64 0, .string ByteArray.empty, .slice none 0 0] : Array Value) 0) ty_api_Value)).size = h.size + 1 := by simp
    generalize h.push (.cells (zRow (#[.int .i64 0, .int .i64 0, .string ByteArray.empty, .slice none 0 0] : Array Value) 0) ty_api_Value) = h1 at e1 g1 hs1 ⊢
    obtain ⟨css, w4, hcl, hrep, hrd⟩ := hx.css
    have G1 : VGw h.size S h1 ⟨some ⟨h.size, 0, none⟩, 0, 0⟩ [] [] := ⟨.inr ⟨h.size, _, _, rfl, Nat.le_refl _, g1, zRow_size _ _, Nat.le_refl _, rfl, fun j v hj => (by cases hj)⟩, fun c hc => (by cases hc), rfl, fun j h1 => (by cases h1)⟩
    refine bind_w (vap_grow (l' := l) (css' := css) G1 e1.size (fun b hb => ⟨by have := hS b hb; omega, fun ⟨a, ha, hab⟩ => by cases ha; have : h.size = b := hab; have := hS b hb; omega⟩) w4 hcl hx.len (e1.reads hrd) (fun j h1' h2 => (hrep j h1' h2).same (fun b hb => e1.same b (hS b hb))) (by simp; omega) (fun h2 r G2 hs same on_ => pure_w (H h2 r css ?_ (by simpa using G2))))
    exact ⟨Nat.le_trans e1.size hs, fun i hi => (same i (Nat.lt_of_lt_of_le hi e1.size) (fun ⟨a, ha, hab⟩ => by cases ha; have : h.size = i := hab; omega)).trans (e1.same i hi)⟩
theorem set_cells3 {h : Heap} {b : Nat} {k n : Int} {s : List UInt8} {x y : Sl} {t : TypeId} (hb : h[b]? = some (.cells (vcells k n s x) t (0, 0))) : (hset h ⟨b, 3, none⟩ y.v)[b]? = some (.cells (vcells k n s y) t (0, 0)) := by
  rw [hset_at hb]; rfl
theorem vclone_spec : ∀ (m : Nat) (v : Vl) {h : Heap} {Q : Array Value → Heap → Prop} {x : Array Value}, sizeOf v < m → VRep h v x → wt v ≤ 1099511627776 → (∀ h' c, Ext h h' → VRepS (h.size ≤ ·) h' v c → Q c h') → (value_Clone x).wp h Q := by
  intro m
  induction m with
  | zero => intro v h Q x hm; omega
  | succ m ih =>
    rintro ⟨k, n, s, l⟩ h Q x hm hx hw H
    obtain ⟨xs, rfl, k1, n1, s1, r1⟩ := VRep.eq.1 hx
    rw [wt] at hw
    have hcnt := wts_len l
    unfold value_Clone
    refine mkV_b (fun h1 e1 z1 g1 => mkV_b (fun h2 e2 z2 g2 => ?_))
    have E2 := e1.trans e2
    have g1' := e2.blk g1
    have c3 : hcell h2 ((⟨h.size, 0, none⟩ : Addr).add 3) = some xs.v := by rw [blk_cell g1']; rfl
    have rS : VsRepS (· < h.size) h2 xs l := r1.lt.same (fun b hb => E2.same b hb) (fun _ h => h)
    refine ldL_b c3 (bind_w (sclone_spec rS (fun b hb => Nat.lt_of_lt_of_le hb E2.size) (by omega) (fun h3 y css e3 G3 => ?_)))
    have g1'' := e3.blk g1'
    have g2'' := e3.blk g2
    refine stV_b (x := xs.v) (e3.cell c3) (by rw [add_mk, hfrozen_blk g1'']) (one_v _) ?_
    rw [add_mk, Nat.zero_add]
    have u4 := Upd.hset h3 h.size 3 y.v
    have g4 := set_cells3 (y := y) g1''
    generalize hset h3 ⟨h.size, 3, none⟩ y.v = h4 at u4 g4 ⊢
    have yon : ∀ b, Sl.on y b → h2.size ≤ b ∧ b < h3.size := fun b hb => ⟨(G3.gw.lt hb).2, (G3.gw.lt hb).1⟩
    have hs1 : h1.size = h.size + 1 := z1
    have hs2 : h2.size = h1.size + 1 := z2
    have hs3 := e3.size
    have E4 : Ext h h4 := (E2.trans e3).upd u4 (Nat.le_refl _)
    have g24 : h4[h1.size]? = _ := (u4.ne _ (by omega)).trans g2''
    have cy : ∀ {hh : Heap}, hh[h.size]? = some (.cells (vcells k n s y) ty_api_Value (0, 0)) → hcell hh ((⟨h.size, 0, none⟩ : Addr).add 3) = some y.v := fun hb => by rw [blk_cell hb]; rfl
    refine ldL_b (cy g4) ?_
    have hyl : y.len = l.length := by rw [G3.gw.len4 G3.w4, G3.len]
    rw [hyl]
    refine M.loop_inv (fun (t : Int) hh => ∃ (i : Nat) (css : List (Array Value)), t = (i : Int) ∧ i ≤ l.length ∧ Gw h2.size hh y 4 (flat4 css) ∧ W4 css ∧ css.length = l.length ∧ (∀ j (j1 : j < l.length) (j2 : j < css.length), j < i → VRepS (h3.size ≤ ·) hh l[j] css[j]) ∧ (∀ j (j1 : j < l.length) (j2 : j < css.length), i ≤ j → VRepS (· < h.size) hh l[j] css[j]) ∧ Ext h hh ∧ h3.size ≤ hh.size ∧ hh[h.size]? = some (.cells (vcells k n s y) ty_api_Value (0, 0)) ∧ hh[h1.size]? = h4[h1.size]?) (fun t _ => ((l.length : Int) - t).toNat) ?_
      ⟨0, css, rfl, Nat.zero_le _, G3.gw.same (fun b hb => u4.ne b (by have := (yon b hb).1; omega)), G3.w4, G3.len, fun j j1 j2 h0 => by omega, fun j j1 j2 _ => (G3.rep j j1 j2).same (fun b hb => u4.ne b (by omega)), E4, by rw [u4.size]; exact Nat.le_refl _, g4, rfl⟩
    rintro t hh ⟨i, css, rfl, hi, G, w4, hcl, hnew, hold, E, hsz, gb, gz⟩ self hself
    unfold value_Clone_l1
    refine ite_w (fun hc => ?_) (fun hc => ?_)
    · have hlt : i < l.length := by have := of_decide_eq_true hc; omega
      have hlc : i < css.length := by omega
      refine ldL_b (cy gb) (ldL_b (cy gb) ?_)
      obtain ⟨b, hb, hon, hrow⟩ := G.row4 w4 hlc
      have hv := hold i hlt hlc (Nat.le_refl _)
      have hi4 : (i : Int).toNat * 4 = i * 4 := by omega
      refine ixL_b (by omega) (by omega) hb (ldG_b hv.size (fun j hj => by rw [Addr.add_add, hi4]; exact hrow j hj) ?_)
      have hwi := wts_mem (List.getElem_mem hlt)
      refine bind_w (callF_w (S_value_Clone _) (ih l[i] (vl_lt hm hlt) hv.to (by omega) (fun h5 c e5 hc5 => ?_)))
      have hcell5 : ∀ j, j < 4 → hcell h5 (((⟨b, 0, none⟩ : Addr).add ((i : Int).toNat * 4)).add j) = css[i][j]? := fun j hj => by
        rw [Addr.add_add, hi4]
        have h6 := hrow j hj
        have h7 : css[i][j]? = some (css[i][j]'(by rw [hv.size]; exact hj)) := Array.getElem?_eq_getElem _
        rw [h7] at h6 ⊢
        exact e5.cell h6
      have G5 := G.ext e5
      refine chk_b ⟨e5.cell (cy gb), e5.cell (cy gb), hv.size, hcell5⟩ ?_
      refine vset_b G5 w4 hlc rfl hc5.size hc5.to.one (fun b' h6 hb' u6 G6 => ?_)
      rw [hb] at hb'; cases hb'
      have hbl := yon b hon
      have hcs : ∀ j (j1 : j < (css.set i c).length) (j2 : j < css.length), i ≠ j → (css.set i c)[j] = css[j] := fun j j1 j2 hne => List.getElem_set_ne hne _
      have hs5 := e5.size
      rw [w64 (by omega) (by omega)]
      refine hself _ _ ⟨i + 1, css.set i c, by simp, by omega, G6, w4.set hc5.size hc5.to.one, by rw [List.length_set]; exact hcl, fun j j1 j2 hj => ?_, fun j j1 j2 hj => ?_, (E.trans e5).upd u6 (by omega), by rw [u6.size]; omega, ?_, ?_⟩ (by omega)
      · by_cases hji : i = j
        · subst hji
          rw [List.getElem_set_self]
          exact (hc5.same (fun b1 hb1 => u6.ne b1 (by omega))).mono (fun b1 hb1 => by omega)
        · rw [hcs j j2 (by rw [hcl]; exact j1) hji]
          have := hnew j j1 (by rw [hcl]; exact j1) (by omega)
          exact (this.lt2.same (fun b1 hb1 => (u6.ne b1 (by omega)).trans (e5.same b1 hb1.2))).mono (fun b1 hb1 => hb1.1)
      · rw [hcs j j2 (by rw [hcl]; exact j1) (by omega)]
        exact (hold j j1 (by rw [hcl]; exact j1) (by omega)).same (fun b1 hb1 => (u6.ne b1 (by omega)).trans (e5.same b1 (by have := E.size; omega)))
      · rw [u6.ne _ (by omega)]; exact e5.blk gb
      · rw [u6.ne _ (by omega), ← gz]
        exact e5.same _ (by omega)
    · have hge : i = l.length := by have := of_decide_eq_false hc; omega
      subst hge
      refine ldG_b (cs := vcells k n s y) rfl (fun j hj => by rw [blk_cell gb]) (need_b rfl ?_)
      rw [g24] at gz
      refine stR (vs := vcells k n s y) (off := 0) gz (Nat.le_refl 4) (vcells_one k n s y) (fun h7 u7 g7 => ?_)
      rw [lay_full (by rfl), Array.toArray_toList] at g7
      refine ldG_b (cs := vcells k n s y) rfl (fun j hj => by rw [blk_cell g7]) (pure_w (H _ _ (E.upd u7 (by omega)) ?_))
      have hG : VGw h2.size (h3.size ≤ ·) h7 y css l := ⟨G.same (fun b hb => u7.ne b (by have := (yon b hb).1; omega)), w4, hcl, fun j j1 j2 => (hnew j j1 j2 j1).same (fun b hb => u7.ne b (by omega))⟩
      exact VRepS.eq.2 ⟨y, rfl, k1, n1, s1, (hG.rep_ (by omega)).same (fun _ _ => rfl) (fun b hb => hb.elim (fun hb => by omega) (fun hb => by have := (yon b hb).1; omega))⟩

def vl0 : Vl := .mk 0 0 [] []
theorem vl0_rep (S : Nat → Prop) (h : Heap) : VRepS S h vl0 (#[.int .i64 0, .int .i64 0, .string ByteArray.empty, .slice none 0 0] : Array Value) :=
  VRepS.eq.2 ⟨Sl.nil, rfl, ⟨by decide, by decide⟩, ⟨by decide, by decide⟩, by decide, rfl, Nat.le_refl _, by decide, by rw [VsAtS]; trivial⟩
end Gx
namespace Go.Proofs.YthelieedlghccaaGreatDoor
open Go Go.RowKit Gx
set_option linter.unusedVariables false
set_option maxRecDepth 100000
theorem c24 : Tryz.prog.cellsOf 24 = 4 := by kernel_rfl
theorem c3 : Tryz.prog.cellsOf 3 = 1 := by kernel_rfl
theorem c2 : Tryz.prog.cellsOf 2 = 1 := by kernel_rfl
theorem c9 : Tryz.prog.cellsOf 9 = 1 := by kernel_rfl
theorem c22 : Tryz.prog.cellsOf 22 = 1 := by kernel_rfl
theorem wts_bulk {H : Type} : ∀ (l : List Vl) (es : List (DataW H)), l.length = es.length → (∀ i (h1 : i < l.length) (h2 : i < es.length), wt l[i] ≤ Rows.uptoBulk es[i]) → wt.wts l ≤ Rows.uptoBulkAll es
  | [], [], _, _ => by simp [wt.wts]
  | [], _ :: _, h, _ => by simp at h
  | _ :: _, [], h, _ => by simp at h
  | v :: l, d :: es, h, hk => by
    have h0 := hk 0 (by simp) (by simp)
    have := wts_bulk l es (by simpa using h) (fun i h1 h2 => by
      have := hk (i + 1) (by simpa using h1) (by simpa using h2)
      simpa using this)
    simp only [List.getElem_cons_zero] at h0
    rw [wt.wts]
    simp only [Rows.uptoBulkAll]
    omega
section
variable {H : Type} {enc : TypeId × Value → H}
theorem trod_i64 {W : World} {t : TypeId} {n : Nat} {c : Value} {x : DataW H × List MemPlace} {sp : Nat → Bool} {held : Bool} {base : Nat} (ht : Tryz.prog.underlying t = some (.int .i64)) (h : DataW.trod enc Tryz.prog W base sp held n t [c] = some x) : ∃ z, c = .int .i64 z ∧ I64 z ∧ Rows.uptoBulk x.1 = 1 := by
  cases n with
  | zero => simp [DataW.trod] at h
  | succ n =>
    unfold DataW.trod at h
    rw [ht] at h
    cases c with
    | int k z =>
      simp only at h
      split at h
      · rename_i hk
        obtain ⟨rfl, hw⟩ := hk
        cases h
        refine ⟨z, rfl, ?_, by simp [Rows.uptoBulk]⟩
        have : -9223372036854775808 ≤ z ∧ z ≤ 9223372036854775807 := by simpa [Lit.wf, IntKind.min, IntKind.max, IntKind.signed, IntKind.bits] using hw
        exact this
      · cases h
    | _ => simp at h
theorem trod_str {W : World} {t : TypeId} {n : Nat} {c : Value} {x : DataW H × List MemPlace} {sp : Nat → Bool} {held : Bool} {base : Nat} (ht : Tryz.prog.underlying t = some .string) (h : DataW.trod enc Tryz.prog W base sp held n t [c] = some x) : ∃ s : ByteArray, c = .string s ∧ s.size ≤ maxLen ∧ Rows.uptoBulk x.1 = s.data.toList.length + 1 := by
  cases n with
  | zero => simp [DataW.trod] at h
  | succ n =>
    unfold DataW.trod at h
    rw [ht] at h
    cases c with
    | string s =>
      simp only at h
      split at h
      · rename_i hk
        cases h
        exact ⟨s, rfl, hk, by simp [Rows.uptoBulk]⟩
      · cases h
    | _ => simp at h
theorem open_vals {W : World} {sp : Nat → Bool} {held : Bool} {base : Nat} : ∀ (m : Nat),
    (∀ (cs : List Value) (x : DataW H × List MemPlace), DataW.trod enc Tryz.prog W base sp held m 24 cs = some x → ∃ v, VRep W.heap v cs.toArray ∧ wt v ≤ Rows.uptoBulk x.1) ∧
    (∀ (v : Value) (x : DataW H × List MemPlace), DataW.trod enc Tryz.prog W base sp held m 22 [v] = some x → ∃ (s : Sl) (l : List Vl), v = s.v ∧ VsRep W.heap s l ∧ wt.wts l + 1 ≤ Rows.uptoBulk x.1) := by
  intro m
  induction m with
  | zero => exact ⟨fun cs x h => by simp [DataW.trod] at h, fun v x h => by simp [DataW.trod] at h⟩
  | succ m ih =>
    refine ⟨fun cs x h => ?_, fun v x h => ?_⟩
    · obtain ⟨xs, n, hn, hx, hcl, hxl, hf⟩ := DataW.trod_struct Tryz.underlying24 h
      obtain rfl : m = n := by omega
      rw [c24] at hcl
      have hxl : xs.length = 4 := hxl
      match cs, hcl with
      | [a0, a1, a2, a3], _ =>
      match xs, hxl with
      | [y0, y1, y2, y3], _ =>
      have f0 : DataW.trod enc Tryz.prog W base sp held m 3 (([a0, a1, a2, a3].drop 0).take (Tryz.prog.cellsOf 3)) = some y0 := hf 0 _ rfl
      have f1 : DataW.trod enc Tryz.prog W base sp held m 2 (([a0, a1, a2, a3].drop 1).take (Tryz.prog.cellsOf 2)) = some y1 := hf 1 _ rfl
      have f2 : DataW.trod enc Tryz.prog W base sp held m 9 (([a0, a1, a2, a3].drop 2).take (Tryz.prog.cellsOf 9)) = some y2 := hf 2 _ rfl
      have f3 : DataW.trod enc Tryz.prog W base sp held m 22 (([a0, a1, a2, a3].drop 3).take (Tryz.prog.cellsOf 22)) = some y3 := hf 3 _ rfl
      rw [c3] at f0
      rw [c2] at f1
      rw [c9] at f2
      rw [c22] at f3
      obtain ⟨k, rfl, hk, b0⟩ := trod_i64 Tryz.underlying3 f0
      obtain ⟨nn, rfl, hnn, b1⟩ := trod_i64 Tryz.underlying2 f1
      obtain ⟨s, rfl, hs, b2⟩ := trod_str Tryz.underlying9 f2
      obtain ⟨sl, l, rfl, hl, b3⟩ := ih.2 _ _ f3
      have hsb : bs s.data.toList = s := by simp [bs]
      refine ⟨.mk k nn s.data.toList l, VRep.eq.2 ⟨sl, by unfold vcells; rw [hsb], hk, hnn, ?_, hl⟩, ?_⟩
      · have : s.data.toList.length = s.size := Array.length_toList
        rw [this]; unfold maxLen at hs; omega
      · rw [wt, hx]
        simp only [List.map_cons, List.map_nil, Rows.uptoBulk, Rows.uptoBulkAll]
        omega
    · rcases DataW.trod_slice Tryz.underlying22 h with ⟨h0, hx⟩ | ⟨a, len, cap, elems, rest, n, hn, h1, hx, _, hle, hm, hlen, hel, _, _⟩
      · cases h0
        refine ⟨Sl.nil, [], rfl, VsRep.nil _, ?_⟩
        rw [hx]; simp [wt.wts, Rows.uptoBulk]
      · cases h1
        obtain rfl : m = n := by omega
        rw [c24] at hel
        have key : ∀ i, i < len → ∃ (v : Vl) (cs : Array Value), cs.size = 4 ∧ (∀ j, j < 4 → hcell W.heap (a.add (i * 4 + j)) = cs[j]?) ∧ VRep W.heap v cs ∧ ∀ (h : i < elems.length), wt v ≤ Rows.uptoBulk (elems[i]).1 := fun i hi => by
          have h2 := hel i hi
          rw [List.getElem?_eq_getElem (by omega), Option.bind_eq_some_iff] at h2
          obtain ⟨cs, hcs, ht⟩ := h2
          obtain ⟨_, hl1, hc⟩ := World.cells?_some hcs
          obtain ⟨v, hv, hw⟩ := ih.1 _ _ ht
          refine ⟨v, cs.toArray, by simpa using hl1, fun j hj => ?_, hv, fun _ => hw⟩
          have := hc j hj
          rw [Addr.add_add] at this
          rw [cell_h] at this
          rw [this]; simp
        let l := List.ofFn (fun i : Fin len => Classical.choose (key i i.2))
        have hL : l.length = len := by simp [l]
        have hget : ∀ i (h : i < l.length), ∃ cs : Array Value, cs.size = 4 ∧ (∀ j, j < 4 → hcell W.heap (a.add (i * 4 + j)) = cs[j]?) ∧ VRep W.heap l[i] cs ∧ ∀ (h : i < elems.length), wt l[i] ≤ Rows.uptoBulk (elems[i]).1 := fun i h => by
          have := Classical.choose_spec (key i (by omega))
          simpa [l] using this
        have hmx : len ≤ 9223372036854775807 := by unfold maxLen at hm; omega
        refine ⟨⟨some a, len, cap⟩, l, rfl, ⟨hL.symm, hle, hmx, VsAt.of (fun j hj => ?_)⟩, ?_⟩
        · obtain ⟨cs, h1, h2, h3, _⟩ := hget j hj
          exact ⟨a, cs, rfl, h1, fun i hi => by rw [Nat.zero_add]; exact h2 i hi, h3⟩
        · rw [hx]
          have := wts_bulk l (elems.map (·.1)) (by rw [hL, List.length_map, hlen]) (fun i h1 h2 => by
            obtain ⟨_, _, _, _, h4⟩ := hget i h1
            rw [List.getElem_map]
            exact h4 (by simpa using h2))
          simp only [Rows.uptoBulk]
          omega
end
end Go.Proofs.YthelieedlghccaaGreatDoor
namespace Gx
open Go Go.Proofs Go.Shelf Go.RowKit Go.Lib
set_option linter.unusedVariables false
set_option linter.unusedSimpArgs false
set_option maxRecDepth 100000
theorem ext_bs0 {s : List UInt8} {a b : Nat} : (bs s).extract a b = bs ((s.drop a).take (b - a)) := by
  apply ByteArray.ext
  simp [bs, ByteArray.extract, ByteArray.copySlice]
theorem sbytes_bs0 (l : List UInt8) : sbytes (bs l) = l.map bv := rfl
theorem cutS_b {β : Type} {h : Heap} {Q : β → Heap → Prop} {s : List UInt8} {a b : Nat} {lo hi : Int} {f : ByteArray → M β} (hl : lo = (a : Int)) (hh : hi = (b : Int)) (h1 : a ≤ b) (h2 : b ≤ s.length) (H : (f (bs ((s.drop a).take (b - a)))).wp h Q) : (slS (bs s) lo hi >>= f).wp h Q := by
  subst hl; subst hh
  refine ⟨_, ⟨by omega, by omega, by rw [bs_size]; omega, rfl⟩, ?_⟩
  rw [Int.toNat_natCast, Int.toNat_natCast, ext_bs0]
  exact H
theorem bcontains_spec {h : Heap} {Q : Bool → Heap → Prop} {x : Sl} {l : List UInt8} {g : Value} {p : UInt8 → Bool} (hx : Bys h x l) (hl : l.length ≤ 4611686018427387904)
    (hg : ∀ (c : UInt8) (Q1 : Bool → Heap → Prop), Q1 (p c) h → (callV Go.Proofs.Tryz.prog (fun r : Bool => .bool r) g [.int .u8 (c.toNat : Int)]).wp h Q1)
    (H : Q (l.any p) h) : (slices_ContainsFunc_slbyte_byte x g).wp h Q := by
  unfold slices_ContainsFunc_slbyte_byte slices_IndexFunc_slbyte_byte
  have hxl := hx.len
  refine bind_w (M.loop_inv (fun (t : Int) h' => h' = h ∧ ∃ i : Nat, t = (i : Int) ∧ i ≤ l.length ∧ (l.drop i).any p = l.any p) (fun t _ => ((l.length : Int) - t).toNat) ?_ ⟨rfl, 0, rfl, Nat.zero_le _, by simp⟩)
  rintro t h' ⟨rfl, i, rfl, hi, hd⟩ self hself
  unfold slices_IndexFunc_slbyte_byte_l1
  refine ite_w (fun hc => ?_) (fun hc => ?_)
  · have hlt : i < l.length := by have := of_decide_eq_true hc; omega
    rw [List.drop_eq_getElem_cons hlt, List.any_cons] at hd
    obtain ⟨b, hb, hcell⟩ := hx.get hlt
    refine ixL_b (by omega) (by omega) hb (ldI_b (n := (l[i].toNat : Int)) ?_ (bind_w (hg l[i] _ ?_)))
    · rw [show (i : Int).toNat * 1 = i by omega]; exact hcell
    refine ite_w (fun ht => pure_w (pure_w ?_)) (fun hf => ?_)
    · rw [ht] at hd
      rw [show decide ((i : Int) ≥ 0) = l.any p by rw [← hd]; simp]
      exact H
    · rw [hf, Bool.false_or] at hd
      rw [w64 (by omega) (by omega)]
      exact hself _ _ ⟨rfl, i + 1, by simp, by omega, hd⟩ (by omega)
  · have hge : i = l.length := by have := of_decide_eq_false hc; omega
    subst hge
    rw [List.drop_length] at hd
    refine pure_w (pure_w ?_)
    rw [show decide ((-1 : Int) ≥ 0) = l.any p by rw [← hd]; rfl]
    exact H
def digB (c : UInt8) : Bool := decide (48 ≤ c.toNat) && decide (c.toNat ≤ 57)
theorem nodig_spec {c : UInt8} {h : Heap} {Q : Bool → Heap → Prop} (H : Q (!digB c) h) : (num_Parse_1 (c.toNat : Int)).wp h Q := by
  unfold num_Parse_1
  refine or_b (c := decide ((c.toNat : Int) > 57)) (fun _ Q' hq => pure_w hq) (pure_w ?_)
  rw [show (decide ((c.toNat : Int) < 48) || decide ((c.toNat : Int) > 57)) = !digB c by
    unfold digB
    by_cases h1 : c.toNat < 48
    · simp [show ((c.toNat : Int) < 48) by omega, show ¬ 48 ≤ c.toNat by omega]
    · by_cases h2 : c.toNat > 57
      · simp [show ((c.toNat : Int) > 57) by omega, show ¬ c.toNat ≤ 57 by omega]
      · simp [show ¬ ((c.toNat : Int) < 48) by omega, show ¬ ((c.toNat : Int) > 57) by omega, show 48 ≤ c.toNat by omega, show c.toNat ≤ 57 by omega]]
  exact H
def ErrV (h : Heap) : Prop := ∃ t p, hcell h ⟨5, 0, none⟩ = some (.iface t p)
theorem ErrV.ext {h h' : Heap} (H : ErrV h) (e : Ext h h') : ErrV h' := by obtain ⟨t, p, hc⟩ := H; exact ⟨t, p, e.cell hc⟩
theorem sclone_str {t : List UInt8} {h : Heap} {Q : ByteArray → Heap → Prop} (ht : t.length ≤ 281474976710656) (H : ∀ h', Ext h h' → Q (bs t) h') : (internal_stringslite_Clone (bs t)).wp h Q := by
  unfold internal_stringslite_Clone
  rw [bs_size]
  refine ite_w (fun h0 => ?_) (fun h0 => ?_)
  · have : t = [] := by have := eq_of_beq h0; exact List.length_eq_zero_iff.1 (by omega)
    subst this
    exact pure_w (H _ (Ext.refl _))
  · have hne : t ≠ [] := fun e => by subst e; exact absurd h0 (by decide)
    have hpos : 0 < t.length := List.length_pos_iff.2 hne
    refine ⟨by omega, by omega, by omega, by omega, ?_⟩
    rw [Int.toNat_natCast, Nat.mul_one]
    have e1 := Ext.push h (.cells (zRow #[.int .u8 0] t.length) ty_uint8)
    have g1 : (h.push (.cells (zRow #[.int .u8 0] t.length) ty_uint8))[h.size]? = some (.cells (zRow #[.int .u8 0] t.length) ty_uint8 (0, 0)) := get_push_eq
    have s1 : (h.push (.cells (zRow #[.int .u8 0] t.length) ty_uint8)).size = h.size + 1 := Array.size_push _
    generalize h.push (.cells (zRow #[.int .u8 0] t.length) ty_uint8) = h1 at e1 g1 s1 ⊢
    have hz : (zRow #[.int .u8 0] t.length).size = t.length := zRow_size _ _
    refine ⟨by rw [bs_size]; exact Nat.le_refl _, ?_, ?_⟩
    · intro a ha j hj
      cases ha
      rw [bs_size] at hj
      rw [add_mk, Nat.zero_add]
      refine ⟨⟨(zRow #[.int .u8 0] t.length)[j]'(by omega), ?_⟩, hfrozen_blk g1⟩
      rw [hcell_blk g1]; exact Array.getElem?_eq_getElem (by omega)
    show M.wp _ (hsetL h1 ((⟨h.size, 0, none⟩ : Addr).add 0) (sbytes (bs t)) 0) Q
    rw [add_mk, Nat.zero_add]
    have g2 := hsetL_at (o := 0) (sbytes (bs t)) h1 0 _ g1
    have e2 : Ext h (hsetL h1 ⟨h.size, 0, none⟩ (sbytes (bs t)) 0) := e1.hsetL (Nat.le_refl _)
    have s2 := hsetL_size (a := ⟨h.size, 0, none⟩) (sbytes (bs t)) h1 0
    have hlen : (sbytes (bs t)).length = (zRow #[.int .u8 0] t.length).size := by rw [hz]; simp [sbytes, bs]
    rw [Nat.add_zero, lay_full hlen] at g2
    generalize hsetL h1 ⟨h.size, 0, none⟩ (sbytes (bs t)) 0 = h2 at g2 e2 s2 ⊢
    refine ixL_b (b := ⟨h.size, 0, none⟩) (by decide) (by show (0 : Int) < ((t.length : Nat) : Int); omega) rfl (.inr ⟨h.size, _, _, t, ?_, rfl, hne, ?_, by omega, g2, ?_, ?_⟩)
    · rw [add_mk]; rfl
    · rw [List.size_toArray, hlen, hz]; exact Nat.le_refl _
    · intro j x hx
      rw [List.getElem?_toArray]
      simp [sbytes, bs, hx]
    · intro h3 hs3 same3
      refine pure_w (H _ ⟨by have := e2.size; omega, fun i hi => ?_⟩)
      rw [same3 i (by omega)]
      exact e2.same i hi
theorem rangeErr_spec {fn t : List UInt8} {h : Heap} {Q : Option Addr → Heap → Prop} (ht : t.length ≤ 281474976710656) (hv : ErrV h) (H : ∀ h' a, Ext h h' → Q (some a) h') : (strconv_rangeError (bs fn) (bs t)).wp h Q := by
  obtain ⟨ty, p, hc⟩ := hv
  unfold strconv_rangeError
  refine ⟨_, hc, bind_w (sclone_str ht (fun h1 e1 => chk_b (e1.cell hc) ?_))⟩
  refine ⟨_, rfl, mkB_b (pure_w (H _ _ (e1.pushed _)))⟩
theorem toErr_spec {fn t : List UInt8} {h : Heap} {Q : Value → Heap → Prop} (ht : t.length ≤ 281474976710656) (hv : ErrV h) (H : ∀ h' u x, Ext h h' → Q (.iface u x) h') : (strconv_toError (bs fn) (bs t) 10 64 (.iface ty_internal_strconv_Error (.int .i64 1))).wp h Q := by
  unfold strconv_toError
  refine ⟨false, ⟨_, _, _, rfl, rfl, rfl⟩, iteF rfl ⟨true, ⟨_, _, _, rfl, rfl, rfl⟩, iteT rfl (bind_w (rangeErr_spec ht hv (fun h1 a e1 => pure_w (H _ _ _ e1))))⟩⟩
def numD (t : List UInt8) : List UInt8 := if t.head? = some 45 then t.tail else t
def numP (t : List UInt8) : Int × Int :=
  if numD t = [] then (0, 10) else if (numD t).all digB = false then (0, 10) else if (numD t).head? = some 48 ∧ t ≠ [48] then (0, 10)
  else match Lib.parseIntB 64 t with | .ok n => (n, 0) | _ => (0, 7)
def isNum {α : Type} : Lib.NumEnd α → Bool
  | .ok _ => true
  | .range => true
  | _ => false
theorem parseM_dig (M : Nat) : ∀ (r : List UInt8) (acc : Nat), r.all digB = true → isNum (parseUintM M acc r) = true
  | [], acc, _ => by rw [parseUintM]; rfl
  | c :: r, acc, h => by
    rw [List.all_cons, Bool.and_eq_true] at h
    have h1 := h.1
    unfold digB at h1
    rw [Bool.and_eq_true, decide_eq_true_iff, decide_eq_true_iff] at h1
    rw [parseUintM, if_pos h1]
    split
    · rfl
    · split
      · rfl
      · exact parseM_dig M r _ h.2
theorem u8_45 {c : UInt8} : ((c.toNat : Int) == 45) = decide (some c = some (45 : UInt8)) := by
  rw [eqI]
  refine decide_eq_decide.2 ⟨fun h => ?_, fun h => by cases h; rfl⟩
  have : c = 45 := UInt8.toNat_inj.1 (by show c.toNat = 45; omega)
  rw [this]
theorem u8_48 {c : UInt8} : ((c.toNat : Int) == 48) = decide (some c = some (48 : UInt8)) := by
  rw [eqI]
  refine decide_eq_decide.2 ⟨fun h => ?_, fun h => by cases h; rfl⟩
  have : c = 48 := UInt8.toNat_inj.1 (by show c.toNat = 48; omega)
  rw [this]
theorem parseB_dig {t : List UInt8} (h1 : numD t ≠ []) (h2 : (numD t).all digB = true) : isNum (Lib.parseIntB 64 t) = true := by
  cases t with
  | nil => exact absurd rfl h1
  | cons c r =>
    have hd : numD (c :: r) = (if c.toNat = 43 ∨ c.toNat = 45 then r else c :: r) := by
      unfold numD
      rw [List.head?_cons, List.tail_cons]
      by_cases h45 : c = 45
      · subst h45; rfl
      · have hn : c.toNat ≠ 45 := fun e => h45 (UInt8.toNat_inj.1 (by rw [e]; rfl))
        rw [if_neg (by simpa using h45)]
        by_cases h43 : c.toNat = 43
        · exfalso
          unfold numD at h2
          rw [List.head?_cons, if_neg (by simpa using h45), List.all_cons, Bool.and_eq_true] at h2
          have := h2.1
          unfold digB at this
          rw [Bool.and_eq_true, decide_eq_true_iff, decide_eq_true_iff] at this
          omega
        · rw [if_neg (by omega)]
    rw [hd] at h1 h2
    unfold parseIntB
    dsimp only
    unfold parseUintB
    rw [if_neg h1]
    have := parseM_dig (2 ^ 64 - 1) _ 0 h2
    split
    · rename_i hh; rw [hh] at this; cases this
    · rfl
    · split
      · rfl
      · split <;> rfl
theorem numj_spec {t : List UInt8} {h : Heap} {Q : Int × Int → Heap → Prop} (ht : t.length ≤ 281474976710656) (hv : ErrV h) (H : ∀ h', Ext h h' → Q (numP t) h') : (num_Parse_j1 (bs t) (bs (numD t))).wp h Q := by
  have hdl : (numD t).length ≤ t.length := by unfold numD; split <;> simp
  have hdl2 : t.length ≤ (numD t).length + 1 := by unfold numD; split <;> simp <;> omega
  unfold num_Parse_j1
  refine assoc_b ?_
  have fin : ∀ (b : Bool) (h1 : Heap), Ext h h1 → b = (decide (numD t = []) || !(numD t).all digB) → (M.wp (M.ite b (M.pure true) (do
    let x26_11 ← ixS (bs (numD t)) 0
    let x31_12 ← M.ite (x26_11 == 48) (do
      M.pure (!(sEq (bs t) (⟨#[48]⟩ : ByteArray)))
      ) (do
      M.pure false
      )
    M.pure x31_12
    ) >>= fun x32_10 => M.ite x32_10 (do
    M.pure (0, 10)
    ) (do
    let x35_15 ← strconv_ParseInt (bs t) 10 64
    let x40_17 ← isNI x35_15.2
    let x41_18 ← num_told x35_15.1 x40_17
    M.pure (x41_18.1, x41_18.2)
    )) h1 Q) := by
    intro b h1 e1 hb
    refine ite_b (fun hbt => ?_) (fun hbf => ?_)
    · refine pure_b (iteT rfl (pure_w ?_))
      have : numP t = (0, 10) := by
        unfold numP
        rw [hb, Bool.or_eq_true, decide_eq_true_iff, Bool.not_eq_true'] at hbt
        by_cases h0 : numD t = []
        · rw [if_pos h0]
        · rw [if_neg h0, if_pos (hbt.resolve_left h0)]
      rw [← this]
      exact H _ e1
    · rw [hb, Bool.or_eq_false_iff, decide_eq_false_iff_not, Bool.not_eq_false'] at hbf
      obtain ⟨hd0, hda⟩ := hbf
      have hpos : 0 < (numD t).length := List.length_pos_iff.2 hd0
      refine ixS_b (i := 0) rfl hpos ?_
      have hhead : (numD t).head? = some ((numD t)[0]'hpos) := by rw [List.head?_eq_getElem?]; exact List.getElem?_eq_getElem hpos
      refine assoc_b (and_b (c := decide (t ≠ [48])) (fun _ Q' hq => pure_w ?_) (pure_b ?_))
      · rw [show (⟨#[48]⟩ : ByteArray) = bs [48] from rfl, sEq_bs]
        rw [show (!decide (t = [48])) = decide (t ≠ [48]) by simp]
        exact hq
      rw [u8_48]
      have hnp : ∀ X, numP t = (if (numD t).head? = some 48 ∧ t ≠ [48] then (0, 10) else X) ↔ numP t = (if (numD t).head? = some 48 ∧ t ≠ [48] then (0, 10) else X) := fun _ => Iff.rfl
      refine ite_w (fun hz => pure_w ?_) (fun hz => ?_)
      · rw [Bool.and_eq_true, decide_eq_true_iff, decide_eq_true_iff, ← hhead] at hz
        have : numP t = (0, 10) := by
          unfold numP
          rw [if_neg hd0, if_neg (by rw [hda]; decide), if_pos hz]
        rw [← this]
        exact H _ e1
      · have hz' : ¬ ((numD t).head? = some 48 ∧ t ≠ [48]) := fun hh => by
          rw [hhead] at hh
          rw [decide_eq_true hh.1, decide_eq_true hh.2] at hz
          cases hz
        have hres : numP t = (match Lib.parseIntB 64 t with | .ok n => (n, 0) | _ => (0, 7)) := by
          unfold numP
          rw [if_neg hd0, if_neg (by rw [hda]; decide), if_neg hz']
        have hns := parseB_dig hd0 hda
        refine bind_w ?_
        unfold strconv_ParseInt
        refine bind_w ⟨rfl, rfl, by rw [bs_size]; omega, fun h2 s2 same2 => ?_⟩
        have e2 : Ext h h2 := e1.trans ⟨s2, same2⟩
        rw [show (bs t).data.toList = t from rfl]
        cases hp : Lib.parseIntB 64 t with
        | ok n =>
          rw [hp] at hres
          refine ⟨true, .inl ⟨rfl, rfl⟩, iteF rfl (pure_w ⟨true, .inl ⟨rfl, rfl⟩, bind_w ?_⟩)⟩
          unfold num_told
          refine iteF rfl (pure_w (pure_w ?_))
          show Q (n, 0) h2
          rw [show (n, (0 : Int)) = numP t from hres.symm]
          exact H _ e2
        | range =>
          rw [hp] at hres
          refine ⟨false, .inr ⟨⟨_, _, rfl⟩, rfl⟩, iteT rfl (bind_w (toErr_spec (fn := [80, 97, 114, 115, 101, 73, 110, 116]) ht (hv.ext e2) (fun h3 u x e3 => pure_w ⟨false, .inr ⟨⟨_, _, rfl⟩, rfl⟩, bind_w ?_⟩)))⟩
          unfold num_told
          refine iteT rfl (pure_w (pure_w ?_))
          show Q (0, 7) h3
          rw [show ((0 : Int), (7 : Int)) = numP t from hres.symm]
          exact H _ (e2.trans e3)
        | _ => rw [hp] at hns; cases hns
  refine ite_b (fun h0 => pure_b ?_) (fun h0 => ?_)
  · rw [sEq0] at h0
    exact fin _ _ (Ext.refl _) (by rw [h0]; rfl)
  · rw [sEq0] at h0
    refine fun cap hcap mk hmk => ?_
    refine bind_w (bcontains_spec (l := numD t) (p := fun c => !digB c) ⟨?_, .inr ⟨_, rfl, fun j v hj => ?_⟩⟩ (by omega) (fun c Q1 hq => callV_f (cl_num_Parse_1) (S_num_Parse_1 _) (nodig_spec hq)) (pure_b ?_))
    · show (numD t).length = (bs (numD t)).size
      rw [bs_size]
    · rw [add_mk, Nat.zero_add, hcell_blk get_push_eq]
      rw [List.getElem?_map] at hj
      have hjl : j < (numD t).length := by
        by_cases hh : j < (numD t).length
        · exact hh
        · rw [List.getElem?_eq_none (by omega)] at hj; cases hj
      rw [Array.getElem?_append_left (by simp [sbytes, bs]; exact hjl)]
      rw [List.getElem?_toArray, sbytes_bs0, List.getElem?_map]
      exact hj
    · refine fin _ _ (Ext.push _ _) ?_
      rw [h0, Bool.false_or]
      rw [List.any_eq_not_all_not]
      simp
theorem num_parse_spec {t : List UInt8} {h : Heap} {Q : Int × Int → Heap → Prop} (ht : t.length ≤ 281474976710656) (hv : ErrV h) (H : ∀ h', Ext h h' → Q (numP t) h') : (num_Parse (bs t)).wp h Q := by
  unfold num_Parse
  cases t with
  | nil =>
    refine and_b (c := false) (fun hb _ _ => ?_) ?_
    · rw [sEq0] at hb; exact absurd hb (by decide)
    · rw [Bool.and_false]
      exact iteF rfl (numj_spec ht hv H)
  | cons c r =>
    refine and_b (c := decide (some c = some (45 : UInt8))) (fun hb Q' hq => ?_) ?_
    · refine ixS_b (i := 0) rfl (by simp) (pure_w ?_)
      rw [List.getElem_cons_zero, u8_45]
      exact hq
    · rw [sEq0]
      refine ite_w (fun hb => ?_) (fun hb => ?_)
      · rw [Bool.and_eq_true, decide_eq_true_iff (p := some c = some 45)] at hb
        refine cutS_b (a := 1) (b := (c :: r).length) rfl (by rw [bs_size]) (by simp) (Nat.le_refl _) ?_
        have : (((c :: r).drop 1).take ((c :: r).length - 1)) = numD (c :: r) := by
          unfold numD
          rw [List.head?_cons, if_pos hb.2]
          simp
        rw [this]
        exact numj_spec ht hv H
      · have : numD (c :: r) = c :: r := by
          unfold numD
          rw [List.head?_cons, if_neg]
          intro hc
          rw [decide_eq_true hc] at hb
          simp at hb
        have h2 := numj_spec ht hv H
        rw [this] at h2
        exact h2
end Gx
namespace Gx
open Go Go.Proofs Go.Shelf Go.RowKit Go.Lib Gx.Last
set_option linter.unusedVariables false
set_option linter.unusedSimpArgs false
set_option maxRecDepth 100000
abbrev vz : Array Value := #[.int .i64 0, .int .i64 0, .string ByteArray.empty, .slice none 0 0]
def readRest (x0 x1 x2 x4 : Addr) : M Unit := do
  let x19_2 ← ldI .i64 ((x4).add 0)
  M.need (vz.size = 4)
  stG x0 vz
  chk (fun h : Heap => (hcell h ((x4).add 0) = some (.int .i64 x19_2)))
  stV x1 (.int .i64 x19_2)
  stV x2 (.bool false)
  M.pure ()
def readRes (p2 p3 p4 : Addr) : M (Array Value × Int × Bool) := do
  let c ← ldG 4 p2
  let i ← ldI .i64 p3
  let b ← ldB p4
  M.pure (c, i, b)
def readCatch (p2 p3 p4 : Addr) (u : Value) : M Unit := do
  let i ← M.get (fun _ i => u = .iface ty_value_wrong (.agg #[.int .i64 i]))
  let q ← mkB ty_value_wrong (#[.int .i64 0] : Array Value)
  M.need ((#[.int .i64 i] : Array Value).size = 1)
  stG q (#[.int .i64 i] : Array Value)
  readRest p2 p3 p4 q
def readTail (p2 p3 p4 : Addr) : M (Array Value × Int × Bool) := do
  let x ← ldG 4 p2
  M.need (x.size = 4)
  stG p2 x
  stV p3 (.int .i64 0)
  stV p4 (.bool true)
  readRes p2 p3 p4
def readM (x0 : ByteArray) : M (Array Value × Int × Bool) := do
  let p2 ← mkB ty_api_Value vz
  let p3 ← mkB ty_int (#[.int .i64 0] : Array Value)
  let p4 ← mkB ty_bool (#[.bool false] : Array Value)
  let r ← mkB ty_value_reader (#[.string x0, .int .i64 0] : Array Value)
  let v ← value_reader_value (some r) 1
  match v with
  | .inl u => readCatch p2 p3 p4 u >>= fun _ => readRes p2 p3 p4
  | .inr cs => do
    M.need (cs.size = 4)
    stG p2 cs
    let i ← ldI .i64 (r.add 1)
    M.ite (decide (i < (x0.size : Int))) (do
      let v ← value_reader_fail (some r)
      match v with
      | .inl u => readCatch p2 p3 p4 u >>= fun _ => readRes p2 p3 p4
      | .inr _ => M.fail) (readTail p2 p3 p4)
def readEnc (r : Array Value × Int × Bool) : Value := .tuple #[.agg r.1, .int .i64 r.2.1, .bool r.2.2]
theorem fd142_0' : fdOff Go.Proofs.Tryz.prog 142 0 = some 0 := by kernel_rfl
theorem sz142' : szB Go.Proofs.Tryz.prog 142 1 = true := by kernel_rfl
theorem zr4' : ((Go.Proofs.Tryz.prog.info? 4).bind (·.zero)) = some (.bool false) := by kernel_rfl
theorem sz4' : szB Go.Proofs.Tryz.prog 4 1 = true := by kernel_rfl
theorem sc4' : scB Go.Proofs.Tryz.prog 4 = true := by kernel_rfl
theorem ifc20' : ifB Go.Proofs.Tryz.prog 20 = true := by kernel_rfl
theorem zr146' : ((Go.Proofs.Tryz.prog.info? 146).bind (·.zero)) = some (.agg (#[.string ByteArray.empty, .int .i64 0] : Array Value)) := by kernel_rfl
theorem pl146' : placesOf Go.Proofs.Tryz.prog 146 = some [(0, 1), (1, 1)] := by kernel_rfl
theorem fd146_1' : fdOff Go.Proofs.Tryz.prog 146 1 = some 1 := by kernel_rfl
theorem un9' : Go.Proofs.Tryz.prog.underlying 9 = some .string := Tryz.underlying9
theorem tb130_5 : tabAt Go.Proofs.Tryz.f130 5 [[], [], [1], [0, 0], [2, 3, 0, 1, 2, 3], [4, 0, 1, 2, 3, 4]] [[], [], [1], [0], [2], []] [[], [], [1], [0], [0, 1, 2, 3], [0, 1, 2, 3, 4]] = true := by kernel_rfl
theorem wpS_calm {c : Code} {P : Program} {N : Act → World → Prop} {R : Act → World → Prop} {Q : Exit → Act → List Frame → World → Prop} {a : Act} {cs : List Frame} {w : World} (h : c.wpIn (Fw none) 1 P (Ps N X0 R) a w)
    (hn : ∀ a w, N a w → Q .normal a cs w) (hr : ∀ a w, R a w → Q .ret a cs w) : c.wpS P Q a cs w := by
  refine wpS_of_wp (wp_mono (wpIn_wide.1 h) ?_)
  intro e a w hh
  cases e with
  | normal => exact hn _ _ hh
  | ret => exact hr _ _ hh
  | exit i => exact hh.2.elim
  | goto l => exact hh.elim
  | panic c => obtain ⟨_, _, hh⟩ := hh; exact hh.elim
  | outgrown => exact hh.elim
theorem run_recover {dst : Option Tmp} {ty : TypeId} {pos : String} {aft : Array Edge} {ρ : Operand → Value} {P : Program} {w : World} : (execOp ρ ⟨dst, .call { callee := .builtin .recover, args := #[], argTypes := #[] }, ty, pos, aft, none⟩).run P w = .ok .recover w := by
  simp [execOp, resolve, invoke, builtin]
theorem recover_region {P : Program} {Q : Exit → Act → List Frame → World → Prop} {a : Act} {cs cs' : List Frame} {w : World} {id d1 d2 : Nat} {ty1 ty2 : TypeId} {pos1 pos2 : String} {aft1 aft2 : Array Edge} {n : Frm} {l : List (Nat × Value)} {v : Value}
    (hE : Env n a l) (hn1 : Nat.blt d1 n.size = true) (hn2 : Nat.blt d2 n.size = true) (hv : recoverD cs = some (v, cs') ∨ (recoverD cs = none ∧ v = .nilIface ∧ cs' = cs))
    (h : ∀ a', Env n a' ((d2, v) :: (d1, v) :: l) → Q .normal a' cs' w) :
    (Code.region id #[⟨some d1, .call { callee := .builtin .recover, args := #[], argTypes := #[] }, ty1, pos1, aft1, none⟩, ⟨some d2, .assign (.tmp d1), ty2, pos2, aft2, none⟩] false).wpS P Q a cs w := by
  refine wpS_region ?_
  have e1 := hE.put d1 v hn1
  have hr2 : (execOp (a.put (some d1) v).eval ⟨some d2, .assign (.tmp d1), ty2, pos2, aft2, none⟩).run P w = .ok (.value v) w := r_assign e1 (by simp [opv, look])
  have hf := h _ (e1.put d2 v hn2)
  show wpOpsS P _ Q [0, 1] a cs w
  rcases hv with hv | ⟨hv, rfl, rfl⟩
  · simp [wpOpsS, Region.wanted, run_recover, hv, hr2]
    exact hf
  · simp [wpOpsS, Region.wanted, run_recover, hv, hr2]
    exact hf
abbrev a130 (p2 p3 p4 : Addr) : Act := { tmps := #[.pointer (some p2), .pointer (some p3), .pointer (some p4)] ++ Array.replicate (20 - 3) undef, defers := [] }
theorem a130_env (p2 p3 p4 : Addr) : Env ⟨20, []⟩ (a130 p2 p3 p4) [(0, .pointer (some p2)), (1, .pointer (some p3)), (2, .pointer (some p4))] :=
  Env.enter (n := 20) #[.pointer (some p2), .pointer (some p3), .pointer (some p4)] _ (Nat.le_of_ble_eq_true rfl) (args_of ⟨rfl, rfl, rfl, trivial⟩)
theorem read1_ret {p2 p3 p4 : Addr} {w : World} {R : Ending → FrameMode → World → Prop} (h : R (.returned (.tuple #[])) .returning w) : CallsD Go.Proofs.Tryz.prog 130 #[.pointer (some p2), .pointer (some p3), .pointer (some p4)] .returning w R := by
  refine callsD_of_wpS Go.Proofs.Tryz.func130 rfl (fun c₀ cs hu => ?_)
  refine wpS_seq (recover_region (v := .nilIface) (cs' := c₀ :: cs) (a130_env p2 p3 p4) rfl rfl (.inr ⟨by simp [recoverD, hu], rfl, rfl⟩) (fun a hE => ?_))
  refine wpS_calm (N := fun _ _ => False) (R := fun a w' => w' = w ∧ Env ⟨20, []⟩ a [(0, .pointer (some p2))]) ?_ (fun _ _ h => h.elim) (fun a w' hh => ?_)
  · refine w_seq (fun K hK_1 => ?_)
    refine w_seq (fun K hK_2 => ?_)
    refine t_region ?_
    refine t_val (v := .nilIface) rfl rfl hE rfl (r_move hE rfl) (fun a hE => ?_)
    refine t_val (v := .bool true) rfl rfl hE rfl (r_bin hE rfl rfl (g_ni (b := true) (.inl ⟨rfl, rfl⟩)) (b_eqlN ifc20' (.inl ⟨rfl, rfl⟩))) (fun a hE => ?_)
    refine t_nil ?_
    refine hK_2 _ _ ?_
    refine w_cond true hE rfl (fun _ => ?_) (fun hb => by cases hb)
    exact w_ret ⟨rfl, hE.cut (.cons rfl Subs.nil)⟩
  · obtain ⟨rfl, hE⟩ := hh
    refine ⟨hE.defers, .returning, by rw [← hu], _, res_run (rs := []) (vs := []) hE rfl RV.nil, h⟩
theorem r_assertS {n : Frm} {a : Act} {w : World} {l : List (Nat × Value)} {P : Program} {dst : Option Tmp} {ty xt t : TypeId} {pos : String} {aft : Array Edge} {g : Option (Nat × Bool)} {x : Operand} {v : Value} {fs : Array Field} (hE : Env n a l) (hx : opv l x = some (.iface t v)) (ht : P.underlying t = some (.struct fs)) :
    (execOp a.eval ⟨dst, .typeAssert x xt t true, ty, pos, aft, g⟩).run P w = .ok (.value (.tuple #[v, .bool true])) w := by
  simp [execOp, hE.opv hx, Instr.typeAssert, run_underlying ht]
theorem read1_pan {p2 p3 p4 : Addr} {w : World} {u : Value} {Q : Unit → Heap → Prop} {R : Ending → FrameMode → World → Prop} (H : (readCatch p2 p3 p4 u).wp w.heap Q)
    (h : ∀ w', Rest w w' → Q () w'.heap → R (.returned (.tuple #[])) (.panicking [{ v := u, recovered := true }]) w') : CallsD Go.Proofs.Tryz.prog 130 #[.pointer (some p2), .pointer (some p3), .pointer (some p4)] (.panicking [{ v := u, recovered := false }]) w R := by
  refine callsD_of_wpS Go.Proofs.Tryz.func130 rfl (fun c₀ cs hu => ?_)
  obtain ⟨i, hi, H⟩ := H
  subst hi
  refine wpS_seq (recover_region (v := .iface ty_value_wrong (.agg #[.int .i64 i])) (cs' := { c₀ with mode := .panicking [{ v := .iface ty_value_wrong (.agg #[.int .i64 i]), recovered := true }] } :: cs) (a130_env p2 p3 p4) rfl rfl (.inl (by simp [recoverD, hu])) (fun a hE => ?_))
  have hR : Rest w w := Rest.refl w
  refine wpS_calm (N := fun a w' => Rest w w' ∧ Q () w'.heap ∧ Env ⟨20, []⟩ a [(0, .pointer (some p2))]) (R := fun _ _ => False) ?_ (fun a w' hh => ?_) (fun _ _ h => h.elim)
  · refine w_seq (fun K hK_1 => ?_)
    refine w_seq (fun K hK_2 => ?_)
    refine t_region ?_
    refine t_val (v := .iface ty_value_wrong (.agg #[.int .i64 i])) rfl rfl hE rfl (r_move hE rfl) (fun a hE => ?_)
    refine t_val (v := .bool false) rfl rfl hE rfl (r_bin hE rfl rfl (g_ni (b := false) (.inr ⟨⟨_, _, rfl⟩, rfl⟩)) (b_eqlN ifc20' (.inr ⟨⟨_, _, rfl⟩, rfl⟩))) (fun a hE => ?_)
    refine t_nil ?_
    refine hK_2 _ _ ?_
    refine w_cond false hE rfl (fun hb => by cases hb) (fun _ => ?_)
    refine w_skip ?_
    refine hK_1 _ _ ?_
    refine w_seq (fun K hK_3 => ?_)
    refine t_region ?_
    refine t_val (v := .iface ty_value_wrong (.agg #[.int .i64 i])) rfl rfl hE rfl (r_move hE rfl) (fun a hE => ?_)
    refine t_val (v := .tuple #[.agg #[.int .i64 i], .bool true]) rfl rfl hE rfl (r_assertS hE rfl Tryz.underlying142) (fun a hE => ?_)
    refine t_val (v := .tuple #[.agg #[.int .i64 i], .bool true]) rfl rfl hE rfl (r_move hE rfl) (fun a hE => ?_)
    refine t_val (v := .agg #[.int .i64 i]) rfl rfl hE rfl (r_extract hE rfl rfl) (fun a hE => ?_)
    refine t_val (v := .bool true) rfl rfl hE rfl (r_extract hE rfl rfl) (fun a hE => ?_)
    obtain ⟨q, hq, H⟩ := H
    refine t_valh (v := .pointer (some q)) rfl rfl hE rfl hR (r_alloc zr142 hq) (fun a w hE hR hh => ?_)
    replace H := M.at hh H; clear hh
    obtain ⟨qz, H⟩ := H
    obtain ⟨u_3, qu_3, H⟩ := H
    refine t_sth rfl rfl hE hR (r_storeG hE rfl rfl sz142' qz qu_3) (fun a w hE hR hh => ?_)
    replace H := M.at hh H; clear hh
    refine t_val (v := .bool true) rfl rfl hE rfl (r_assign hE rfl) (fun a hE => ?_)
    refine t_nil ?_
    refine hK_3 _ _ ?_
    refine w_seq (fun K hK_4 => ?_)
    refine w_seq (fun K hK_5 => ?_)
    refine t_region ?_
    refine t_val (v := .bool true) rfl rfl hE rfl (r_move hE rfl) (fun a hE => ?_)
    refine t_val (v := .bool false) rfl rfl hE rfl (r_un hE rfl u_not) (fun a hE => ?_)
    refine t_nil ?_
    refine hK_5 _ _ ?_
    refine w_cond false hE rfl (fun hb => by cases hb) (fun _ => ?_)
    refine w_skip ?_
    refine hK_4 _ _ ?_
    replace hE : Env ⟨20, []⟩ a [(0, .pointer (some p2)), (1, .pointer (some p3)), (2, .pointer (some p4)), (4, .pointer (some q))] := hE.cut (.cons rfl (.cons rfl (.cons rfl (.cons rfl Subs.nil))))
    obtain ⟨x19_2, qx19_2, H⟩ := H
    have hT := tab_of tb130_5 rfl rfl
    refine d_start (fun w : World => (fun h : Heap => (hcell h ((q).add 0) = some (.int .i64 x19_2))) w.heap) [4, 5] #[false, false, false, false, false, false] mo hR rfl rfl (fun w' e => by rw [e]; exact qx19_2) (fun w hh hR hs => ?_)
    replace H := M.at hh H; clear hh
    refine d_pureg (i := 0) (v := .agg vz) #[true, false, false, false, false, false] rfl rfl hT (by kernel_rfl) hE rfl (wanted_none rfl) (fun w => r_build0 bd24) (fun a hE => ?_)
    refine d_pureg (i := 1) (v := .pointer (some ((q).add 0))) #[true, true, false, false, false, false] rfl rfl hT (by kernel_rfl) hE rfl (wanted_none rfl) (fun w => r_fieldAddr hE rfl fd142_0') (fun a hE => ?_)
    refine d_read (i := 2) (v := .int .i64 x19_2) #[true, true, true, false, false, false] rfl rfl hT (by kernel_rfl) hE rfl (wanted_none rfl) hs (fun w s => r_load hE rfl sc3 s) (fun a hE => ?_)
    obtain ⟨qz, H⟩ := H
    obtain ⟨u_3, qu_3, H⟩ := H
    obtain ⟨_, sA, H⟩ := H
    refine d_sth (i := 3) #[true, true, true, true, false, false] rfl rfl hT (by kernel_rfl) rfl hE hR (wanted_none rfl) (r_storeG hE rfl rfl sz24 qz qu_3)  (fun w' e => by rw [e]; exact sA) (fun a w hE hR hh hs => ?_)
    replace H := M.at hh H; clear hh
    obtain ⟨u_4, qu_4, H⟩ := H
    refine d_stlh (i := 4) #[true, true, true, true, true, false] rfl rfl hT (by kernel_rfl) rfl hE hR (wanted_none rfl) (r_store hE rfl rfl sz3 qu_4)  (fun a w hE hR hh => ?_)
    replace H := M.at hh H; clear hh
    obtain ⟨u_5, qu_5, H⟩ := H
    refine d_stlh (i := 5) #[true, true, true, true, true, true] rfl rfl hT (by kernel_rfl) rfl hE hR (wanted_none rfl) (r_store hE rfl rfl sz4' qu_5)  (fun a w hE hR hh => ?_)
    replace H := M.at hh H; clear hh
    refine d_done hT (by kernel_rfl) ?_
    exact ⟨hR, H, hE.cut (.cons rfl Subs.nil)⟩
  · obtain ⟨hR, hq, hE⟩ := hh
    exact ⟨hE.defers, _, rfl, _, res_run (rs := []) (vs := []) hE rfl RV.nil, h _ hR hq⟩
theorem read_leave {Q : Array Value × Int × Bool → Heap → Prop} {w0 w : World} {a : Act} {l : List (Nat × Value)} {p2 p3 p4 : Addr} {l0 : List Deferred} (hE : EnvD l0 22 a l) (h2 : look l 2 = some (.pointer (some p2))) (h3 : look l 3 = some (.pointer (some p3))) (h4 : look l 4 = some (.pointer (some p4))) (hR : Rest w0 w) (H : (readRes p2 p3 p4).wp w.heap Q) :
    ∃ v, (results Tryz.f75 a.tmps).run Tryz.prog w = .ok v w ∧ ∃ r, Ending.returned v = .returned (readEnc r) ∧ Q r w.heap ∧ Rest w0 w := by
  obtain ⟨c, qc, H⟩ := H
  obtain ⟨i, qi, H⟩ := H
  obtain ⟨b, qb, H⟩ := H
  exact ⟨_, res_run (a := { tmps := a.tmps, defers := [] }) (rs := [.cell 2 24, .cell 3 3, .cell 4 4]) hE.env rfl (RV.cellG h2 ag24 qc (RV.cell h3 sc3 qi (RV.cell h4 sc4' qb RV.nil))), (c, i, b), rfl, H, hR⟩
abbrev dfr (p2 p3 p4 : Addr) : Deferred := { target := .fn (.func 130) #[.pointer (some p2), .pointer (some p3), .pointer (some p4)], args := #[] }
theorem dfr_enter {p2 p3 p4 : Addr} {w : World} : (invoke (.fn (.func 130) #[.pointer (some p2), .pointer (some p3), .pointer (some p4)]) #[]).run Tryz.prog w = .ok (.enter 130 #[.pointer (some p2), .pointer (some p3), .pointer (some p4)]) w := by
  have h := callee_of Tryz.func130 (by kernel_rfl) rfl #[.pointer (some p2), .pointer (some p3), .pointer (some p4)] w
  simp [invoke, h]
theorem read_ret {Q : Array Value × Int × Bool → Heap → Prop} {w0 w : World} {a : Act} {l : List (Nat × Value)} {p2 p3 p4 : Addr} (hE : EnvD [dfr p2 p3 p4] 22 a l) (h2 : look l 2 = some (.pointer (some p2))) (h3 : look l 3 = some (.pointer (some p3))) (h4 : look l 4 = some (.pointer (some p4))) (hR : Rest w0 w) (H : (readRes p2 p3 p4).wp w.heap Q) :
    Leaves Tryz.prog Tryz.f75 a.tmps (fun e w' => ∃ r, e = .returned (readEnc r) ∧ Q r w'.heap ∧ Rest w0 w') a.defers .returning w := by
  rw [hE.def_]
  refine leaves_cons (by simp) dfr_enter (read1_ret ?_)
  exact read_leave hE h2 h3 h4 hR H
theorem read_pan {Q : Array Value × Int × Bool → Heap → Prop} {w0 w : World} {a : Act} {l : List (Nat × Value)} {p2 p3 p4 : Addr} {u : Value} (hE : EnvD [dfr p2 p3 p4] 22 a l) (h2 : look l 2 = some (.pointer (some p2))) (h3 : look l 3 = some (.pointer (some p3))) (h4 : look l 4 = some (.pointer (some p4))) (hR : Rest w0 w) (H : (readCatch p2 p3 p4 u >>= fun _ => readRes p2 p3 p4).wp w.heap Q) :
    Leaves Tryz.prog Tryz.f75 a.tmps (fun e w' => ∃ r, e = .returned (readEnc r) ∧ Q r w'.heap ∧ Rest w0 w') a.defers (.panicking [{ v := u, recovered := false }]) w := by
  rw [hE.def_]
  refine leaves_cons (by simp) dfr_enter (read1_pan (M.unbind H) (fun w' hR' H' => ?_))
  show Leaves _ _ _ _ [] (settle (.panicking [{ v := u, recovered := true }])) w'
  exact read_leave hE h2 h3 h4 (hR.trans hR') H'
theorem S_read (x0 : ByteArray) : Sound Go.Proofs.Tryz.prog fn_value_read #[.string x0] readEnc (readM x0) := by
  intro W0 Q H
  refine calls_of_wp_defers Go.Proofs.Tryz.func75 rfl ?_
  refine (fun hs => wpIn_wide.1 hs) (?_ : Code.wpIn (Fw none) 1 _ _ _ _ _)
  have hE0 : Env ⟨22, []⟩ { tmps := #[.string x0] ++ Array.replicate (22 - 1) undef, defers := [] } [(0, .string x0)] := Env.enter (n := 22) #[.string x0] _ (Nat.le_of_ble_eq_true rfl) (args_of ⟨rfl, trivial⟩)
  have hE : EnvD [] 22 { tmps := #[.string x0] ++ Array.replicate (22 - 1) undef, defers := [] } [(0, .string x0)] := ⟨hE0, rfl⟩
  have hR : Rest W0 W0 := Rest.refl W0
  obtain ⟨p2, q2, H⟩ := H
  refine wpIn_seq (g_region ?_)
  refine g_valh (v := .pointer (some p2)) rfl rfl hE rfl hR (fun b hE => r_alloc zr24 q2) (fun a w1 hE hR hh => ?_)
  replace H := M.at hh H; clear hh
  obtain ⟨p3, q3, H⟩ := H
  refine g_valh (v := .pointer (some p3)) rfl rfl hE rfl hR (fun b hE => r_alloc zr3 q3) (fun a w1 hE hR hh => ?_)
  replace H := M.at hh H; clear hh
  obtain ⟨p4, q4, H⟩ := H
  refine g_valh (v := .pointer (some p4)) rfl rfl hE rfl hR (fun b hE => r_alloc zr4' q4) (fun a w1 hE hR hh => ?_)
  replace H := M.at hh H; clear hh
  refine g_nil ?_
  refine wpIn_seq (g_region ?_)
  refine g_val (v := .func (.func 130) #[] #[.pointer (some p2), .pointer (some p3), .pointer (some p4)]) rfl rfl hE rfl (fun b hE => r_makeFunc hE rfl) (fun a hE => ?_)
  refine g_defer hE rfl (fun a hE => ?_)
  replace hE : EnvD [dfr p2 p3 p4] 22 a [(0, .string x0), (2, .pointer (some p2)), (3, .pointer (some p3)), (4, .pointer (some p4))] := ⟨hE.env.cut (.cons rfl (.cons rfl (.cons rfl (.cons rfl Subs.nil)))), hE.def_⟩
  refine g_nil ?_
  refine wpIn_seq (g_region ?_)
  refine g_val (v := .string x0) rfl rfl hE rfl (fun b hE => r_move hE rfl) (fun a hE => ?_)
  refine g_val (v := .agg (#[.string x0, .int .i64 0] : Array Value)) rfl rfl hE rfl (fun b hE => r_build hE rfl zr146' pl146' (by rfl)) (fun a hE => ?_)
  obtain ⟨r, qr, H⟩ := H
  refine g_valh (v := .pointer (some r)) rfl rfl hE rfl hR (fun b hE => r_box hE rfl qr) (fun a w1 hE hR hh => ?_)
  replace H := M.at hh H; clear hh
  refine g_val (v := .pointer (some r)) rfl rfl hE rfl (fun b hE => r_assign hE rfl) (fun a hE => ?_)
  replace hE : EnvD [dfr p2 p3 p4] 22 a [(0, .string x0), (2, .pointer (some p2)), (3, .pointer (some p3)), (4, .pointer (some p4)), (5, .pointer (some r))] := ⟨hE.env.cut (.cons rfl (.cons rfl (.cons rfl (.cons rfl (.cons rfl Subs.nil))))), hE.def_⟩
  refine g_nil ?_
  refine wpIn_seq (g_region ?_)
  refine g_val (v := .pointer (some r)) rfl rfl hE rfl (fun b hE => r_move hE rfl) (fun a hE => ?_)
  refine g_callX hE hR cl_value_reader_value rfl (S_value_reader_value (some r) 1) (M.unbind H) (fun u w1 hR H => ?_) (fun cs a1 w1 ea hR H => ?_)
  · exact read_pan hE rfl rfl rfl hR H
  replace hE : EnvD [dfr p2 p3 p4] 22 a1 _ := ea ▸ hE.put 11 (.agg cs) rfl
  obtain ⟨qz, H⟩ := H
  obtain ⟨u_6, qu_6, H⟩ := H
  refine g_sth rfl rfl hE hR (fun b hE => r_storeG hE rfl rfl sz24 qz qu_6) (fun a w hE hR hh => ?_)
  replace H := M.at hh H; clear hh
  replace hE : EnvD [dfr p2 p3 p4] 22 a [(0, .string x0), (2, .pointer (some p2)), (3, .pointer (some p3)), (4, .pointer (some p4)), (5, .pointer (some r))] := ⟨hE.env.cut (.cons rfl (.cons rfl (.cons rfl (.cons rfl (.cons rfl Subs.nil))))), hE.def_⟩
  refine g_nil ?_
  obtain ⟨i, qi, H⟩ := H
  refine wpIn_seq (wpIn_mono (Q := Exit.then (fun a w1 => EnvD [dfr p2 p3 p4] 22 a [(0, .string x0), (2, .pointer (some p2)), (3, .pointer (some p3)), (4, .pointer (some p4)), (5, .pointer (some r))] ∧ Rest W0 w1 ∧ (readTail p2 p3 p4).wp w1.heap Q)
    (bodyPostD Tryz.prog Tryz.f75 (fun e w' => ∃ r, e = .returned (readEnc r) ∧ Q r w'.heap ∧ Rest W0 w'))) ?_ ?_)
  · refine wpIn_seq (g_region ?_)
    refine g_val (v := .pointer (some r)) rfl rfl hE rfl (fun b hE => r_move hE rfl) (fun a hE => ?_)
    refine g_val (v := .pointer (some r)) rfl rfl hE rfl (fun b hE => r_nilCheck hE rfl) (fun a hE => ?_)
    refine g_val (v := .pointer (some (r.add 1))) rfl rfl hE rfl (fun b hE => r_fieldAddr hE rfl fd146_1') (fun a hE => ?_)
    refine g_val (v := .int .i64 i) rfl rfl hE rfl (fun b hE => r_load hE rfl sc3 qi) (fun a hE => ?_)
    refine g_val (v := .string x0) rfl rfl hE rfl (fun b hE => r_move hE rfl) (fun a hE => ?_)
    refine g_val (v := .int .i64 (x0.size : Int)) rfl rfl hE rfl (fun b hE => r_lenS hE rfl un9') (fun a hE => ?_)
    refine g_val (v := .bool (decide (i < (x0.size : Int)))) rfl rfl hE rfl (fun b hE => r_bin hE rfl rfl g_int b_lss) (fun a hE => ?_)
    refine g_nil ?_
    refine g_cond (decide (i < (x0.size : Int))) hE rfl (fun hb => ?_) (fun hb => ?_)
    · replace H := M.ite_t hb H
      refine g_region ?_
      refine g_val (v := .pointer (some r)) rfl rfl hE rfl (fun b hE => r_move hE rfl) (fun a hE => ?_)
      refine g_callX hE hR cl_value_reader_fail rfl (S_value_reader_fail (some r)) (M.unbind H) (fun u w1 hR H => ?_) (fun cs a1 w1 ea hR H => H.elim)
      exact read_pan hE rfl rfl rfl hR H
    · replace H := M.ite_f hb H
      refine wpIn_skip ?_
      exact ⟨⟨hE.env.cut (.cons rfl (.cons rfl (.cons rfl (.cons rfl (.cons rfl Subs.nil))))), hE.def_⟩, hR, H⟩
  · intro e a w hh
    cases e with
    | normal =>
      obtain ⟨hE, hR, H⟩ := hh
      obtain ⟨x, qx, H⟩ := H
      obtain ⟨qz, H⟩ := H
      obtain ⟨u_6, qu_6, H⟩ := H
      refine wpIn_seq (g_region ?_)
      refine g_val (v := .agg x) rfl rfl hE rfl (fun b hE => r_loadG hE rfl ag24 qx) (fun a hE => ?_)
      refine g_sth rfl rfl hE hR (fun b hE => r_storeG hE rfl rfl sz24 qz qu_6) (fun a w hE hR hh => ?_)
      replace H := M.at hh H; clear hh
      obtain ⟨u_7, qu_7, H⟩ := H
      refine g_sth rfl rfl hE hR (fun b hE => r_store hE rfl rfl sz3 qu_7) (fun a w hE hR hh => ?_)
      replace H := M.at hh H; clear hh
      obtain ⟨u_8, qu_8, H⟩ := H
      refine g_sth rfl rfl hE hR (fun b hE => r_store hE rfl rfl sz4' qu_8) (fun a w hE hR hh => ?_)
      replace H := M.at hh H; clear hh
      refine g_nil ?_
      refine wpIn_ret ?_
      exact read_ret hE rfl rfl rfl hR H
    | exit i => exact hh
    | ret => exact hh
    | goto l => exact hh
    | panic c => exact hh
    | outgrown => exact hh
end Gx
namespace Gx
open Go Go.Proofs Go.Shelf Go.RowKit Go.Lib
set_option linter.unusedVariables false
set_option linter.unusedSimpArgs false
set_option maxRecDepth 100000
structure Rd (h : Heap) (b : Nat) (s : List UInt8) (i : Nat) : Prop where
  blk : h[b]? = some (.cells #[.string (bs s), .int .i64 (i : Int)] ty_value_reader (0, 0))
  le : i ≤ s.length
  small : s.length ≤ 1099511627776
def hereB (s : List UInt8) (i : Nat) : UInt8 := (s[i]?).getD 0
def wrongV (e : Nat) : Value := .iface ty_value_wrong (.agg #[.int .i64 (e : Int)])
abbrev Kb (b : Nat) : Heap → Heap → Prop := Km (fun k => k = b)
theorem Rd.ext {h h' : Heap} {b : Nat} {s : List UInt8} {i : Nat} (R : Rd h b s i) (e : Ext h h') : Rd h' b s i := ⟨e.blk R.blk, R.le, R.small⟩
theorem Rd.lt {h : Heap} {b : Nat} {s : List UInt8} {i : Nat} (R : Rd h b s i) : b < h.size := blk_lt R.blk
theorem ErrV.km {h h' : Heap} {b : Nat} (H : ErrV h) (k : Kb b h h') (hb : b ≠ 5) : ErrV h' := by
  obtain ⟨t, p, hc⟩ := H
  refine ⟨t, p, ?_⟩
  have h5 : 5 < h.size := hcell_lt hc
  have := k.same 5 h5 (fun e => hb e.symm)
  unfold hcell at hc ⊢
  rw [this]
  exact hc
theorem here_lt {s : List UInt8} {i : Nat} (h : hereB s i ≠ 0) : i < s.length := by
  by_cases hi : i < s.length
  · exact hi
  · unfold hereB at h
    rw [List.getElem?_eq_none (by omega)] at h
    exact absurd rfl h
theorem here_get {s : List UInt8} {i : Nat} (hi : i < s.length) : hereB s i = s[i] := by unfold hereB; rw [List.getElem?_eq_getElem hi]; rfl
section
variable {β : Type} {h : Heap} {Q : β → Heap → Prop} {b i : Nat} {s : List UInt8}
theorem rdS_b {f : ByteArray → M β} (R : Rd h b s i) (H : (f (bs s)).wp h Q) : (ldS ((⟨b, 0, none⟩ : Addr).add 0) >>= f).wp h Q := ldS_b (by rw [add_mk, hcell_blk R.blk]; rfl) H
theorem rdI_b {f : Int → M β} (R : Rd h b s i) (H : (f (i : Int)).wp h Q) : (ldI .i64 ((⟨b, 0, none⟩ : Addr).add 1) >>= f).wp h Q := ldI_b (by rw [add_mk, hcell_blk R.blk]; rfl) H
theorem rdW_b {f : Unit → M β} (R : Rd h b s i) (hi : i < s.length) (H : ∀ h', Upd b h h' → Rd h' b s (i + 1) → (f ()).wp h' Q) : (stV ((⟨b, 0, none⟩ : Addr).add 1) (.int .i64 (IntKind.wrap .i64 ((i : Int) + 1))) >>= f).wp h Q := by
  have hsm := R.small
  rw [w64 (by omega) (by omega)]
  refine stV_b (x := .int .i64 (i : Int)) (by rw [add_mk, hcell_blk R.blk]; rfl) (by rw [add_mk]; exact hfrozen_blk R.blk) rfl ?_
  rw [add_mk]
  exact H _ (Upd.hset _ _ _ _) ⟨hset_at R.blk, hi, hsm⟩
theorem adv_b {f : Unit → M β} (R : Rd h b s i) (hi : i < s.length) (H : ∀ h', Upd b h h' → Rd h' b s (i + 1) → (f ()).wp h' Q) :
    (nilP (some ⟨b, 0, none⟩) >>= fun x => ldI .i64 (x.add 1) >>= fun y => nilP (some ⟨b, 0, none⟩) >>= fun z => stV (z.add 1) (.int .i64 (IntKind.wrap .i64 (y + 1))) >>= f).wp h Q :=
  nilP_b (rdI_b R (nilP_b (rdW_b R hi H)))
end
theorem here_spec {h : Heap} {Q : Int → Heap → Prop} {b i : Nat} {s : List UInt8} (R : Rd h b s i) (H : Q ((hereB s i).toNat : Int) h) : (value_reader_here (some ⟨b, 0, none⟩)).wp h Q := by
  unfold value_reader_here
  refine nilP_b (nilP_b (rdI_b R (rdS_b R ?_)))
  rw [bs_size]
  refine ite_w (fun hc => ?_) (fun hc => pure_w ?_)
  · have hi : i < s.length := by have := of_decide_eq_true hc; omega
    refine nilP_b (nilP_b (rdS_b R (rdI_b R (ixS_b rfl hi (pure_w ?_)))))
    rw [← here_get hi]
    exact H
  · have hi : ¬ i < s.length := by have := of_decide_eq_false hc; omega
    unfold hereB at H
    rw [List.getElem?_eq_none (by omega)] at H
    exact H
theorem fail_spec {h : Heap} {Q : Value ⊕ Unit → Heap → Prop} {b i : Nat} {s : List UInt8} (R : Rd h b s i) (H : Q (.inl (wrongV i)) h) : (value_reader_fail (some ⟨b, 0, none⟩)).wp h Q := by
  unfold value_reader_fail
  exact nilP_b (rdI_b R (pure_w H))
theorem digit_spec {c : UInt8} {h : Heap} {Q : Bool → Heap → Prop} (H : Q (digB c) h) : (value_digit (c.toNat : Int)).wp h Q := by
  unfold value_digit
  refine and_b (c := decide ((c.toNat : Int) ≤ 57)) (fun _ Q' hq => pure_w hq) (pure_w ?_)
  rw [show (decide ((c.toNat : Int) ≥ 48) && decide ((c.toNat : Int) ≤ 57)) = digB c by
    unfold digB
    congr 1
    · exact decide_eq_decide.2 (by omega)
    · exact decide_eq_decide.2 (by omega)]
  exact H
def mustP (s : List UInt8) : List UInt8 → Nat → Except Nat Nat
  | [], i => .ok i
  | c :: r, i => if s[i]? = some c then mustP s r (i + 1) else .error i
theorem mustP_ok {s : List UInt8} : ∀ {lit : List UInt8} {i j : Nat}, mustP s lit i = .ok j → j = i + lit.length ∧ (lit ≠ [] → j ≤ s.length) ∧ (s.drop i).take lit.length = lit
  | [], i, j, h => by cases h; exact ⟨rfl, fun h => absurd rfl h, by simp⟩
  | c :: r, i, j, h => by
    unfold mustP at h
    split at h
    · rename_i hc
      obtain ⟨h1, h2, h3⟩ := mustP_ok h
      have hi : i < s.length := (List.getElem?_eq_some_iff.1 hc).1
      refine ⟨by rw [h1, List.length_cons]; omega, fun _ => ?_, ?_⟩
      · by_cases hr : r = []
        · subst hr; rw [h1]; exact hi
        · exact h2 hr
      · rw [List.drop_eq_getElem_cons hi, List.length_cons, List.take_succ_cons, h3]
        rw [(List.getElem?_eq_some_iff.1 hc).2]
    · cases h
theorem must_spec {h : Heap} {Q : Value ⊕ Unit → Heap → Prop} {b i : Nat} {s lit : List UInt8} (R : Rd h b s i) (hl : lit.length ≤ 1000)
    (H1 : ∀ j h', mustP s lit i = .ok j → Kb b h h' → Rd h' b s j → Q (.inr ()) h') (H2 : ∀ e h', mustP s lit i = .error e → Kb b h h' → Q (.inl (wrongV e)) h') : (value_reader_must (some ⟨b, 0, none⟩) (bs lit)).wp h Q := by
  unfold value_reader_must
  rw [bs_size]
  refine M.loop_inv (fun (x : Int) hh => ∃ k i' : Nat, x = (k : Int) ∧ k ≤ lit.length ∧ Kb b h hh ∧ Rd hh b s i' ∧ mustP s (lit.drop k) i' = mustP s lit i) (fun x _ => ((lit.length : Int) - x).toNat) ?_ ⟨0, i, rfl, Nat.zero_le _, Km.refl _ _, R, rfl⟩
  rintro x hh ⟨k, i', rfl, hk, K, R', hm⟩ self hself
  unfold value_reader_must_l1
  refine ite_w (fun hc => ?_) (fun hc => ?_)
  · have hkl : k < lit.length := by have := of_decide_eq_true hc; omega
    rw [List.drop_eq_getElem_cons hkl, mustP] at hm
    refine nilP_b (nilP_b (rdI_b R' (rdS_b R' ?_)))
    rw [bs_size]
    have hfail : s[i']? ≠ some lit[k] → (value_reader_must_j2 self (some ⟨b, 0, none⟩) (k : Int) true).wp hh Q := fun hne => by
      unfold value_reader_must_j2
      refine iteT rfl (fail_spec R' ?_)
      rw [if_neg hne] at hm
      exact H2 _ _ hm.symm K
    refine ite_w (fun hge => ?_) (fun hlt => ?_)
    · refine hfail ?_
      have := of_decide_eq_true hge
      rw [List.getElem?_eq_none (by omega)]
      intro h; cases h
    · have hil : i' < s.length := by have := of_decide_eq_false hlt; omega
      refine nilP_b (nilP_b (ixS_b rfl hkl (rdS_b R' (rdI_b R' (ixS_b rfl hil ?_)))))
      by_cases he : s[i'] = lit[k]
      · rw [show (((s[i']).toNat : Int) != ((lit[k]).toNat : Int)) = false by rw [he]; simp]
        unfold value_reader_must_j2 value_reader_must_j1
        refine iteF rfl (adv_b R' hil (fun h2 u R2 => ?_))
        rw [w64 (by omega) (by omega)]
        rw [if_pos (by rw [List.getElem?_eq_getElem hil, he])] at hm
        exact hself _ _ ⟨k + 1, i' + 1, by omega, by omega, K.trans (Km.upd u rfl), R2, hm⟩ (by omega)
      · rw [show (((s[i']).toNat : Int) != ((lit[k]).toNat : Int)) = true by
          rw [bne_iff_ne]
          intro h
          exact he (UInt8.toNat_inj.1 (by omega))]
        refine hfail ?_
        rw [List.getElem?_eq_getElem hil]
        intro h
        exact he (Option.some.inj h)
  · have hkl : k = lit.length := by have := of_decide_eq_false hc; omega
    subst hkl
    rw [List.drop_length, mustP] at hm
    exact pure_w (H1 _ _ hm.symm K R')
def numL (s : List UInt8) (fr : Nat) : Nat → Nat → Int → Except Nat (Int × Nat)
  | 0, i, n => .ok (n, i)
  | f + 1, i, n => if digB (hereB s i) = true then
      (if (numP ((s.drop fr).take (i + 1 - fr))).2 = 7 then .error i else if (numP ((s.drop fr).take (i + 1 - fr))).2 ≠ 0 then .ok (n, i) else numL s fr f (i + 1) (numP ((s.drop fr).take (i + 1 - fr))).1)
    else .ok (n, i)
def numJ (s : List UInt8) (i : Nat) : Nat := if hereB s i = 45 then i + 1 else i
def numF (s : List UInt8) (i : Nat) : Except Nat (Int × Nat) :=
  if digB (hereB s (numJ s i)) = false ∨ (i < numJ s i ∧ hereB s (numJ s i) = 48) then .error (numJ s i) else numL s i (s.length - numJ s i) (numJ s i) 0
theorem dig_lt {s : List UInt8} {i : Nat} (h : digB (hereB s i) = true) : i < s.length := by
  refine here_lt (fun e => ?_)
  rw [e] at h
  exact absurd h (by decide)
theorem numl_spec {h : Heap} {Q : Value ⊕ Int → Heap → Prop} {b i fr : Nat} {s : List UInt8} (R : Rd h b s i) (he : ErrV h) (hb : b ≠ 5) (hfr : fr ≤ i)
    (H1 : ∀ n j h', numL s fr (s.length - i) i 0 = .ok (n, j) → Kb b h h' → Rd h' b s j → Q (.inr n) h') (H2 : ∀ e h', numL s fr (s.length - i) i 0 = .error e → Kb b h h' → Q (.inl (wrongV e)) h') : (value_reader_number_j2 (some ⟨b, 0, none⟩) (fr : Int)).wp h Q := by
  unfold value_reader_number_j2
  refine M.loop_inv (fun (x : Int) hh => ∃ i' : Nat, fr ≤ i' ∧ Kb b h hh ∧ Rd hh b s i' ∧ (∃ hx : hh[b]? = some (.cells #[.string (bs s), .int .i64 (i' : Int)] ty_value_reader (0, 0)), True) ∧ numL s fr (s.length - i') i' x = numL s fr (s.length - i) i 0)
    (fun x hh => match hh[b]? with | some (.cells #[_, .int _ z] _ _) => s.length - z.toNat | _ => 0) ?_ ⟨i, hfr, Km.refl _ _, R, ⟨R.blk, trivial⟩, rfl⟩
  rintro x hh ⟨i', hfi, K, R', ⟨hx, _⟩, hm⟩ self hself
  have hsm := R'.small
  unfold value_reader_number_l1
  refine bind_w (here_spec R' (bind_w (digit_spec ?_)))
  refine ite_w (fun hd => ?_) (fun hd => ?_)
  · have hil := dig_lt hd
    rw [show s.length - i' = (s.length - (i' + 1)) + 1 by omega, numL, if_pos hd] at hm
    refine nilP_b (nilP_b (rdS_b R' (rdI_b R' ?_)))
    rw [w64 (by omega) (by omega)]
    refine cutS_b (a := fr) (b := i' + 1) rfl (by omega) (by omega) (by omega) (bind_w (callF_w (S_num_Parse _) (num_parse_spec ?_ (he.km K hb) (fun h2 e2 => ?_))))
    · rw [List.length_take, List.length_drop]; omega
    have R2 := R'.ext e2
    refine ite_w (fun h7 => ?_) (fun h7 => ?_)
    · rw [eqI, decide_eq_true_iff] at h7
      rw [if_pos h7] at hm
      exact fail_spec R2 (H2 _ _ hm.symm (K.trans (Km.ext e2)))
    · rw [eqI, decide_eq_false_iff_not] at h7
      rw [if_neg h7] at hm
      unfold value_reader_number_j3
      refine ite_w (fun h0 => ?_) (fun h0 => ?_)
      · rw [bne_iff_ne] at h0
        rw [if_pos h0] at hm
        exact pure_w (H1 _ _ _ hm.symm (K.trans (Km.ext e2)) R2)
      · have h0 : ¬ (numP ((s.drop fr).take (i' + 1 - fr))).2 ≠ 0 := by
          intro hne
          rw [(bne_iff_ne).2 hne] at h0
          cases h0
        rw [if_neg h0] at hm
        refine adv_b R2 hil (fun h3 u3 R3 => ?_)
        refine hself _ _ ⟨i' + 1, by omega, (K.trans (Km.ext e2)).trans (Km.upd u3 rfl), R3, ⟨R3.blk, trivial⟩, hm⟩ ?_
        rw [R3.blk, hx]
        show s.length - ((i' + 1 : Nat) : Int).toNat < s.length - ((i' : Nat) : Int).toNat
        omega
  · have : numL s fr (s.length - i') i' x = .ok (x, i') := by
      cases hf : s.length - i' with
      | zero => rfl
      | succ f => rw [numL, if_neg (by rw [hd]; decide)]
    rw [this] at hm
    exact pure_w (H1 _ _ _ hm.symm K R')
theorem number_spec {h : Heap} {Q : Value ⊕ Int → Heap → Prop} {b i : Nat} {s : List UInt8} (R : Rd h b s i) (he : ErrV h) (hb : b ≠ 5)
    (H1 : ∀ n j h', numF s i = .ok (n, j) → Kb b h h' → Rd h' b s j → Q (.inr n) h') (H2 : ∀ e h', numF s i = .error e → Kb b h h' → Q (.inl (wrongV e)) h') : (value_reader_number (some ⟨b, 0, none⟩)).wp h Q := by
  unfold value_reader_number
  have key : ∀ h1, Kb b h h1 → Rd h1 b s (numJ s i) → (value_reader_number_j1 (some ⟨b, 0, none⟩) (i : Int)).wp h1 Q := by
    intro h1 K1 R1
    unfold value_reader_number_j1
    have hij : i ≤ numJ s i := by unfold numJ; split <;> omega
    refine nilP_b (rdI_b R1 (bind_w (here_spec R1 (bind_w (digit_spec ?_)))))
    refine or_b (c := decide (i < numJ s i) && decide (hereB s (numJ s i) = 48)) (fun hd Q' hq => ?_) ?_
    · refine assoc_b (and_b (c := decide (hereB s (numJ s i) = 48)) (fun _ Q2 hq2 => bind_w (here_spec R1 (pure_w ?_))) (pure_b (pure_w ?_)))
      · rw [u8_48, decide_eq_decide.2 (show some (hereB s (numJ s i)) = some 48 ↔ hereB s (numJ s i) = 48 from ⟨Option.some.inj, congrArg _⟩)]
        exact hq2
      · rw [show decide (((numJ s i : Nat) : Int) > (i : Int)) = decide (i < numJ s i) from decide_eq_decide.2 (by omega)]
        exact hq
    · refine ite_w (fun hbad => ?_) (fun hok => ?_)
      · refine fail_spec R1 (H2 _ _ ?_ K1)
        unfold numF
        rw [if_pos]
        rw [Bool.or_eq_true, Bool.and_eq_true, decide_eq_true_iff, decide_eq_true_iff, Bool.not_eq_true'] at hbad
        exact hbad
      · have hn : ¬ (digB (hereB s (numJ s i)) = false ∨ (i < numJ s i ∧ hereB s (numJ s i) = 48)) := by
          intro hh
          rw [← Bool.not_eq_true', ← decide_eq_true_iff (p := i < numJ s i), ← decide_eq_true_iff (p := hereB s (numJ s i) = 48), ← Bool.and_eq_true, ← Bool.or_eq_true, hok] at hh
          cases hh
        have hF : numF s i = numL s i (s.length - numJ s i) (numJ s i) 0 := by unfold numF; rw [if_neg hn]
        rw [hF] at H1 H2
        exact numl_spec R1 (he.km K1 hb) hb hij (fun n j h2 e K2 R2 => H1 n j h2 e (K1.trans K2) R2) (fun e h2 hm K2 => H2 e h2 hm (K1.trans K2))
  refine nilP_b (rdI_b R (bind_w (here_spec R ?_)))
  refine ite_w (fun hc => ?_) (fun hc => ?_)
  · have h45 : hereB s i = 45 := by
      rw [u8_45, decide_eq_true_iff] at hc
      exact Option.some.inj hc
    refine adv_b R (here_lt (by rw [h45]; decide)) (fun h1 u1 R1 => key _ (Km.upd u1 rfl) ?_)
    unfold numJ
    rw [if_pos h45]
    exact R1
  · have h45 : ¬ hereB s i = 45 := by
      rw [u8_45, decide_eq_false_iff_not] at hc
      exact fun e => hc (congrArg _ e)
    refine key _ (Km.refl _ _) ?_
    unfold numJ
    rw [if_neg h45]
    exact R
end Gx
namespace Gx
open Go Go.Proofs Go.Shelf Go.RowKit Go.Lib
set_option linter.unusedVariables false
set_option linter.unusedSimpArgs false
set_option maxRecDepth 100000
def hexD : List UInt8 := [48, 49, 50, 51, 52, 53, 54, 55, 56, 57, 97, 98, 99, 100, 101, 102]
def hexN (c : UInt8) : Int := Lib.indexByte hexD c
theorem indexByte_le : ∀ (l : List UInt8) (c : UInt8), Lib.indexByte l c + 1 ≤ (l.length : Int)
  | [], c => by simp [Lib.indexByte]
  | b :: l, c => by
    have := indexByte_le l c
    unfold Lib.indexByte
    rw [List.length_cons]
    split
    · omega
    · split <;> omega
theorem hexN_le (c : UInt8) : hexN c ≤ 15 := by
  have := indexByte_le hexD c
  have h2 : (hexD.length : Int) = 16 := rfl
  unfold hexN
  omega
theorem hexN_0 : hexN 0 = -1 := by decide +kernel
theorem hex_byte : ∀ a b : Fin 16, IntKind.wrap .u8 (iOr .i64 (iShl .i64 (a.val : Int) 4) (b.val : Int)) = ((UInt8.ofNat (((a.val : Int) * 16 + (b.val : Int)).toNat)).toNat : Int) := by decide +kernel
theorem hexb {x y : Int} (hx : 0 ≤ x) (hx2 : x ≤ 15) (hy : 0 ≤ y) (hy2 : y ≤ 15) : IntKind.wrap .u8 (iOr .i64 (iShl .i64 x 4) y) = ((UInt8.ofNat ((x * 16 + y).toNat)).toNat : Int) := by
  have := hex_byte ⟨x.toNat, by omega⟩ ⟨y.toNat, by omega⟩
  simp only [Int.toNat_of_nonneg hx, Int.toNat_of_nonneg hy] at this
  exact this
theorem hex_spec {c : UInt8} {h : Heap} {Q : Int → Heap → Prop} (H : Q (hexN c) h) : (strings_IndexByte (⟨#[48, 49, 50, 51, 52, 53, 54, 55, 56, 57, 97, 98, 99, 100, 101, 102]⟩ : ByteArray) (c.toNat : Int)).wp h Q := by
  unfold strings_IndexByte internal_stringslite_IndexByte
  refine bind_w (pure_w (pure_w ?_))
  have : (c.toNat : Int).toNat.toUInt8 = c := by rw [Int.toNat_natCast]; simp
  rw [this]
  exact H
def escP (s : List UInt8) (i : Nat) : Except Nat (UInt8 × Nat) :=
  if hereB s i = 39 ∨ hereB s i = 92 then .ok (hereB s i, i + 1)
  else match mustP s [120] i with
    | .error e => .error e
    | .ok j => if hexN (hereB s j) < 0 ∨ (1 < hexN (hereB s j) ∧ hexN (hereB s j) < 7) then .error j
      else if hexN (hereB s (j + 1)) < 0 ∨ (hexN (hereB s j) = 7 ∧ hexN (hereB s (j + 1)) < 15) then .error (j + 1)
      else .ok (UInt8.ofNat ((hexN (hereB s j) * 16 + hexN (hereB s (j + 1))).toNat), j + 2)
theorem hex_lt {s : List UInt8} {i : Nat} (h : 0 ≤ hexN (hereB s i)) : i < s.length := by
  refine here_lt (fun e => ?_)
  rw [e, hexN_0] at h
  omega
theorem u8_c {c d : UInt8} {n : Int} (hn : n = (d.toNat : Int)) : ((c.toNat : Int) == n) = decide (c = d) := by
  subst hn
  rw [eqI]
  refine decide_eq_decide.2 ⟨fun h => UInt8.toNat_inj.1 (by omega), fun h => by rw [h]⟩
theorem esc_spec {h : Heap} {Q : Value ⊕ Int → Heap → Prop} {b i : Nat} {s : List UInt8} (R : Rd h b s i)
    (H1 : ∀ (c : UInt8) j h', escP s i = .ok (c, j) → Kb b h h' → Rd h' b s j → Q (.inr (c.toNat : Int)) h') (H2 : ∀ e h', escP s i = .error e → Kb b h h' → Q (.inl (wrongV e)) h') : (value_reader_escaped (some ⟨b, 0, none⟩)).wp h Q := by
  unfold value_reader_escaped
  refine bind_w (here_spec R ?_)
  rw [u8_c (d := 39) (n := 39) rfl, u8_c (d := 92) (n := 92) rfl]
  refine or_b (c := decide (hereB s i = 92)) (fun _ Q' hq => pure_w hq) ?_
  refine ite_w (fun hc => ?_) (fun hc => ?_)
  · rw [Bool.or_eq_true, decide_eq_true_iff, decide_eq_true_iff] at hc
    have hi : i < s.length := here_lt (by rcases hc with h | h <;> (rw [h]; decide))
    refine adv_b R hi (fun h1 u1 R1 => pure_w (H1 _ _ _ ?_ (Km.upd u1 rfl) R1))
    unfold escP
    rw [if_pos hc]
  · have hc' : ¬ (hereB s i = 39 ∨ hereB s i = 92) := by
      intro hh
      rw [← decide_eq_true_iff (p := hereB s i = 39), ← decide_eq_true_iff (p := hereB s i = 92), ← Bool.or_eq_true, hc] at hh
      cases hh
    refine thr_w (must_spec (lit := [120]) R (by decide) (fun j h1 hj K1 R1 => ?_) (fun e h1 hj K1 => ?_))
    · have hE : escP s i = if hexN (hereB s j) < 0 ∨ (1 < hexN (hereB s j) ∧ hexN (hereB s j) < 7) then .error j
          else if hexN (hereB s (j + 1)) < 0 ∨ (hexN (hereB s j) = 7 ∧ hexN (hereB s (j + 1)) < 15) then .error (j + 1)
          else .ok (UInt8.ofNat ((hexN (hereB s j) * 16 + hexN (hereB s (j + 1))).toNat), j + 2) := by
        unfold escP
        rw [if_neg hc', hj]
      refine bind_w (here_spec R1 (bind_w (hex_spec ?_)))
      refine nilP_b (nilP_b (rdI_b R1 (rdS_b R1 ?_)))
      have hbad : (hexN (hereB s j) < 0 ∨ (1 < hexN (hereB s j) ∧ hexN (hereB s j) < 7)) → (value_reader_escaped_j4 (some ⟨b, 0, none⟩) (hexN (hereB s j)) true).wp h1 Q := fun hb => by
        unfold value_reader_escaped_j4
        rw [if_pos hb] at hE
        exact iteT rfl (fail_spec R1 (H2 _ _ hE K1))
      have hgood : ¬ (hexN (hereB s j) < 0 ∨ (1 < hexN (hereB s j) ∧ hexN (hereB s j) < 7)) → (value_reader_escaped_j4 (some ⟨b, 0, none⟩) (hexN (hereB s j)) false).wp h1 Q := fun hb => by
        unfold value_reader_escaped_j4 value_reader_escaped_j1
        rw [if_neg hb] at hE
        have hjl : j < s.length := hex_lt (by omega)
        refine iteF rfl (adv_b R1 hjl (fun h2 u2 R2 => ?_))
        have K2 : Kb b h h2 := K1.trans (Km.upd u2 rfl)
        refine bind_w (here_spec R2 (bind_w (hex_spec ?_)))
        refine nilP_b (nilP_b (rdI_b R2 (rdS_b R2 ?_)))
        have hbad2 : (hexN (hereB s (j + 1)) < 0 ∨ (hexN (hereB s j) = 7 ∧ hexN (hereB s (j + 1)) < 15)) → (value_reader_escaped_j3 (some ⟨b, 0, none⟩) (hexN (hereB s j)) (hexN (hereB s (j + 1))) true).wp h2 Q := fun hb => by
          unfold value_reader_escaped_j3
          rw [if_pos hb] at hE
          exact iteT rfl (fail_spec R2 (H2 _ _ hE K2))
        have hgood2 : ¬ (hexN (hereB s (j + 1)) < 0 ∨ (hexN (hereB s j) = 7 ∧ hexN (hereB s (j + 1)) < 15)) → (value_reader_escaped_j3 (some ⟨b, 0, none⟩) (hexN (hereB s j)) (hexN (hereB s (j + 1))) false).wp h2 Q := fun hb2 => by
          unfold value_reader_escaped_j3 value_reader_escaped_j2
          rw [if_neg hb2] at hE
          have hjl2 : j + 1 < s.length := hex_lt (by omega)
          refine iteF rfl (adv_b R2 hjl2 (fun h3 u3 R3 => pure_w ?_))
          rw [hexb (by omega) (hexN_le _) (by omega) (hexN_le _)]
          exact H1 _ _ _ hE (K2.trans (Km.upd u3 rfl)) R3
        refine ite_w (fun hge => ?_) (fun hlt => ?_)
        · refine hbad2 (.inl ?_)
          have hge := of_decide_eq_true hge
          rw [bs_size] at hge
          have : hereB s (j + 1) = 0 := by unfold hereB; rw [List.getElem?_eq_none (by omega)]; rfl
          rw [this, hexN_0]; decide
        · refine ite_w (fun hn => hbad2 (.inl (of_decide_eq_true hn))) (fun hn => ?_)
          have hn := of_decide_eq_false hn
          refine ite_w (fun h7 => ?_) (fun h7 => ?_)
          · rw [eqI, decide_eq_true_iff] at h7
            by_cases h15 : hexN (hereB s (j + 1)) < 15
            · rw [decide_eq_true h15]
              exact hbad2 (.inr ⟨h7, h15⟩)
            · rw [decide_eq_false h15]
              exact hgood2 (fun hh => hh.elim hn (fun hh => h15 hh.2))
          · rw [eqI, decide_eq_false_iff_not] at h7
            exact hgood2 (fun hh => hh.elim hn (fun hh => h7 hh.1))
      refine ite_w (fun hge => ?_) (fun hlt => ?_)
      · refine hbad (.inl ?_)
        have hge := of_decide_eq_true hge
        rw [bs_size] at hge
        have : hereB s j = 0 := by unfold hereB; rw [List.getElem?_eq_none (by omega)]; rfl
        rw [this, hexN_0]; decide
      · refine ite_w (fun hn => hbad (.inl (of_decide_eq_true hn))) (fun hn => ?_)
        have hn := of_decide_eq_false hn
        refine ite_w (fun h1' => ?_) (fun h1' => ?_)
        · have h1' := of_decide_eq_true h1'
          by_cases h7 : hexN (hereB s j) < 7
          · rw [decide_eq_true h7]
            exact hbad (.inr ⟨h1', h7⟩)
          · rw [decide_eq_false h7]
            exact hgood (fun hh => hh.elim hn (fun hh => h7 hh.2))
        · have h1' := of_decide_eq_false h1'
          exact hgood (fun hh => hh.elim hn (fun hh => h1' hh.1))
    · refine H2 e h1 ?_ K1
      unfold escP
      rw [if_neg hc', hj]
theorem escP_ok {s : List UInt8} {i j : Nat} {c : UInt8} (h : escP s i = .ok (c, j)) : i < j ∧ j ≤ s.length := by
  unfold escP at h
  split at h
  · rename_i hc
    have hi : i < s.length := here_lt (by rcases hc with h | h <;> (rw [h]; decide))
    cases h
    omega
  · split at h
    · cases h
    · rename_i j' hj
      obtain ⟨h1, h2, _⟩ := mustP_ok hj
      split at h
      · cases h
      · split at h
        · cases h
        · rename_i hn
          have := hex_lt (s := s) (i := j' + 1) (by omega)
          cases h
          have : j' = i + 1 := h1
          omega
def strL (s : List UInt8) : Nat → Nat → List UInt8 → Except Nat (List UInt8 × Nat)
  | 0, i, _ => .error i
  | f + 1, i, acc =>
    if hereB s i = 39 then .ok (acc, i + 1)
    else if (hereB s i).toNat < 32 ∨ 126 < (hereB s i).toNat then .error i
    else if hereB s i = 92 then (match escP s (i + 1) with | .error e => .error e | .ok (d, j) => strL s f j (acc ++ [d]))
    else strL s f (i + 1) (acc ++ [hereB s i])
def strP (s : List UInt8) (i : Nat) : Except Nat (List UInt8 × Nat) := match mustP s [39] i with | .error e => .error e | .ok j => strL s (s.length + 1 - j) j []
theorem apByte_b {β : Type} {lo : Nat} {h : Heap} {Q : β → Heap → Prop} {r : Sl} {l : List UInt8} {c : UInt8} {f : Sl → M β} (G : Gw lo h r 1 (l.map bv)) (hle : lo ≤ h.size) (hm : l.length ≤ 1099511627776)
    (H : ∀ h' r', Gw lo h' r' 1 ((l ++ [c]).map bv) → h.size ≤ h'.size → (∀ j, j < lo → h'[j]? = h[j]?) → (f r').wp h' Q) : (bdL ty_uint8 1 #[.int .u8 (c.toNat : Int)] >>= fun x => apL ty_uint8 1 1 (#[.int .u8 0] : Array Value) r x >>= f).wp h Q := by
  refine bdL_b ?_
  have e6 := Ext.push h (.cells #[.int .u8 (c.toNat : Int)] ty_uint8)
  have g6 : (h.push (.cells #[.int .u8 (c.toNat : Int)] ty_uint8))[h.size]? = some (.cells #[.int .u8 (c.toNat : Int)] ty_uint8 (0, 0)) := get_push_eq
  generalize h.push (.cells #[.int .u8 (c.toNat : Int)] ty_uint8) = h6 at e6 g6 ⊢
  have G6 := G.ext e6
  have hrl := G6.len
  rw [List.length_map, Nat.mul_one] at hrl
  refine ap_grow (vs := l.map bv) (news := [bv c]) rfl G6 rfl (.inr ⟨_, rfl, fun j v hj => ?_⟩) (fun v hv => by simp at hv; subst hv; rfl) (by dsimp only; omega) (by dsimp only; omega) (by have := e6.size; omega) (fun h7 r7 G7 hlen7 hs7 same7 on7 => ?_)
  · rw [add_mk, Nat.zero_add, hcell_blk g6]
    rw [show (#[.int .u8 (c.toNat : Int)] : Array Value) = [bv c].toArray from rfl]
    simpa using hj
  · refine H h7 r7 (by rw [List.map_append]; exact G7) (Nat.le_trans e6.size hs7) (fun j hj => (same7 j (by have := e6.size; omega) (fun ho => by have := (G6.lt ho).2; omega)).trans (e6.same j (by omega)))
theorem str_spec {h : Heap} {Q : Value ⊕ ByteArray → Heap → Prop} {b i : Nat} {s : List UInt8} (R : Rd h b s i)
    (H1 : ∀ t j h', strP s i = .ok (t, j) → Kb b h h' → Rd h' b s j → Q (.inr (bs t)) h') (H2 : ∀ e h', strP s i = .error e → Kb b h h' → Q (.inl (wrongV e)) h') : (value_reader_str (some ⟨b, 0, none⟩)).wp h Q := by
  unfold value_reader_str
  refine thr_w (must_spec (lit := [39]) R (by decide) (fun j h1 hj K1 R1 => ?_) (fun e h1 hj K1 => ?_))
  · have hP : strP s i = strL s (s.length + 1 - j) j [] := by unfold strP; rw [hj]
    rw [hP] at H1 H2
    have hb := R1.lt
    refine M.loop_inv (fun (x : Sl) hh => ∃ (acc : List UInt8) (f i' : Nat), s.length < f + i' ∧ acc.length ≤ i' ∧ Kb b h1 hh ∧ Rd hh b s i' ∧ Gw h1.size hh x 1 (acc.map bv) ∧ strL s f i' acc = strL s (s.length + 1 - j) j [])
      (fun x _ => s.length + 1 - x.len) ?_ ⟨[], _, j, by have := R1.le; omega, Nat.zero_le _, Km.refl _ _, R1, Gw.nil _ _ _, rfl⟩
    rintro x hh ⟨acc, f, i', hf, hai, K, R', G, hm⟩ self hself
    have hsm := R'.small
    have hle := R'.le
    have hxl := G.len
    rw [List.length_map, Nat.mul_one] at hxl
    obtain ⟨f, rfl⟩ : ∃ g, f = g + 1 := ⟨f - 1, by omega⟩
    rw [strL] at hm
    unfold value_reader_str_l1
    refine bind_w (here_spec R' ?_)
    rw [show (((hereB s i').toNat : Int) != 39) = !decide (hereB s i' = 39) by rw [← u8_c (d := 39) (n := 39) rfl]; rfl]
    refine ite_w (fun hne => ?_) (fun heq => ?_)
    · have hne : hereB s i' ≠ 39 := by simpa using hne
      rw [if_neg hne] at hm
      refine bind_w (here_spec R' ?_)
      refine or_b (c := decide (((hereB s i').toNat : Int) > 126)) (fun _ Q' hq => pure_w hq) ?_
      refine ite_w (fun hbad => ?_) (fun hok => ?_)
      · rw [Bool.or_eq_true, decide_eq_true_iff, decide_eq_true_iff] at hbad
        rw [if_pos (by omega)] at hm
        exact fail_spec R' (H2 _ _ hm.symm (K1.trans K))
      · rw [Bool.or_eq_false_iff, decide_eq_false_iff_not, decide_eq_false_iff_not] at hok
        rw [if_neg (by omega)] at hm
        have hil : i' < s.length := here_lt (fun e => by rw [e] at hok; exact absurd hok.1 (by decide))
        unfold value_reader_str_j1
        refine adv_b R' hil (fun h2 u2 R2 => ?_)
        have K2 : Kb b h1 h2 := K.trans (Km.upd u2 rfl)
        have G2 : Gw h1.size h2 x 1 (acc.map bv) := G.same (fun k hk => u2.ne k (fun e => by have := (G.lt hk).2; omega))
        have hs2 : h1.size ≤ h2.size := K2.size
        have next : ∀ (c : UInt8) (i2 : Nat) (h3 : Heap), i' < i2 → Kb b h1 h3 → Rd h3 b s i2 → Gw h1.size h3 x 1 (acc.map bv) → strL s f i2 (acc ++ [c]) = strL s (s.length + 1 - j) j [] → (value_reader_str_j2 self x (c.toNat : Int)).wp h3 Q := by
          intro c i2 h3 hi2 K3 R3 G3 hm3
          unfold value_reader_str_j2
          refine apByte_b G3 K3.size (by omega) (fun h4 r4 G4 hs4 same4 => ?_)
          have hl4 := G4.len
          rw [List.length_map, List.length_append, List.length_singleton, Nat.mul_one] at hl4
          refine hself _ _ ⟨acc ++ [c], f, i2, by omega, by rw [List.length_append, List.length_singleton]; omega, ⟨Nat.le_trans K3.size hs4, fun k hk hkb => (same4 k hk).trans (K3.same k hk hkb)⟩, ⟨by rw [same4 b hb]; exact R3.blk, R3.le, R3.small⟩, G4, hm3⟩ ?_
          omega
        by_cases h92 : hereB s i' = 92
        · rw [if_pos h92] at hm
          refine iteT (by rw [u8_c (d := 92) (n := 92) rfl, decide_eq_true h92]) (thr_w (esc_spec R2 (fun c j2 h3 he K3 R3 => ?_) (fun e h3 he K3 => ?_)))
          · rw [he] at hm
            exact next c j2 h3 (by have := escP_ok he; omega) (K2.trans K3) R3 (G2.same (fun k hk => K3.same k (G2.lt hk).1 (fun e => by have := (G2.lt hk).2; omega))) hm
          · rw [he] at hm
            exact H2 _ _ hm.symm (K1.trans (K2.trans K3))
        · rw [if_neg h92] at hm
          refine iteF (by rw [u8_c (d := 92) (n := 92) rfl, decide_eq_false h92]) ?_
          exact next _ (i' + 1) h2 (by omega) K2 R2 G2 hm
    · have heq : hereB s i' = 39 := by simpa using heq
      rw [if_pos heq] at hm
      have hil : i' < s.length := here_lt (by rw [heq]; decide)
      refine adv_b R' hil (fun h2 u2 R2 => ?_)
      have G2 : Gw h1.size h2 x 1 (acc.map bv) := G.same (fun k hk => u2.ne k (fun e => by have := (G.lt hk).2; omega))
      refine b2s_b (ns := acc) hxl G2.reads (pure_w ?_)
      exact H1 _ _ _ hm.symm (K1.trans (K.trans (Km.upd u2 rfl))) R2
  · refine H2 e h1 ?_ K1
    unfold strP
    rw [hj]
end Gx
namespace Gx
open Go Go.Proofs Go.Shelf Go.RowKit Go.Lib
set_option linter.unusedVariables false
set_option linter.unusedSimpArgs false
set_option maxRecDepth 100000
def elemP (k : Int) (s : List UInt8) (i : Nat) : Except Nat (Vl × Nat) :=
  match mustP s [91] (i + 1) with
  | .error e => .error e
  | .ok j => match numF s j with
    | .error e => .error e
    | .ok (n, j2) => match mustP s [93] j2 with
      | .error e => .error e
      | .ok j3 => .ok (.mk k n [] [], j3)
def pairP (pv : Nat → Except Nat (Vl × Nat)) (two : Bool) (s : List UInt8) (i : Nat) : Except Nat (List Vl × Nat) :=
  match pv i with
  | .error e => .error e
  | .ok (v, j) => if two = true then (match mustP s [58, 32] j with
      | .error e => .error e
      | .ok j2 => match pv j2 with
        | .error e => .error e
        | .ok (w, j3) => .ok ([v, w], j3)) else .ok ([v], j)
def sepP (l : List Vl) (s : List UInt8) (i : Nat) : Except Nat Nat := if l.length = 0 then .ok i else mustP s [44, 32] i
def listP (pv : Nat → Except Nat (Vl × Nat)) (en : UInt8) (two : Bool) (s : List UInt8) : Nat → List Vl → Nat → Except Nat (List Vl × Nat)
  | 0, _, i => .error i
  | f + 1, l, i => if hereB s i = en then .ok (l, i + 1) else
    match sepP l s i with
    | .error e => .error e
    | .ok i1 => match pairP pv two s i1 with
      | .error e => .error e
      | .ok (vs, i2) => if hereB s i2 ≠ en ∧ hereB s i2 ≠ 44 then .error i2 else listP pv en two s f (l ++ vs) i2
def pval (s : List UInt8) : Nat → Nat → Except Nat (Vl × Nat)
  | 0, i => .error i
  | d + 1, i =>
    if hereB s i = 45 ∨ digB (hereB s i) = true then (match numF s i with | .error e => .error e | .ok (n, j) => .ok (.mk 1 n [] [], j))
    else if hereB s i = 39 then (match strP s i with | .error e => .error e | .ok (t, j) => .ok (.mk 2 0 t [], j))
    else if hereB s i = 116 then (match mustP s [116, 114, 117, 101] i with | .error e => .error e | .ok j => .ok (.mk 3 1 [] [], j))
    else if hereB s i = 102 then (match mustP s [102, 97, 108, 115, 101] i with | .error e => .error e | .ok j => .ok (.mk 3 0 [] [], j))
    else if hereB s i = 118 then elemP 6 s i
    else if hereB s i = 101 then elemP 7 s i
    else if hereB s i = 91 then (match listP (pval s d) 93 false s (s.length - i) [] (i + 1) with | .error e => .error e | .ok (l, j) => .ok (.mk 4 0 [] l, j))
    else if hereB s i = 123 then (match listP (pval s d) 125 true s (s.length - i) [] (i + 1) with | .error e => .error e | .ok (l, j) => .ok (.mk 5 0 [] l, j))
    else .error i
theorem parseB_i64 {t : List UInt8} {n : Int} (h : Lib.parseIntB 64 t = .ok n) : I64 n := by
  unfold parseIntB at h
  split at h
  · cases h
  · dsimp only at h
    split at h
    · cases h
    · cases h
    · split at h
      · cases h
      · split at h
        · cases h
        · rename_i u _ h1 h2
          cases h
          have e63 : (2 : Nat) ^ (64 - 1) = 9223372036854775808 := by decide
          rw [e63] at h1 h2
          unfold I64
          split <;> rename_i h3 <;> (simp only [h3, not_true_eq_false, not_false_eq_true, true_and, false_and] at h1 h2; omega)
theorem numP_i64 {t : List UInt8} (h : (numP t).2 = 0) : I64 (numP t).1 := by
  unfold numP at h ⊢
  split
  · rename_i h1; rw [if_pos h1] at h; exact absurd h (by decide)
  · rename_i h1
    rw [if_neg h1] at h
    split
    · rename_i h2; rw [if_pos h2] at h; exact absurd h (by decide)
    · rename_i h2
      rw [if_neg h2] at h
      split
      · rename_i h3; rw [if_pos h3] at h; exact absurd h (by decide)
      · rename_i h3
        rw [if_neg h3] at h
        split
        · rename_i n hn; exact parseB_i64 hn
        · rename_i hne
          exfalso
          revert h
          split
          · rename_i n hn; exact absurd hn (hne n)
          · decide
theorem numL_ok {s : List UInt8} {fr : Nat} : ∀ {f i : Nat} {n m : Int} {j : Nat}, numL s fr f i n = .ok (m, j) → I64 n → i ≤ s.length → I64 m ∧ i ≤ j ∧ j ≤ s.length
  | 0, i, n, m, j, h, hn, hi => by cases h; exact ⟨hn, Nat.le_refl _, hi⟩
  | f + 1, i, n, m, j, h, hn, hi => by
    rw [numL] at h
    split at h
    · rename_i hd
      have hil := dig_lt hd
      split at h
      · cases h
      · split at h
        · cases h; exact ⟨hn, Nat.le_refl _, hi⟩
        · rename_i h0
          have := numL_ok h (numP_i64 (Classical.not_not.1 h0)) (by omega)
          exact ⟨this.1, by omega, this.2.2⟩
    · cases h; exact ⟨hn, Nat.le_refl _, hi⟩
theorem dig_first : ∀ n : Fin 256, digB (UInt8.ofNat n.val) = true → (numP [UInt8.ofNat n.val]).2 = 0 ∧ (UInt8.ofNat n.val ≠ 48 → (numP [45, UInt8.ofNat n.val]).2 = 0) := by decide +kernel
theorem dig_first' {c : UInt8} (h : digB c = true) : (numP [c]).2 = 0 ∧ (c ≠ 48 → (numP [45, c]).2 = 0) := by
  have := dig_first ⟨c.toNat, c.toNat_lt⟩
  simp only [UInt8.ofNat_toNat] at this
  exact this h
theorem numF_ok {s : List UInt8} {i j : Nat} {n : Int} (h : numF s i = .ok (n, j)) (hi : i ≤ s.length) : I64 n ∧ i < j ∧ j ≤ s.length := by
  unfold numF at h
  split at h
  · cases h
  · rename_i hb
    have hd : digB (hereB s (numJ s i)) = true := by
      cases hh : digB (hereB s (numJ s i)) with
      | true => rfl
      | false => exact absurd (.inl hh) hb
    have hil := dig_lt hd
    have hij : i ≤ numJ s i := by unfold numJ; split <;> omega
    rw [show s.length - numJ s i = (s.length - (numJ s i + 1)) + 1 by omega, numL, if_pos hd] at h
    have ht : (numP ((s.drop i).take (numJ s i + 1 - i))).2 = 0 := by
      by_cases h45 : hereB s i = 45
      · have hJ : numJ s i = i + 1 := by unfold numJ; rw [if_pos h45]
        rw [hJ] at hb hd hil ⊢
        have h2 : (s.drop i).take (i + 1 + 1 - i) = [45, hereB s (i + 1)] := by
          rw [show i + 1 + 1 - i = 2 by omega, List.drop_eq_getElem_cons (by omega), List.drop_eq_getElem_cons hil]
          rw [here_get hil, ← h45, here_get (by omega)]
          rfl
        rw [h2]
        exact (dig_first' hd).2 (fun e => hb (.inr ⟨by omega, e⟩))
      · have hJ : numJ s i = i := by unfold numJ; rw [if_neg h45]
        rw [hJ] at hd hil ⊢
        have h2 : (s.drop i).take (i + 1 - i) = [hereB s i] := by
          rw [show i + 1 - i = 1 by omega, List.drop_eq_getElem_cons hil, here_get hil]
          rfl
        rw [h2]
        exact (dig_first' hd).1
    rw [if_neg (by rw [ht]; decide), if_neg (by rw [ht]; exact fun h => h rfl)] at h
    have := numL_ok h (numP_i64 ht) (by omega)
    exact ⟨this.1, by omega, this.2.2⟩
theorem strL_ok {s : List UInt8} : ∀ {f i : Nat} {acc t : List UInt8} {j : Nat}, strL s f i acc = .ok (t, j) → i < j ∧ j ≤ s.length ∧ t.length + i ≤ acc.length + j
  | 0, i, acc, t, j, h => by cases h
  | f + 1, i, acc, t, j, h => by
    rw [strL] at h
    split at h
    · rename_i h39
      have := here_lt (s := s) (i := i) (by rw [h39]; decide)
      cases h
      omega
    · split at h
      · cases h
      · split at h
        · split at h
          · cases h
          · rename_i d j2 he
            have h1 := escP_ok he
            have h2 := strL_ok h
            rw [List.length_append, List.length_singleton] at h2
            omega
        · have h2 := strL_ok h
          rw [List.length_append, List.length_singleton] at h2
          omega
theorem strP_ok {s : List UInt8} {i j : Nat} {t : List UInt8} (h : strP s i = .ok (t, j)) : i < j ∧ j ≤ s.length ∧ t.length ≤ s.length := by
  unfold strP at h
  split at h
  · cases h
  · rename_i j1 hj
    have h1 := (mustP_ok hj).1
    have h2 := strL_ok h
    rw [List.length_nil] at h2
    omega
theorem elemP_ok {s : List UInt8} {i j : Nat} {k : Int} {v : Vl} (h : elemP k s i = .ok (v, j)) : ∃ n, v = .mk k n [] [] ∧ I64 n ∧ i < j ∧ j ≤ s.length := by
  unfold elemP at h
  split at h
  · cases h
  · rename_i j1 h1
    split at h
    · cases h
    · rename_i n j2 h2
      split at h
      · cases h
      · rename_i j3 h3
        cases h
        have a1 := mustP_ok h1
        have a2 := numF_ok h2 (a1.2.1 (by simp))
        have a3 := mustP_ok h3
        have b1 : j1 = i + 1 + 1 := a1.1
        have b3 : j = j2 + 1 := a3.1
        exact ⟨n, rfl, a2.1, by omega, a3.2.1 (by simp)⟩
def Prog (s : List UInt8) (pv : Nat → Except Nat (Vl × Nat)) : Prop := ∀ i v j, pv i = .ok (v, j) → i < j ∧ j ≤ s.length
theorem pairP_ok {s : List UInt8} {pv : Nat → Except Nat (Vl × Nat)} (hp : Prog s pv) {two : Bool} {i j : Nat} {vs : List Vl} (h : pairP pv two s i = .ok (vs, j)) : i + vs.length ≤ j ∧ 0 < vs.length ∧ j ≤ s.length := by
  unfold pairP at h
  split at h
  · cases h
  · rename_i v j1 h1
    have a1 := hp _ _ _ h1
    split at h
    · split at h
      · cases h
      · rename_i j2 h2
        have a2 : j2 = j1 + 2 := (mustP_ok h2).1
        split at h
        · cases h
        · rename_i w j3 h3
          have a3 := hp _ _ _ h3
          cases h
          simp only [List.length_cons, List.length_nil]
          omega
    · cases h
      simp only [List.length_cons, List.length_nil]
      omega
theorem sepP_ok {l : List Vl} {s : List UInt8} {i j : Nat} (h : sepP l s i = .ok j) : i ≤ j := by
  unfold sepP at h
  split at h
  · cases h; exact Nat.le_refl _
  · have : j = i + 2 := (mustP_ok h).1
    omega
theorem listP_ok {s : List UInt8} {pv : Nat → Except Nat (Vl × Nat)} (hp : Prog s pv) {en : UInt8} (he : en ≠ 0) {two : Bool} : ∀ {f i : Nat} {l t : List Vl} {j : Nat}, listP pv en two s f l i = .ok (t, j) → i < j ∧ j ≤ s.length ∧ t.length + i ≤ l.length + j
  | 0, i, l, t, j, h => by cases h
  | f + 1, i, l, t, j, h => by
    rw [listP] at h
    split at h
    · rename_i hh
      have := here_lt (s := s) (i := i) (by rw [hh]; exact he)
      cases h
      omega
    · split at h
      · cases h
      · rename_i i1 h1
        have a1 := sepP_ok h1
        split at h
        · cases h
        · rename_i vs i2 h2
          have a2 := pairP_ok hp h2
          split at h
          · cases h
          · have := listP_ok hp he h
            rw [List.length_append] at this
            omega
theorem pval_ok (s : List UInt8) : ∀ d, Prog s (pval s d)
  | 0 => fun i v j h => by cases h
  | d + 1 => fun i v j h => by
    have ih := pval_ok s d
    rw [pval] at h
    split at h
    · rename_i hc
      have hi : i < s.length := here_lt (fun e => by rw [e] at hc; exact absurd hc (by decide))
      split at h
      · cases h
      · rename_i n j1 h1
        cases h
        exact (numF_ok h1 (by omega)).2
    · split at h
      · split at h
        · cases h
        · rename_i t j1 h1
          cases h
          exact ⟨(strP_ok h1).1, (strP_ok h1).2.1⟩
      · split at h
        · split at h
          · cases h
          · rename_i j1 h1
            cases h
            have a := mustP_ok h1
            have a1 : j = i + 4 := a.1
            exact ⟨by omega, a.2.1 (by simp)⟩
        · split at h
          · split at h
            · cases h
            · rename_i j1 h1
              cases h
              have a := mustP_ok h1
              have a1 : j = i + 5 := a.1
              exact ⟨by omega, a.2.1 (by simp)⟩
          · split at h
            · obtain ⟨n, _, _, h3⟩ := elemP_ok h
              exact h3
            · split at h
              · obtain ⟨n, _, _, h3⟩ := elemP_ok h
                exact h3
              · split at h
                · split at h
                  · cases h
                  · rename_i l j1 h1
                    have a := listP_ok ih (by decide) h1
                    cases h
                    omega
                · split at h
                  · split at h
                    · cases h
                    · rename_i l j1 h1
                      have a := listP_ok ih (by decide) h1
                      cases h
                      omega
                  · cases h
end Gx
