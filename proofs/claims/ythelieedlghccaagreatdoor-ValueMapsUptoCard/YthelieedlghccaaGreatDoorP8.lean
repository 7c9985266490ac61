/- Own proofs: what those Lean programs compute. No condition. -/
import Derived.Test.YthelieedlghccaaGreatDoorP0
import Derived.Test.YthelieedlghccaaGreatDoorP1
import Derived.Test.YthelieedlghccaaGreatDoorP2
import Derived.Test.YthelieedlghccaaGreatDoorP3
import Derived.Test.YthelieedlghccaaGreatDoorP4
import Derived.Test.YthelieedlghccaaGreatDoorP5
import Derived.Test.YthelieedlghccaaGreatDoorP6
import Derived.Test.YthelieedlghccaaGreatDoorP7
import Derived.Test.YthelieedlghccaaGreatDoorTie
import Derived.KernelRfl
import Derived.ChangeArms
import Derived.DataReads
set_option linter.unusedVariables false
set_option linter.unusedSimpArgs false
namespace Gx
open Go
set_option linter.unusedVariables false
set_option linter.unusedSimpArgs false
abbrev bs (l : List UInt8) : ByteArray:=⟨l.toArray⟩
inductive Vl where
  | mk (k n : Int) (s : List UInt8) (l : List Vl)
instance : Inhabited Vl:=⟨.mk 0 0 [] []⟩
def I64 (n : Int) : Prop:=-9223372036854775808 ≤ n ∧ n ≤ 9223372036854775807
def vcells (k n : Int) (s : List UInt8) (x : Sl) : Array Value:=#[.int .i64 k,.int .i64 n,.string (bs s),x.v]
mutual
def VRep (h : Heap) : Vl → Array Value → Prop
  | .mk k n s l,cs=>∃ x : Sl,cs = vcells k n s x ∧ I64 k ∧ I64 n ∧ s.length ≤ 9223372036854775807 ∧ (x.len = l.length ∧ x.len ≤ x.cap ∧ x.len ≤ 9223372036854775807 ∧ VsAt h l x.base 0)
def VsAt (h : Heap) : List Vl → Option Addr → Nat → Prop
  | [],_,_=>True
  | v :: l,b,i=>(∃ a cs,b = some a ∧ cs.size = 4 ∧ (∀ j,j < 4 → hcell h (a.add (i * 4 + j)) = cs[j]?) ∧ VRep h v cs) ∧ VsAt h l b (i + 1)
end
structure VsRep (h : Heap) (x : Sl) (l : List Vl) : Prop where
  len : x.len = l.length
  cap : x.len ≤ x.cap
  big : x.len ≤ 9223372036854775807
  at_ : VsAt h l x.base 0
theorem VRep.eq {h : Heap} {k n : Int} {s : List UInt8} {l : List Vl} {cs : Array Value} : VRep h (.mk k n s l) cs ↔ ∃ x : Sl,cs = vcells k n s x ∧ I64 k ∧ I64 n ∧ s.length ≤ 9223372036854775807 ∧ VsRep h x l:=by
  rw [VRep]
  constructor
  · rintro ⟨x,h1,h2,h3,h4,h5,h6,h7,h8⟩; exact ⟨x,h1,h2,h3,h4,h5,h6,h7,h8⟩
  · rintro ⟨x,h1,h2,h3,h4,h5,h6,h7,h8⟩; exact ⟨x,h1,h2,h3,h4,h5,h6,h7,h8⟩
theorem VRep.size {h : Heap} : ∀ {v : Vl} {cs : Array Value},VRep h v cs → cs.size = 4
  | .mk _ _ _ _,cs,H=>by obtain ⟨x,rfl,_⟩:=VRep.eq.1 H; rfl
theorem VRep.one {h : Heap} : ∀ {v : Vl} {cs : Array Value},VRep h v cs → ∀ u ∈ cs.toList,Gx.one u = true
  | .mk _ _ _ _,cs,H=>by
    obtain ⟨x,rfl,_⟩:=VRep.eq.1 H
    intro u hu
    simp only [vcells,List.mem_cons,List.not_mem_nil,or_false] at hu
    rcases hu with rfl | rfl | rfl | rfl <;> first | rfl | exact one_v _
theorem VsAt.get {h : Heap} : ∀ {l : List Vl} {b : Option Addr} {i : Nat},VsAt h l b i → ∀ {j : Nat} (hj : j < l.length),∃ a cs,b = some a ∧ cs.size = 4 ∧ (∀ m,m < 4 → hcell h (a.add ((i + j) * 4 + m)) = cs[m]?) ∧ VRep h l[j] cs
  | [],_,_,_,j,hj=>by simp at hj
  | v :: l,b,i,H,0,hj=>by rw [VsAt] at H; exact H.1
  | v :: l,b,i,H,j + 1,hj=>by
    rw [VsAt] at H
    have:=VsAt.get H.2 (j:=j) (by simpa using hj)
    rw [show i + (j + 1) = i + 1 + j by omega]
    exact this
theorem VsAt.of {h : Heap} : ∀ {l : List Vl} {b : Option Addr} {i : Nat},(∀ j (hj : j < l.length),∃ a cs,b = some a ∧ cs.size = 4 ∧ (∀ m,m < 4 → hcell h (a.add ((i + j) * 4 + m)) = cs[m]?) ∧ VRep h l[j] cs) → VsAt h l b i
  | [],_,_,_=>by rw [VsAt]; trivial
  | v :: l,b,i,H=>by
    rw [VsAt]
    refine ⟨H 0 (by simp),VsAt.of (fun j hj=>?_)⟩
    have:=H (j + 1) (by simpa using hj)
    rw [show i + 1 + j = i + (j + 1) by omega]
    exact this
theorem VsRep.get {h : Heap} {x : Sl} {l : List Vl} (H : VsRep h x l) {j : Nat} (hj : j < l.length) : ∃ a cs,x.base = some a ∧ cs.size = 4 ∧ (∀ m,m < 4 → hcell h (a.add (j * 4 + m)) = cs[m]?) ∧ VRep h l[j] cs:=by
  have:=H.at_.get hj
  rw [Nat.zero_add] at this
  exact this
theorem Ext.row {h h' : Heap} (e : Ext h h') {a : Addr} {cs : Array Value} {i n : Nat} (hs : cs.size = n) (H : ∀ m,m < n → hcell h (a.add (i + m)) = cs[m]?) : ∀ m,m < n → hcell h' (a.add (i + m)) = cs[m]?:=fun m hm=>by
  have h1 : cs[m]? = some (cs[m]'(by omega)):=Array.getElem?_eq_getElem (by omega)
  rw [h1]
  exact e.cell (by rw [H m hm,h1])
theorem vrep_ext {h h' : Heap} (e : Ext h h') : ∀ (m : Nat) (v : Vl) (cs : Array Value),sizeOf v < m → VRep h v cs → VRep h' v cs:=by
  intro m
  induction m with
  | zero=>intro v cs hm; omega
  | succ m ih =>
    rintro ⟨k,n,s,l⟩ cs hm H
    obtain ⟨x,h1,h2,h3,h4,h5⟩:=VRep.eq.1 H
    refine VRep.eq.2 ⟨x,h1,h2,h3,h4,h5.len,h5.cap,h5.big,VsAt.of (fun j hj=>?_)⟩
    obtain ⟨a,cs',ha,hs,hc,hv⟩:=h5.at_.get hj
    refine ⟨a,cs',ha,hs,e.row hs hc,ih _ _ ?_ hv⟩
    have:=List.sizeOf_lt_of_mem (List.getElem_mem hj)
    simp only [Vl.mk.sizeOf_spec] at hm
    omega
theorem VRep.ext {h h' : Heap} {v : Vl} {cs : Array Value} (H : VRep h v cs) (e : Ext h h') : VRep h' v cs:=vrep_ext e _ v cs (Nat.lt_succ_self _) H
theorem VsRep.ext {h h' : Heap} {x : Sl} {l : List Vl} (H : VsRep h x l) (e : Ext h h') : VsRep h' x l :=
  ⟨H.len,H.cap,H.big,VsAt.of (fun j hj=>by
    obtain ⟨a,cs',ha,hs,hc,hv⟩:=H.at_.get hj
    exact ⟨a,cs',ha,hs,e.row hs hc,hv.ext e⟩)⟩
theorem VsRep.nil (h : Heap) : VsRep h Sl.nil []:=⟨rfl,Nat.le_refl _,by decide,by rw [VsAt]; trivial⟩
def cmpI (a b : Int) : Int:=if a < b then -1 else if b < a then 1 else 0
def cOr (a b : Int) : Int:=if a = 0 then b else a
mutual
def cmpV : Vl → Vl → Int
  | .mk k n s l,.mk k' n' s' l'=>cOr (cmpI k k') (cOr (cmpI n n') (cOr (Lib.compareBytes s s') (cmpVs l l')))
def cmpVs : List Vl → List Vl → Int
  | [],[]=>0
  | [],_ :: _=>-1
  | _ :: _,[]=>1
  | a :: l,b :: l'=>cOr (cmpV a b) (cmpVs l l')
end
theorem mkV_b {β : Type} {t : TypeId} {h : Heap} {Q : β → Heap → Prop} {cs : Array Value} {f : Addr → M β} (H : ∀ h',Ext h h' → h'.size = h.size + 1 → h'[h.size]? = some (.cells cs t (0,0)) → (f ⟨h.size,0,none⟩).wp h' Q) : (mkB t cs >>= f).wp h Q :=
  mkB_b (H _ (Ext.push _ _) (by simp) get_push_eq)
theorem blk_cell {h : Heap} {b i : Nat} {cs : Array Value} {t : TypeId} {z : Nat × Nat} (hb : h[b]? = some (.cells cs t z)) : hcell h ((⟨b,0,none⟩ : Addr).add i) = cs[i]?:=by
  rw [add_mk,Nat.zero_add,hcell_blk hb]
theorem ccompare_spec {a b : Int} {h : Heap} {Q : Int → Heap → Prop} (H : Q (cmpI a b) h) : (cmp_Compare_int a b).wp h Q:=by
  unfold cmp_Compare_int cmp_isNaN_int
  refine pure_b (pure_b (iteF (by simp) (iteF (by simp) ?_)))
  unfold cmpI at H
  refine ite_w (fun hc=>?_) (fun hc=>?_)
  · rw [if_pos (of_decide_eq_true hc)] at H; exact H
  · rw [if_neg (of_decide_eq_false hc)] at H
    refine ite_w (fun hc=>?_) (fun hc=>?_)
    · rw [if_pos (of_decide_eq_true hc)] at H; exact H
    · rw [if_neg (of_decide_eq_false hc)] at H; exact H
theorem ccompare64_spec {a b : Int} {h : Heap} {Q : Int → Heap → Prop} (H : Q (cmpI a b) h) : (cmp_Compare_int64 a b).wp h Q:=by
  unfold cmp_Compare_int64 cmp_isNaN_int64
  refine pure_b (pure_b (iteF (by simp) (iteF (by simp) ?_)))
  unfold cmpI at H
  refine ite_w (fun hc=>?_) (fun hc=>?_)
  · rw [if_pos (of_decide_eq_true hc)] at H; exact H
  · rw [if_neg (of_decide_eq_false hc)] at H
    refine ite_w (fun hc=>?_) (fun hc=>?_)
    · rw [if_pos (of_decide_eq_true hc)] at H; exact H
    · rw [if_neg (of_decide_eq_false hc)] at H; exact H
def cOrs : List Int → Int
  | []=>0
  | a :: l=>cOr a (cOrs l)
theorem cor_spec {t : TypeId} {b n : Nat} {zs : List Int} {h : Heap} {Q : Int → Heap → Prop} (hb : h[b]? = some (.cells (zs.map (Value.int .i64)).toArray t (0,0))) (hn : n = zs.length) (hz : zs.length ≤ 1000) (H : Q (cOrs zs) h) : (cmp_Or_int ⟨some ⟨b,0,none⟩,n,n⟩).wp h Q:=by
  subst hn
  unfold cmp_Or_int
  refine M.loop_inv (fun (t : Int) h'=>h' = h ∧ ∃ i : Nat,t = (i : Int) ∧ i ≤ zs.length ∧ cOrs (zs.drop i) = cOrs zs) (fun t _=>((zs.length : Int) - t).toNat) ?_ ⟨rfl,0,rfl,Nat.zero_le _,by simp⟩
  rintro t h' ⟨rfl,i,rfl,hi,hd⟩ self hself
  unfold cmp_Or_int_l1
  refine ite_w (fun hc=>?_) (fun hc=>?_)
  · have hlt : i < zs.length:=by have:=of_decide_eq_true hc; dsimp only at this; omega
    refine ixL_b (by omega) (by dsimp only; omega) rfl ?_
    refine ldI_b (n:=zs[i]) (by rw [show (i : Int).toNat * 1 = i by omega,blk_cell hb]; simp [hlt]) ?_
    rw [List.drop_eq_getElem_cons hlt,cOrs] at hd
    refine ite_w (fun hne=>?_) (fun heq=>?_)
    · have hne : zs[i] ≠ 0:=by simpa using hne
      rw [cOr,if_neg hne] at hd
      rw [← hd] at H
      exact pure_w H
    · have heq : zs[i] = 0:=by simpa using heq
      rw [cOr,if_pos heq] at hd
      rw [w64 (by omega) (by omega)]
      exact hself _ _ ⟨rfl,i + 1,by simp,by omega,hd⟩ (by omega)
  · have hge : i = zs.length:=by have:=of_decide_eq_false hc; dsimp only at this; omega
    subst hge
    rw [List.drop_length] at hd
    have hd : (0 : Int) = cOrs zs:=hd
    rw [← hd] at H
    exact pure_w H
theorem comparefunc_spec {l l' : List Vl} {h : Heap} {Q : Int → Heap → Prop} {x y : Sl} {g : Value} (hx : VsRep h x l) (hy : VsRep h y l')
    (hg : ∀ j (hj : j < l.length) (hj' : j < l'.length) h1 c c' (Q1 : Int → Heap → Prop),Ext h h1 → VRep h1 l[j] c → VRep h1 l'[j] c' → (∀ h2,Ext h1 h2 → Q1 (cmpV l[j] l'[j]) h2) → (callV Go.Proofs.Tryz.prog (fun r : Int=>.int .i64 r) g [.agg c,.agg c']).wp h1 Q1)
    (H : ∀ h',Ext h h' → Q (cmpVs l l') h') : (slices_CompareFunc_slapi_Value_slapi_Value_api_Value_api_Value x y g).wp h Q:=by
  unfold slices_CompareFunc_slapi_Value_slapi_Value_api_Value_api_Value
  have hxl:=hx.len
  have hyl:=hy.len
  have hxb:=hx.big
  have hyb:=hy.big
  have hxc:=hx.cap
  have hyc:=hy.cap
  refine M.loop_inv (fun (t : Int) h'=>Ext h h' ∧ ∃ i : Nat,t = (i : Int) ∧ i ≤ l.length ∧ i ≤ l'.length ∧ cmpVs (l.drop i) (l'.drop i) = cmpVs l l') (fun t _=>((l.length : Int) - t).toNat) ?_ ⟨Ext.refl h,0,rfl,Nat.zero_le _,Nat.zero_le _,by simp⟩
  rintro t h' ⟨E,i,rfl,hi,hi',hd⟩ self hself
  unfold slices_CompareFunc_slapi_Value_slapi_Value_api_Value_api_Value_l1
  rw [hxl,hyl]
  refine ite_w (fun hc=>?_) (fun hc=>?_)
  · have hlt : i < l.length:=by have:=of_decide_eq_true hc; omega
    obtain ⟨a,c,ha,hs,hcs,hv⟩:=(hx.ext E).get hlt
    refine ixL_b (by omega) (by rw [hxl]; omega) ha (ldG_b hs (fun j hj=>by rw [Addr.add_add,show (i : Int).toNat * 4 = i * 4 by omega]; exact hcs j hj) (mkV_b (fun h1 e1 s1 g1=>?_)))
    refine need_b hs (stR (vs:=c) g1 (by rw [hs]; decide) hv.one (fun h2 u2 g2=>?_))
    have E2 : Ext h' h2:=e1.upd u2 (Nat.le_refl _)
    rw [lay_full (by rw [Array.length_toList,hs]; rfl),Array.toArray_toList] at g2
    refine ite_w (fun hge=>?_) (fun hlt'=>?_)
    · have hge : i = l'.length:=by have:=of_decide_eq_true hge; omega
      subst hge
      rw [List.drop_length,List.drop_eq_getElem_cons hlt,cmpVs] at hd
      have:=H _ (E.trans E2)
      rw [← hd] at this
      exact pure_w this
    · have hlt' : i < l'.length:=by have:=of_decide_eq_false hlt'; omega
      obtain ⟨a',c',ha',hs',hcs',hv'⟩:=(hy.ext (E.trans E2)).get hlt'
      refine ixL_b (by omega) (by rw [hyl]; omega) ha' (ldG_b hs' (fun j hj=>by rw [Addr.add_add,show (i : Int).toNat * 4 = i * 4 by omega]; exact hcs' j hj) (mkV_b (fun h3 e3 s3 g3=>?_)))
      refine need_b hs' (stR (vs:=c') g3 (by rw [hs']; decide) hv'.one (fun h4 u4 g4=>?_))
      have E4 : Ext h2 h4:=e3.upd u4 (Nat.le_refl _)
      rw [lay_full (by rw [Array.length_toList,hs']; rfl),Array.toArray_toList] at g4
      have g2':=E4.blk g2
      refine ldG_b hs (fun j hj=>by rw [blk_cell g2']) (ldG_b hs' (fun j hj=>by rw [blk_cell g4]) ?_)
      have E':=(E.trans E2).trans E4
      refine bind_w (hg i hlt hlt' h4 c c' _ E' ((hv.ext E2).ext E4) (hv'.ext E4) (fun h5 e5=>?_))
      rw [List.drop_eq_getElem_cons hlt,List.drop_eq_getElem_cons hlt',cmpVs] at hd
      refine ite_w (fun hne=>?_) (fun heq=>?_)
      · have hne : cmpV l[i] l'[i] ≠ 0:=by simpa using hne
        rw [cOr,if_neg hne] at hd
        rw [hd]
        exact pure_w (H _ (E'.trans e5))
      · have heq : cmpV l[i] l'[i] = 0:=by simpa using heq
        rw [cOr,if_pos heq] at hd
        rw [w64 (by omega) (by omega)]
        exact hself _ _ ⟨E'.trans e5,i + 1,by simp,by omega,by omega,hd⟩ (by omega)
  · have hge : i = l.length:=by have:=of_decide_eq_false hc; omega
    subst hge
    rw [List.drop_length] at hd
    refine ite_w (fun hlt=>?_) (fun hge=>?_)
    · have hlt : l.length < l'.length:=by have:=of_decide_eq_true hlt; omega
      rw [List.drop_eq_getElem_cons hlt,cmpVs] at hd
      have:=H _ E
      rw [← hd] at this
      exact pure_w this
    · have hge : l'.length = l.length:=by have:=of_decide_eq_false hge; omega
      rw [← hge,List.drop_length,cmpVs] at hd
      have:=H _ E
      rw [← hd] at this
      exact pure_w this
theorem vcompare_aux : ∀ (m : Nat) (a b : Vl) {h : Heap} {Q : Int → Heap → Prop} {x y : Array Value},sizeOf a < m → VRep h a x → VRep h b y → (∀ h',Ext h h' → Q (cmpV a b) h') → (value_Compare x y).wp h Q:=by
  intro m
  induction m with
  | zero=>intro a b h Q x y hm; omega
  | succ m ih =>
    rintro ⟨k,n,s,l⟩ ⟨k',n',s',l'⟩ h Q x y hm hx hy H
    obtain ⟨xs,rfl,k1,n1,s1,r1⟩:=VRep.eq.1 hx
    obtain ⟨ys,rfl,k2,n2,s2,r2⟩:=VRep.eq.1 hy
    unfold value_Compare
    refine mkV_b (fun h1 e1 z1 g1=>mkV_b (fun h2 e2 z2 g2=>?_))
    have g1':=e2.blk g1
    have E:=e1.trans e2
    have c0 : hcell h2 ((⟨h.size,0,none⟩ : Addr).add 0) = some (.int .i64 k):=by rw [blk_cell g1']; rfl
    have c1 : hcell h2 ((⟨h.size,0,none⟩ : Addr).add 1) = some (.int .i64 n):=by rw [blk_cell g1']; rfl
    have c2 : hcell h2 ((⟨h.size,0,none⟩ : Addr).add 2) = some (.string (bs s)):=by rw [blk_cell g1']; rfl
    have c3 : hcell h2 ((⟨h.size,0,none⟩ : Addr).add 3) = some xs.v:=by rw [blk_cell g1']; rfl
    have d0 : hcell h2 ((⟨h1.size,0,none⟩ : Addr).add 0) = some (.int .i64 k'):=by rw [blk_cell g2]; rfl
    have d1 : hcell h2 ((⟨h1.size,0,none⟩ : Addr).add 1) = some (.int .i64 n'):=by rw [blk_cell g2]; rfl
    have d2 : hcell h2 ((⟨h1.size,0,none⟩ : Addr).add 2) = some (.string (bs s')):=by rw [blk_cell g2]; rfl
    have d3 : hcell h2 ((⟨h1.size,0,none⟩ : Addr).add 3) = some ys.v:=by rw [blk_cell g2]; rfl
    refine ldI_b (n:=k) c0 (ldI_b (n:=k') d0 (ldI_b (n:=n) c1 (ldI_b (n:=n') d1 (ldS_b (n:=bs s) c2 (ldS_b (n:=bs s') d2 (ldL_b (n:=xs) c3 (ldL_b (n:=ys) d3 ?_)))))))
    refine bind_w (ccompare_spec (chk_b ⟨c0,d0,c1,d1,c2,d2,c3,d3⟩ ?_))
    refine bind_w (ccompare64_spec (chk_b ⟨c0,d0,c1,d1,c2,d2,c3,d3⟩ ?_))
    unfold strings_Compare internal_bytealg_CompareString
    refine bind_w (pure_b (pure_w (chk_b ⟨c0,d0,c1,d1,c2,d2,c3,d3⟩ ?_)))
    simp only [Vl.mk.sizeOf_spec] at hm
    refine bind_w (comparefunc_spec (r1.ext E) (r2.ext E) (fun j hj hj' h3 c c' Q1 e3 hv hv' hq=>?_) (fun h3 e3=>?_))
    · refine callV_f cl_value_Compare (S_value_Compare _ _) (ih _ _ ?_ hv hv' hq)
      have:=List.sizeOf_lt_of_mem (List.getElem_mem hj)
      omega
    · refine bdL_b ?_
      have e4:=Ext.push h3 (.cells #[Value.int .i64 (cmpI k k'),.int .i64 (cmpI n n'),.int .i64 (Lib.compareBytes (bs s).data.toList (bs s').data.toList),.int .i64 (cmpVs l l')] ty_int)
      refine bind_w (cor_spec (zs:=[cmpI k k',cmpI n n',Lib.compareBytes s s',cmpVs l l']) (t:=ty_int) ?_ rfl (by simp) (pure_w ?_))
      · exact get_push_eq
      · have:=H _ ((E.trans e3).trans e4)
        rw [cmpV] at this
        have hz : ∀ a : Int,cOr a 0 = a:=fun a=>by unfold cOr; split <;> simp_all
        simpa [cOrs,hz] using this
theorem vcompare_spec {a b : Vl} {h : Heap} {Q : Int → Heap → Prop} {x y : Array Value} (hx : VRep h a x) (hy : VRep h b y) (H : ∀ h',Ext h h' → Q (cmpV a b) h') : (value_Compare x y).wp h Q:=vcompare_aux _ a b (Nat.lt_succ_self _) hx hy H
end Gx
namespace Gx
open Go
set_option linter.unusedVariables false
set_option linter.unusedSimpArgs false
theorem bs_size (l : List UInt8) : (bs l).size = l.length:=by simp [bs,ByteArray.size]
theorem bs_get? (l : List UInt8) (i : Nat) : (bs l)[i]? = l[i]?:=by
  rcases Nat.lt_or_ge i l.length with h | h
  · rw [List.getElem?_eq_getElem h]
    have : i < (bs l).size:=by rw [bs_size]; exact h
    rw [getElem?_pos (bs l) i this]
    rfl
  · rw [List.getElem?_eq_none h]
    have : ¬ i < (bs l).size:=by rw [bs_size]; omega
    rw [getElem?_neg (bs l) i this]
theorem bs_toList (l : List UInt8) : (bs l).toList = l:=by rw [ByteArray.toList_eq]
theorem sEq_bs (a b : List UInt8) : sEq (bs a) (bs b) = decide (a = b):=by
  unfold sEq
  rw [bs_toList,bs_toList,Bool.eq_iff_iff]
  simp
theorem bs_empty : ByteArray.empty = bs []:=rfl
theorem ixS_b {β : Type} {h : Heap} {Q : β → Heap → Prop} {l : List UInt8} {i : Nat} {t : Int} {f : Int → M β} (ht : t = (i : Int)) (hi : i < l.length) (H : (f (l[i].toNat : Int)).wp h Q) : (ixS (bs l) t >>= f).wp h Q :=
  ⟨_,⟨by omega,l[i],by subst ht; rw [Int.toNat_natCast,bs_get?,List.getElem?_eq_getElem hi],rfl⟩,H⟩
theorem ixV_b {β : Type} {h : Heap} {Q : β → Heap → Prop} {x : Sl} {l : List Vl} {i : Nat} {t : Int} {f : Addr → M β} (H : VsRep h x l) (hi : i < l.length) (ht : t = (i : Int))
    (hq : ∀ a c,c.size = 4 → (∀ m,m < 4 → hcell h (a.add m) = c[m]?) → VRep h l[i] c → (f a).wp h Q) : (ixL x t 4 >>= f).wp h Q:=by
  obtain ⟨a,c,ha,hs,hcs,hv⟩:=H.get hi
  have:=H.len
  subst ht
  refine ixL_b (by omega) (by omega) ha (hq _ c hs (fun m hm=>?_) hv)
  rw [Addr.add_add,show (i : Int).toNat * 4 = i * 4 by omega]
  exact hcs m hm
theorem rnum_spec {a b : Int} {h : Heap} {Q : Int → Heap → Prop} (H : Q (cmpI a b) h) : (rambleref02_num a b).wp h Q:=by
  unfold rambleref02_num
  unfold cmpI at H
  refine ite_w (fun hc=>?_) (fun hc=>?_)
  · rw [if_pos (of_decide_eq_true hc)] at H; exact H
  · rw [if_neg (of_decide_eq_false hc)] at H
    refine ite_w (fun hc=>?_) (fun hc=>?_)
    · rw [if_pos (of_decide_eq_true hc)] at H; exact H
    · rw [if_neg (of_decide_eq_false hc)] at H; exact H
theorem u8_lt_int {a b : UInt8} : (a < b) ↔ ((a.toNat : Int) < (b.toNat : Int)):=by
  rw [UInt8.lt_iff_toNat_lt]; omega
theorem compareBytes_cons (a b : UInt8) (s t : List UInt8) : Lib.compareBytes (a :: s) (b :: t) = if a = b then Lib.compareBytes s t else cmpI (a.toNat : Int) (b.toNat : Int):=by
  rw [Lib.compareBytes]
  unfold cmpI
  have h1:=@u8_lt_int a b
  have h2:=@u8_lt_int b a
  by_cases he : a = b
  · subst he
    rw [if_pos rfl,if_neg (by rw [h1]; omega),if_neg (by rw [h1]; omega)]
  · have hne : a.toNat ≠ b.toNat:=fun h=>he (UInt8.toNat_inj.1 h)
    rw [if_neg he]
    by_cases hlt : a < b
    · rw [if_pos hlt,if_pos (h1.1 hlt)]
    · rw [if_neg hlt,if_neg (fun h=>hlt (h1.2 h))]
      have : b < a:=by rw [h2]; rw [h1] at hlt; omega
      rw [if_pos this,if_pos (h2.1 this)]
theorem rtext_spec {s t : List UInt8} {h : Heap} {Q : Int → Heap → Prop} (hs : s.length ≤ 9223372036854775807) (ht : t.length ≤ 9223372036854775807) (H : Q (Lib.compareBytes s t) h) : (rambleref02_text (bs s) (bs t)).wp h Q:=by
  unfold rambleref02_text
  refine M.loop_inv (fun (x : Int) h'=>h' = h ∧ ∃ i : Nat,x = (i : Int) ∧ i ≤ s.length ∧ i ≤ t.length ∧ Lib.compareBytes (s.drop i) (t.drop i) = Lib.compareBytes s t) (fun x _=>((s.length : Int) - x).toNat) ?_ ⟨rfl,0,rfl,Nat.zero_le _,Nat.zero_le _,by simp⟩
  rintro x h' ⟨rfl,i,rfl,hi,hi',hd⟩ self hself
  unfold rambleref02_text_l1
  rw [bs_size,bs_size]
  have fin : ¬ (i < s.length ∧ i < t.length) → (rambleref02_num (s.length : Int) (t.length : Int)).wp h' (fun r h1=>(M.pure r : M Int).wp h1 Q):=fun hno=>by
    refine rnum_spec (pure_w ?_)
    have : cmpI (s.length : Int) (t.length : Int) = Lib.compareBytes s t:=by
      rw [← hd]
      unfold cmpI
      rcases Nat.lt_or_ge i s.length with h1 | h1
      · have h2 : i = t.length:=by omega
        subst h2
        rw [List.drop_eq_getElem_cons h1,List.drop_length,Lib.compareBytes,if_neg (by omega),if_pos (by omega)]
      · have h2 : i = s.length:=by omega
        subst h2
        rw [List.drop_length]
        rcases Nat.lt_or_ge s.length t.length with h3 | h3
        · rw [List.drop_eq_getElem_cons h3,Lib.compareBytes,if_pos (by omega)]
        · have : t.length = s.length:=by omega
          rw [← this,List.drop_length,Lib.compareBytes,if_neg (by omega),if_neg (by omega)]
    rw [this]
    exact H
  refine bind_w (ite_w (fun h1=>?_) (fun h1=>?_))
  · have h1 : i < s.length:=by have:=of_decide_eq_true h1; omega
    refine pure_w (ite_w (fun h2=>?_) (fun h2=>?_))
    · have h2 : i < t.length:=by have:=of_decide_eq_true h2; omega
      rw [List.drop_eq_getElem_cons h1,List.drop_eq_getElem_cons h2,compareBytes_cons] at hd
      refine ixS_b rfl h1 (ixS_b rfl h2 (ite_w (fun hne=>?_) (fun heq=>?_)))
      · have hne : s[i] ≠ t[i]:=fun h=>by rw [h] at hne; simp at hne
        rw [if_neg hne] at hd
        have b1:=s[i].toNat_lt
        have b2:=t[i].toNat_lt
        refine ixS_b rfl h1 (ixS_b rfl h2 ?_)
        rw [w64 (by omega) (by omega),w64 (by omega) (by omega)]
        refine bind_w (rnum_spec (pure_w ?_))
        rw [hd]; exact H
      · have heq' : ((s[i].toNat : Int)) = t[i].toNat:=by simpa using heq
        have heq : s[i] = t[i]:=UInt8.toNat_inj.1 (by omega)
        rw [if_pos heq] at hd
        rw [w64 (by omega) (by omega)]
        exact hself _ _ ⟨rfl,i + 1,by simp,by omega,by omega,hd⟩ (by omega)
    · have h2 : ¬ i < t.length:=by have:=of_decide_eq_false h2; omega
      exact bind_w (fin (fun h=>h2 h.2))
  · have h1 : ¬ i < s.length:=by have:=of_decide_eq_false h1; omega
    exact pure_w (iteF rfl (bind_w (fin (fun h=>h1 h.1))))
theorem rcompare_aux : ∀ (m : Nat) (a b : Vl) {h : Heap} {Q : Int → Heap → Prop} {x y : Array Value},sizeOf a < m → VRep h a x → VRep h b y → (∀ h',Ext h h' → Q (cmpV a b) h') → (rambleref02_Compare x y).wp h Q:=by
  intro m
  induction m with
  | zero=>intro a b h Q x y hm; omega
  | succ m ih =>
    rintro ⟨k,n,s,l⟩ ⟨k',n',s',l'⟩ h Q x y hm hx hy H
    obtain ⟨xs,rfl,k1,n1,s1,r1⟩:=VRep.eq.1 hx
    obtain ⟨ys,rfl,k2,n2,s2,r2⟩:=VRep.eq.1 hy
    simp only [Vl.mk.sizeOf_spec] at hm
    have hxl:=r1.len
    have hyl:=r2.len
    have hxb:=r1.big
    have hyb:=r2.big
    have hxc:=r1.cap
    have hyc:=r2.cap
    unfold rambleref02_Compare
    refine mkV_b (fun h1 e1 z1 g1=>mkV_b (fun h2 e2 z2 g2=>?_))
    have g1':=e2.blk g1
    have E:=e1.trans e2
    rw [cmpV] at H
    refine ldI_b (n:=k) (by rw [blk_cell g1']; rfl) (ldI_b (n:=k') (by rw [blk_cell g2]; rfl) (bind_w (rnum_spec ?_)))
    refine ite_w (fun hne=>?_) (fun heq=>?_)
    · have hne : cmpI k k' ≠ 0:=by simpa using hne
      have:=H _ E
      rw [cOr,if_neg hne] at this
      exact pure_w this
    have heq : cmpI k k' = 0:=by simpa using heq
    rw [cOr,if_pos heq] at H
    refine ldI_b (n:=n) (by rw [blk_cell g1']; rfl) (ldI_b (n:=n') (by rw [blk_cell g2]; rfl) (bind_w (rnum_spec ?_)))
    refine ite_w (fun hne=>?_) (fun heq=>?_)
    · have hne : cmpI n n' ≠ 0:=by simpa using hne
      have:=H _ E
      rw [cOr,if_neg hne] at this
      exact pure_w this
    have heq : cmpI n n' = 0:=by simpa using heq
    rw [cOr,if_pos heq] at H
    refine ldS_b (n:=bs s) (by rw [blk_cell g1']; rfl) (ldS_b (n:=bs s') (by rw [blk_cell g2]; rfl) (bind_w (rtext_spec s1 s2 ?_)))
    refine ite_w (fun hne=>?_) (fun heq=>?_)
    · have hne : Lib.compareBytes s s' ≠ 0:=by simpa using hne
      have:=H _ E
      rw [cOr,if_neg hne] at this
      exact pure_w this
    have heq : Lib.compareBytes s s' = 0:=by simpa using heq
    rw [cOr,if_pos heq] at H
    refine M.loop_inv (fun (t : Int) h'=>Ext h2 h' ∧ ∃ i : Nat,t = (i : Int) ∧ i ≤ l.length ∧ i ≤ l'.length ∧ cmpVs (l.drop i) (l'.drop i) = cmpVs l l') (fun t _=>((l.length : Int) - t).toNat) ?_ ⟨Ext.refl h2,0,rfl,Nat.zero_le _,Nat.zero_le _,by simp⟩
    rintro t h' ⟨E',i,rfl,hi,hi',hd⟩ self hself
    have f1:=E'.blk g1'
    have f2:=E'.blk g2
    have c3 : hcell h' ((⟨h.size,0,none⟩ : Addr).add 3) = some xs.v:=by rw [blk_cell f1]; rfl
    have d3 : hcell h' ((⟨h1.size,0,none⟩ : Addr).add 3) = some ys.v:=by rw [blk_cell f2]; rfl
    have EE:=E.trans E'
    have fin : ¬ (i < l.length ∧ i < l'.length) → (ldL ((⟨h.size,0,none⟩ : Addr).add 3) >>= fun x63_48=>ldL ((⟨h1.size,0,none⟩ : Addr).add 3) >>= fun x66_49=>rambleref02_num (x63_48.len : Int) (x66_49.len : Int) >>= fun x68_50=>M.pure x68_50).wp h' Q:=fun hno=>by
      refine ldL_b (n:=xs) c3 (ldL_b (n:=ys) d3 (bind_w (rnum_spec (pure_w ?_))))
      have : cmpI (xs.len : Int) (ys.len : Int) = cmpVs l l':=by
        rw [← hd,hxl,hyl]
        unfold cmpI
        rcases Nat.lt_or_ge i l.length with h1 | h1
        · have h2 : i = l'.length:=by omega
          subst h2
          rw [List.drop_eq_getElem_cons h1,List.drop_length,cmpVs,if_neg (by omega),if_pos (by omega)]
        · have h2 : i = l.length:=by omega
          subst h2
          rw [List.drop_length]
          rcases Nat.lt_or_ge l.length l'.length with h3 | h3
          · rw [List.drop_eq_getElem_cons h3,cmpVs,if_pos (by omega)]
          · have : l'.length = l.length:=by omega
            rw [← this,List.drop_length,cmpVs,if_neg (by omega),if_neg (by omega)]
      rw [this]
      exact H _ EE
    unfold rambleref02_Compare_l1
    refine ldL_b (n:=xs) c3 (bind_w (ite_w (fun h3=>?_) (fun h3=>?_)))
    · have h3 : i < l.length:=by have:=of_decide_eq_true h3; omega
      refine ldL_b (n:=ys) d3 (pure_w (ite_w (fun h4=>?_) (fun h4=>?_)))
      · have h4 : i < l'.length:=by have:=of_decide_eq_true h4; omega
        rw [List.drop_eq_getElem_cons h3,List.drop_eq_getElem_cons h4,cmpVs] at hd
        refine ldL_b (n:=xs) c3 (ixV_b (r1.ext EE) h3 rfl (fun a c hs hcs hv=>ldG_b hs hcs (ldL_b (n:=ys) d3 (ixV_b (r2.ext EE) h4 rfl (fun a' c' hs' hcs' hv'=>ldG_b hs' hcs' ?_)))))
        refine bind_w (callF_w (S_rambleref02_Compare _ _) (ih _ _ ?_ hv hv' (fun h5 e5=>?_)))
        · have:=List.sizeOf_lt_of_mem (List.getElem_mem h3)
          omega
        refine ite_w (fun hne=>?_) (fun heq=>?_)
        · have hne : cmpV l[i] l'[i] ≠ 0:=by simpa using hne
          rw [cOr,if_neg hne] at hd
          rw [hd]
          exact pure_w (H _ (EE.trans e5))
        · have heq : cmpV l[i] l'[i] = 0:=by simpa using heq
          rw [cOr,if_pos heq] at hd
          rw [w64 (by omega) (by omega)]
          exact hself _ _ ⟨E'.trans e5,i + 1,by simp,by omega,by omega,hd⟩ (by omega)
      · have h4 : ¬ i < l'.length:=by have:=of_decide_eq_false h4; omega
        exact fin (fun h=>h4 h.2)
    · have h3 : ¬ i < l.length:=by have:=of_decide_eq_false h3; omega
      exact pure_w (iteF rfl (fin (fun h=>h3 h.1)))
theorem rcompare_spec {a b : Vl} {h : Heap} {Q : Int → Heap → Prop} {x y : Array Value} (hx : VRep h a x) (hy : VRep h b y) (H : ∀ h',Ext h h' → Q (cmpV a b) h') : (rambleref02_Compare x y).wp h Q:=rcompare_aux _ a b (Nat.lt_succ_self _) hx hy H
theorem ldV_b {β : Type} {h : Heap} {Q : β → Heap → Prop} {b : Nat} {t : TypeId} {z : Nat × Nat} {v : Vl} {cs : Array Value} {f : Array Value → M β} (hb : h[b]? = some (.cells cs t z)) (hv : cs.size = 4) (H : (f cs).wp h Q) : (ldG 4 ⟨b,0,none⟩ >>= f).wp h Q :=
  ldG_b hv (fun i _=>by rw [blk_cell hb]) H
theorem vsame_spec {a b : Vl} {h : Heap} {Q : Bool → Heap → Prop} {x y : Array Value} (hx : VRep h a x) (hy : VRep h b y) (H : ∀ h',Ext h h' → Q (decide (cmpV a b = 0)) h') : (value_Same x y).wp h Q:=by
  unfold value_Same
  refine mkV_b (fun h1 e1 z1 g1=>mkV_b (fun h2 e2 z2 g2=>?_))
  have E:=e1.trans e2
  refine ldV_b (v:=a) (e2.blk g1) hx.size (ldV_b (v:=b) g2 hy.size (bind_w (vcompare_spec (hx.ext E) (hy.ext E) (fun h3 e3=>pure_w ?_))))
  have:=H _ (E.trans e3)
  rwa [show (cmpV a b == 0) = decide (cmpV a b = 0) from rfl]
theorem rsame_spec {a b : Vl} {h : Heap} {Q : Bool → Heap → Prop} {x y : Array Value} (hx : VRep h a x) (hy : VRep h b y) (H : ∀ h',Ext h h' → Q (decide (cmpV a b = 0)) h') : (rambleref02_Same x y).wp h Q:=by
  unfold rambleref02_Same
  refine mkV_b (fun h1 e1 z1 g1=>mkV_b (fun h2 e2 z2 g2=>?_))
  have E:=e1.trans e2
  refine ldV_b (v:=a) (e2.blk g1) hx.size (ldV_b (v:=b) g2 hy.size (bind_w (rcompare_spec (hx.ext E) (hy.ext E) (fun h3 e3=>pure_w ?_))))
  have:=H _ (E.trans e3)
  rwa [show (cmpV a b == 0) = decide (cmpV a b = 0) from rfl]
end Gx
namespace Gx
open Go
set_option linter.unusedVariables false
set_option linter.unusedSimpArgs false
def risesL : List Vl → Bool
  | a :: _ :: c :: r=>decide (cmpV a c < 0) && risesL (c :: r)
  | _=>true
def bareV (s : List UInt8) (l : List Vl) : Bool:=decide (s = []) && l.isEmpty
def mayV : Nat → Vl → Bool
  | 0,_=>false
  | d + 1,.mk k n s l =>
    if k = 1 then bareV s l
    else if k = 3 then bareV s l && (decide (n = 0) || decide (n = 1))
    else if k = 6 ∨ k = 7 then bareV s l && decide (1 ≤ n) && decide (n ≤ 281474976710656)
    else if k = 2 then decide (n = 0) && l.isEmpty && decide (s.length ≤ 128)
    else if k = 4 then decide (l.length ≤ 256) && (decide (n = 0) && decide (s = []) && l.all (mayV d))
    else if k = 5 then decide (l.length ≤ 512) && decide (l.length % 2 = 0) && risesL l && (decide (n = 0) && decide (s = []) && l.all (mayV d))
    else false
theorem and_b {β : Type} {h : Heap} {Q : β → Heap → Prop} {b c : Bool} {m : M Bool} {f : Bool → M β} (hm : b = true → ∀ Q' : Bool → Heap → Prop,Q' c h → m.wp h Q') (H : (f (b && c)).wp h Q) : (M.ite b m (M.pure false) >>= f).wp h Q:=by
  cases b with
  | true=>exact hm rfl _ H
  | false=>exact H
theorem or_b {β : Type} {h : Heap} {Q : β → Heap → Prop} {b c : Bool} {m : M Bool} {f : Bool → M β} (hm : b = false → ∀ Q' : Bool → Heap → Prop,Q' c h → m.wp h Q') (H : (f (b || c)).wp h Q) : (M.ite b (M.pure true) m >>= f).wp h Q:=by
  cases b with
  | true=>exact H
  | false=>exact hm rfl _ H
theorem len0 {n : Nat} {l : List Vl} (h : n = l.length) : ((n : Int) == 0) = l.isEmpty:=by
  subst h
  cases l with
  | nil=>rfl
  | cons a l=>simp; omega
theorem sEq0 (s : List UInt8) : sEq (bs s) ByteArray.empty = decide (s = []):=by rw [bs_empty,sEq_bs]
theorem eqI (a b : Int) : (a == b) = decide (a = b):=rfl
theorem vcontains_spec {h : Heap} {Q : Bool → Heap → Prop} {x : Sl} {l : List Vl} {g : Value} {p : Vl → Bool} (hx : VsRep h x l)
    (hg : ∀ j (hj : j < l.length) h1 c (Q1 : Bool → Heap → Prop),Ext h h1 → VRep h1 l[j] c → (∀ h2,Ext h1 h2 → Q1 (p l[j]) h2) → (callV Go.Proofs.Tryz.prog (fun r : Bool=>.bool r) g [.agg c]).wp h1 Q1)
    (H : ∀ h',Ext h h' → Q (l.any p) h') : (slices_ContainsFunc_slapi_Value_api_Value x g).wp h Q:=by
  unfold slices_ContainsFunc_slapi_Value_api_Value slices_IndexFunc_slapi_Value_api_Value
  have hxl:=hx.len
  have hxb:=hx.big
  have hxc:=hx.cap
  refine bind_w (M.loop_inv (fun (t : Int) h'=>Ext h h' ∧ ∃ i : Nat,t = (i : Int) ∧ i ≤ l.length ∧ (l.drop i).any p = l.any p) (fun t _=>((l.length : Int) - t).toNat) ?_ ⟨Ext.refl h,0,rfl,Nat.zero_le _,by simp⟩)
  rintro t h' ⟨E,i,rfl,hi,hd⟩ self hself
  unfold slices_IndexFunc_slapi_Value_api_Value_l1
  refine ite_w (fun hc=>?_) (fun hc=>?_)
  · have hlt : i < l.length:=by have:=of_decide_eq_true hc; omega
    rw [List.drop_eq_getElem_cons hlt,List.any_cons] at hd
    refine ixV_b (hx.ext E) hlt rfl (fun a c hs hcs hv=>ldG_b hs hcs (bind_w (hg i hlt h' c _ E hv (fun h2 e2=>?_))))
    refine ite_w (fun ht=>pure_w (pure_w ?_)) (fun hf=>?_)
    · rw [ht] at hd
      rw [show decide ((i : Int) ≥ 0) = l.any p by rw [← hd]; simp]
      exact H _ (E.trans e2)
    · rw [hf,Bool.false_or] at hd
      rw [w64 (by omega) (by omega)]
      exact hself _ _ ⟨E.trans e2,i + 1,by simp,by omega,hd⟩ (by omega)
  · have hge : i = l.length:=by have:=of_decide_eq_false hc; omega
    subst hge
    rw [List.drop_length] at hd
    refine pure_w (pure_w ?_)
    rw [show decide ((-1 : Int) ≥ 0) = l.any p by rw [← hd]; rfl]
    exact H _ E
theorem rises_step {l : List Vl} {i : Nat} (h2 : 2 ≤ i) (hi : i < l.length) : risesL (l.drop (i - 2)) = (decide (cmpV (l[i - 2]'(by omega)) l[i] < 0) && risesL (l.drop i)):=by
  rw [List.drop_eq_getElem_cons (show i - 2 < l.length by omega),List.drop_eq_getElem_cons (show i - 2 + 1 < l.length by omega)]
  have e : i - 2 + 1 + 1 = i:=by omega
  simp only [e]
  rw [List.drop_eq_getElem_cons hi,risesL]
theorem rises_end {l : List Vl} {i : Nat} (h2 : 2 ≤ i) (hi : l.length ≤ i) : risesL (l.drop (i - 2)) = true:=by
  have hl : (l.drop (i - 2)).length ≤ 2:=by rw [List.length_drop]; omega
  match h : l.drop (i - 2),hl with
  | [],_=>rfl
  | [_],_=>rfl
  | [_,_],_=>rfl
theorem any_not (l : List Vl) (p : Vl → Bool) : (!l.any fun x=>!p x) = l.all p:=by
  induction l with
  | nil=>rfl
  | cons a l ih=>simp [List.any_cons,List.all_cons,← ih]
theorem vmay_spec : ∀ (d : Nat) (v : Vl) {h : Heap} {Q : Bool → Heap → Prop} {x : Array Value},d ≤ 8 → VRep h v x → (∀ h',Ext h h' → Q (mayV d v) h') → (value_may x ((9 - d : Nat) : Int)).wp h Q:=by
  intro d
  induction d with
  | zero =>
    rintro v h Q x _ hx H
    unfold value_may
    refine mkV_b (fun h1 e1 z1 g1=>mkV_b (fun h2 e2 z2 g2=>?_))
    refine ldI_b (n:=((9 - 0 : Nat) : Int)) (by rw [show (⟨h1.size,0,none⟩ : Addr) = (⟨h1.size,0,none⟩ : Addr).add 0 from rfl,blk_cell g2]; rfl) (iteT rfl (pure_w (H _ (e1.trans e2))))
  | succ d ih =>
    rintro ⟨k,n,s,l⟩ h Q x hd hx H
    obtain ⟨xs,rfl,k1,n1,s1,r1⟩:=VRep.eq.1 hx
    have hxl:=r1.len
    have hxb:=r1.big
    have hxc:=r1.cap
    unfold value_may
    refine mkV_b (fun h1 e1 z1 g1=>mkV_b (fun h2 e2 z2 g2=>?_))
    have g1':=e2.blk g1
    have E:=e1.trans e2
    have c0 : hcell h2 ((⟨h.size,0,none⟩ : Addr).add 0) = some (.int .i64 k):=by rw [blk_cell g1']; rfl
    have c1 : hcell h2 ((⟨h.size,0,none⟩ : Addr).add 1) = some (.int .i64 n):=by rw [blk_cell g1']; rfl
    have c2 : hcell h2 ((⟨h.size,0,none⟩ : Addr).add 2) = some (.string (bs s)):=by rw [blk_cell g1']; rfl
    have c3 : hcell h2 ((⟨h.size,0,none⟩ : Addr).add 3) = some xs.v:=by rw [blk_cell g1']; rfl
    have cd : hcell h2 ⟨h1.size,0,none⟩ = some (.int .i64 ((9 - (d + 1) : Nat) : Int)):=by rw [show (⟨h1.size,0,none⟩ : Addr) = (⟨h1.size,0,none⟩ : Addr).add 0 from rfl,blk_cell g2]; rfl
    have H2 : Q (mayV (d + 1) (.mk k n s l)) h2:=H _ E
    unfold mayV at H H2
    refine ldI_b cd (iteF (by simp; omega) (ldS_b c2 (and_b (c:=l.isEmpty) (fun _ Q' hq=>ldL_b c3 (pure_w (by rw [len0 hxl]; exact hq))) ?_)))
    rw [sEq0]
    have hb : (decide (s = []) && l.isEmpty) = bareV s l:=rfl
    rw [hb]
    -- the last part: what stands within
    have tail : (∀ h',Ext h h' → Q (decide (n = 0) && decide (s = []) && l.all (mayV d)) h') → ∀ h3,Ext h2 h3 → (value_may_j1 ⟨h.size,0,none⟩ ⟨h1.size,0,none⟩).wp h3 Q:=fun HT h3 e3=>by
      unfold value_may_j1
      refine ldI_b (e3.cell c1) (and_b (c:=decide (s = [])) (fun _ Q' hq=>ldS_b (e3.cell c2) (pure_w (by rw [sEq0]; exact hq))) ?_)
      rw [eqI]
      cases hns : (decide (n = 0) && decide (s = [])) with
      | false =>
        have:=HT h3 (E.trans e3)
        rw [hns] at this
        exact pure_b (pure_w this)
      | true =>
        rw [hns] at HT
        refine bind_w (iteT rfl (ldL_b (e3.cell c3) (bind_w (vcontains_spec (p:=fun x=>!mayV d x) (r1.ext (E.trans e3)) (fun j hj h4 c Q1 e4 hv hq=>?_) (fun h4 e4=>pure_w (pure_w ?_))))))
        · refine callV_f cl_value_may_1 (S_value_may_1 _ _) ?_
          unfold value_may_1
          refine mkV_b (fun h5 e5 z5 g5=>ldV_b (v:=l[j]) g5 hv.size (ldI_b (e5.cell (e4.cell (e3.cell cd))) ?_))
          rw [show IntKind.wrap .i64 (((9 - (d + 1) : Nat) : Int) + 1) = ((9 - d : Nat) : Int) by rw [w64 (by omega) (by omega)]; omega]
          exact bind_w (ih _ (by omega) (hv.ext e5) (fun h6 e6=>pure_w (hq _ (e5.trans e6))))
        · rw [any_not]
          exact HT _ ((E.trans e3).trans e4)
    refine ldI_b c0 (ite_w (fun h1k=>?_) (fun h1k=>?_))
    · have h1k : k = 1:=by simpa using h1k
      rw [if_pos h1k] at H2
      exact pure_w H2
    have h1k : ¬ k = 1:=by simpa using h1k
    rw [if_neg h1k] at H2
    simp only [if_neg h1k] at H
    refine ite_w (fun h3k=>?_) (fun h3k=>?_)
    · have h3k : k = 3:=by simpa using h3k
      rw [if_pos h3k] at H2
      refine and_b (c:=(decide (n = 0) || decide (n = 1))) (fun _ Q' hq=>ldI_b c1 (or_b (c:=decide (n = 1)) (fun _ Q'' hq'=>ldI_b c1 (pure_w hq')) (pure_w hq))) (pure_w H2)
    have h3k : ¬ k = 3:=by simpa using h3k
    rw [if_neg h3k] at H2
    simp only [if_neg h3k] at H
    have j2 : (value_may_j2 ⟨h.size,0,none⟩ ⟨h1.size,0,none⟩ (bareV s l) k (decide (k = 6 ∨ k = 7))).wp h2 Q:=by
      unfold value_may_j2
      refine ite_w (fun h67=>?_) (fun h67=>?_)
      · rw [if_pos (of_decide_eq_true h67)] at H2
        refine and_b (c:=decide (1 ≤ n)) (fun _ Q' hq=>ldI_b c1 (pure_w hq)) (and_b (c:=decide (n ≤ 281474976710656)) (fun _ Q' hq=>ldI_b c1 (pure_w hq)) (pure_w H2))
      rw [if_neg (of_decide_eq_false h67)] at H2
      simp only [if_neg (of_decide_eq_false h67)] at H
      refine ite_w (fun h2k=>?_) (fun h2k=>?_)
      · have h2k : k = 2:=by simpa using h2k
        rw [if_pos h2k] at H2
        refine ldI_b c1 (and_b (c:=l.isEmpty) (fun _ Q' hq=>ldL_b c3 (pure_w (by rw [len0 hxl]; exact hq))) (and_b (c:=decide (s.length ≤ 128)) (fun _ Q' hq=>ldS_b c2 (pure_w (by rw [show decide (((bs s).size : Int) ≤ 128) = decide (s.length ≤ 128) by rw [bs_size,Bool.eq_iff_iff]; simp only [decide_eq_true_eq]; omega]; exact hq))) (pure_w ?_)))
        exact H2
      have h2k : ¬ k = 2:=by simpa using h2k
      rw [if_neg h2k] at H2
      simp only [if_neg h2k] at H
      refine ite_w (fun h4k=>?_) (fun h4k=>?_)
      · have h4k : k = 4:=by simpa using h4k
        rw [if_pos h4k] at H2
        simp only [if_pos h4k] at H
        refine ldL_b c3 (ite_w (fun hbig=>?_) (fun hsm=>?_))
        · have : ¬ l.length ≤ 256:=by have:=of_decide_eq_true hbig; omega
          rw [decide_eq_false this,Bool.false_and] at H2
          exact pure_w H2
        · have : l.length ≤ 256:=by have:=of_decide_eq_false hsm; omega
          simp only [decide_eq_true this,Bool.true_and] at H
          exact tail H h2 (Ext.refl _)
      have h4k : ¬ k = 4:=by simpa using h4k
      rw [if_neg h4k] at H2
      simp only [if_neg h4k] at H
      refine ite_w (fun h5k=>?_) (fun h5k=>?_)
      · have h5k : k = 5:=by simpa using h5k
        rw [if_pos h5k] at H2
        simp only [if_pos h5k] at H
        have hodd : ((Int.tmod (xs.len : Int) 2) == 1) = !decide (l.length % 2 = 0):=by
          rw [hxl,Int.tmod_eq_emod_of_nonneg (by omega),Bool.eq_iff_iff]
          simp
          omega
        refine ldL_b c3 (or_b (c:=!decide (l.length % 2 = 0)) (fun _ Q' hq=>ldL_b c3 (pure_w (by rw [hodd]; exact hq))) ?_)
        have hbig : decide ((xs.len : Int) > 512) = !decide (l.length ≤ 512):=by
          rw [hxl,Bool.eq_iff_iff]; simp; omega
        rw [hbig]
        cases h512 : decide (l.length ≤ 512) with
        | false=>rw [h512] at H2; exact iteT rfl (pure_w (by simpa using H2))
        | true =>
          cases heven : decide (l.length % 2 = 0) with
          | false=>rw [h512,heven] at H2; exact iteT rfl (pure_w (by simpa using H2))
          | true =>
            simp only [h512,heven,Bool.true_and] at H
            refine iteF rfl ?_
            refine M.loop_inv (fun (t : Int) h'=>Ext h2 h' ∧ ∃ i : Nat,t = (i : Int) ∧ 2 ≤ i ∧ i ≤ l.length + 2 ∧ risesL (l.drop (i - 2)) = risesL l) (fun t _=>((l.length : Int) + 2 - t).toNat) ?_ ⟨Ext.refl h2,2,rfl,Nat.le_refl _,by omega,by simp⟩
            rintro t h' ⟨E',i,rfl,hi2,hi,hd'⟩ self hself
            unfold value_may_l1
            have hl512:=of_decide_eq_true h512
            refine ldL_b (E'.cell c3) (ite_w (fun hc=>?_) (fun hc=>?_))
            · have hlt : i < l.length:=by have:=of_decide_eq_true hc; omega
              rw [rises_step hi2 hlt] at hd'
              have EE:=E.trans E'
              refine ldL_b (E'.cell c3) (ixV_b (i:=i - 2) (r1.ext EE) (by omega) (by rw [w64 (by omega) (by omega)]; omega) (fun a c hs hcs hv=>ldG_b hs hcs (ldL_b (E'.cell c3) (ixV_b (r1.ext EE) hlt rfl (fun a' c' hs' hcs' hv'=>ldG_b hs' hcs' ?_)))))
              refine bind_w (vcompare_spec hv hv' (fun h3 e3=>?_))
              refine ite_w (fun hge=>?_) (fun hlt'=>?_)
              · have hge : ¬ cmpV (l[i - 2]'(by omega)) l[i] < 0:=by have:=of_decide_eq_true hge; omega
                rw [decide_eq_false hge,Bool.false_and] at hd'
                have:=H _ (EE.trans e3)
                rw [← hd',Bool.false_and] at this
                exact pure_w this
              · have hlt' : cmpV (l[i - 2]'(by omega)) l[i] < 0:=by have:=of_decide_eq_false hlt'; omega
                rw [decide_eq_true hlt',Bool.true_and] at hd'
                rw [w64 (by omega) (by omega)]
                exact hself _ _ ⟨E'.trans e3,i + 2,by simp,by omega,by omega,by simpa using hd'⟩ (by omega)
            · have hge : l.length ≤ i:=by have:=of_decide_eq_false hc; omega
              rw [rises_end hi2 hge] at hd'
              refine tail (fun h3 e3=>?_) h' E'
              have:=H h3 e3
              rw [← hd',Bool.true_and] at this
              exact this
      · have h5k : ¬ k = 5:=by simpa using h5k
        rw [if_neg h5k] at H2
        exact pure_w H2
    refine ite_w (fun h6k=>?_) (fun h6k=>?_)
    · have h6k : k = 6:=by simpa using h6k
      have e : (k == 6) = decide (k = 6 ∨ k = 7):=by subst h6k; rfl
      rw [e]
      exact j2
    · have h6k : ¬ k = 6:=by simpa using h6k
      have e : (k == 7) = decide (k = 6 ∨ k = 7):=by rw [eqI,Bool.eq_iff_iff]; simp [h6k]
      rw [e]
      exact j2
def checkV (v : Vl) : Int:=if mayV 8 v = true then 0 else 20
theorem vcheck_spec {v : Vl} {h : Heap} {Q : Int → Heap → Prop} {x : Array Value} (hx : VRep h v x) (H : ∀ h',Ext h h' → Q (checkV v) h') : (value_Check x).wp h Q:=by
  unfold value_Check
  refine mkV_b (fun h1 e1 z1 g1=>ldV_b (v:=v) g1 hx.size (bind_w (vmay_spec 8 v (Nat.le_refl _) (hx.ext e1) (fun h2 e2=>?_))))
  have:=H _ (e1.trans e2)
  unfold checkV at this
  cases hm : mayV 8 v with
  | true=>rw [hm,if_pos rfl] at this; exact iteF rfl (pure_w this)
  | false=>rw [hm,if_neg (by simp)] at this; exact iteT rfl (pure_w this)
end Gx
namespace Gx
open Go
set_option linter.unusedVariables false
set_option linter.unusedSimpArgs false
end Gx
namespace Gx
open Go
set_option linter.unusedVariables false
set_option linter.unusedSimpArgs false
mutual
def VRepS (S : Nat → Prop) (h : Heap) : Vl → Array Value → Prop
  | .mk k n s l,cs=>∃ x : Sl,cs = vcells k n s x ∧ I64 k ∧ I64 n ∧ s.length ≤ 9223372036854775807 ∧ (x.len = l.length ∧ x.len ≤ x.cap ∧ x.len ≤ 9223372036854775807 ∧ VsAtS S h l x.base 0)
def VsAtS (S : Nat → Prop) (h : Heap) : List Vl → Option Addr → Nat → Prop
  | [],_,_=>True
  | v :: l,b,i=>(∃ a cs,b = some a ∧ S a.block ∧ cs.size = 4 ∧ (∀ j,j < 4 → hcell h (a.add (i * 4 + j)) = cs[j]?) ∧ VRepS S h v cs) ∧ VsAtS S h l b (i + 1)
end
structure VsRepS (S : Nat → Prop) (h : Heap) (x : Sl) (l : List Vl) : Prop where
  len : x.len = l.length
  cap : x.len ≤ x.cap
  big : x.len ≤ 9223372036854775807
  at_ : VsAtS S h l x.base 0
theorem VRepS.eq {S : Nat → Prop} {h : Heap} {k n : Int} {s : List UInt8} {l : List Vl} {cs : Array Value} : VRepS S h (.mk k n s l) cs ↔ ∃ x : Sl,cs = vcells k n s x ∧ I64 k ∧ I64 n ∧ s.length ≤ 9223372036854775807 ∧ VsRepS S h x l:=by
  rw [VRepS]
  constructor
  · rintro ⟨x,h1,h2,h3,h4,h5,h6,h7,h8⟩; exact ⟨x,h1,h2,h3,h4,h5,h6,h7,h8⟩
  · rintro ⟨x,h1,h2,h3,h4,h5,h6,h7,h8⟩; exact ⟨x,h1,h2,h3,h4,h5,h6,h7,h8⟩
theorem VsAtS.get {S : Nat → Prop} {h : Heap} : ∀ {l : List Vl} {b : Option Addr} {i : Nat},VsAtS S h l b i → ∀ {j : Nat} (hj : j < l.length),∃ a cs,b = some a ∧ S a.block ∧ cs.size = 4 ∧ (∀ m,m < 4 → hcell h (a.add ((i + j) * 4 + m)) = cs[m]?) ∧ VRepS S h l[j] cs
  | [],_,_,_,j,hj=>by simp at hj
  | v :: l,b,i,H,0,hj=>by rw [VsAtS] at H; exact H.1
  | v :: l,b,i,H,j + 1,hj=>by
    rw [VsAtS] at H
    have:=VsAtS.get H.2 (j:=j) (by simpa using hj)
    rw [show i + (j + 1) = i + 1 + j by omega]
    exact this
theorem VsAtS.of {S : Nat → Prop} {h : Heap} : ∀ {l : List Vl} {b : Option Addr} {i : Nat},(∀ j (hj : j < l.length),∃ a cs,b = some a ∧ S a.block ∧ cs.size = 4 ∧ (∀ m,m < 4 → hcell h (a.add ((i + j) * 4 + m)) = cs[m]?) ∧ VRepS S h l[j] cs) → VsAtS S h l b i
  | [],_,_,_=>by rw [VsAtS]; trivial
  | v :: l,b,i,H=>by
    rw [VsAtS]
    refine ⟨H 0 (by simp),VsAtS.of (fun j hj=>?_)⟩
    have:=H (j + 1) (by simpa using hj)
    rw [show i + 1 + j = i + (j + 1) by omega]
    exact this
theorem VsRepS.get {S : Nat → Prop} {h : Heap} {x : Sl} {l : List Vl} (H : VsRepS S h x l) {j : Nat} (hj : j < l.length) : ∃ a cs,x.base = some a ∧ S a.block ∧ cs.size = 4 ∧ (∀ m,m < 4 → hcell h (a.add (j * 4 + m)) = cs[m]?) ∧ VRepS S h l[j] cs:=by
  have:=H.at_.get hj
  rw [Nat.zero_add] at this
  exact this
theorem vl_lt {k n : Int} {s : List UInt8} {l : List Vl} {m j : Nat} (hm : sizeOf (Vl.mk k n s l) < m + 1) (hj : j < l.length) : sizeOf l[j] < m:=by
  have:=List.sizeOf_lt_of_mem (List.getElem_mem hj)
  simp only [Vl.mk.sizeOf_spec] at hm
  omega
theorem vreps_same {S T : Nat → Prop} {h h' : Heap} (e : ∀ b,S b → h'[b]? = h[b]?) (hT : ∀ b,S b → T b) : ∀ (m : Nat) (v : Vl) (cs : Array Value),sizeOf v < m → VRepS S h v cs → VRepS T h' v cs:=by
  intro m
  induction m with
  | zero=>intro v cs hm; omega
  | succ m ih =>
    rintro ⟨k,n,s,l⟩ cs hm H
    obtain ⟨x,h1,h2,h3,h4,h5⟩:=VRepS.eq.1 H
    refine VRepS.eq.2 ⟨x,h1,h2,h3,h4,h5.len,h5.cap,h5.big,VsAtS.of (fun j hj=>?_)⟩
    obtain ⟨a,cs',ha,hS,hs,hc,hv⟩:=h5.at_.get hj
    refine ⟨a,cs',ha,hT _ hS,hs,fun i hi=>?_,ih _ _ (vl_lt hm hj) hv⟩
    rw [← hc i hi]
    unfold hcell
    rw [add_block,e _ hS]
theorem VRepS.same {S : Nat → Prop} {h h' : Heap} {v : Vl} {cs : Array Value} (H : VRepS S h v cs) (e : ∀ b,S b → h'[b]? = h[b]?) : VRepS S h' v cs:=vreps_same e (fun _ h=>h) _ v cs (Nat.lt_succ_self _) H
theorem VRepS.mono {S T : Nat → Prop} {h : Heap} {v : Vl} {cs : Array Value} (H : VRepS S h v cs) (e : ∀ b,S b → T b) : VRepS T h v cs:=vreps_same (fun _ _=>rfl) e _ v cs (Nat.lt_succ_self _) H
theorem vreps_to {S : Nat → Prop} {h : Heap} : ∀ (m : Nat) (v : Vl) (cs : Array Value),sizeOf v < m → VRepS S h v cs → VRep h v cs:=by
  intro m
  induction m with
  | zero=>intro v cs hm; omega
  | succ m ih =>
    rintro ⟨k,n,s,l⟩ cs hm H
    obtain ⟨x,h1,h2,h3,h4,h5⟩:=VRepS.eq.1 H
    refine VRep.eq.2 ⟨x,h1,h2,h3,h4,h5.len,h5.cap,h5.big,VsAt.of (fun j hj=>?_)⟩
    obtain ⟨a,cs',ha,hS,hs,hc,hv⟩:=h5.at_.get hj
    exact ⟨a,cs',ha,hs,hc,ih _ _ (vl_lt hm hj) hv⟩
theorem VRepS.to {S : Nat → Prop} {h : Heap} {v : Vl} {cs : Array Value} (H : VRepS S h v cs) : VRep h v cs:=vreps_to _ v cs (Nat.lt_succ_self _) H
theorem hcell_lt {h : Heap} {a : Addr} {v : Value} (H : hcell h a = some v) : a.block < h.size:=by
  rcases Nat.lt_or_ge a.block h.size with h1 | h1
  · exact h1
  · unfold hcell at H
    rw [Array.getElem?_eq_none h1] at H
    cases H
theorem vrep_lt {h : Heap} : ∀ (m : Nat) (v : Vl) (cs : Array Value),sizeOf v < m → VRep h v cs → VRepS (· < h.size) h v cs:=by
  intro m
  induction m with
  | zero=>intro v cs hm; omega
  | succ m ih =>
    rintro ⟨k,n,s,l⟩ cs hm H
    obtain ⟨x,h1,h2,h3,h4,h5⟩:=VRep.eq.1 H
    refine VRepS.eq.2 ⟨x,h1,h2,h3,h4,h5.len,h5.cap,h5.big,VsAtS.of (fun j hj=>?_)⟩
    obtain ⟨a,cs',ha,hs,hc,hv⟩:=h5.at_.get hj
    refine ⟨a,cs',ha,?_,hs,hc,ih _ _ (vl_lt hm hj) hv⟩
    have h0:=hc 0 (by decide)
    rw [Array.getElem?_eq_getElem (by omega)] at h0
    have:=hcell_lt h0
    rwa [add_block] at this
theorem VRep.lt {h : Heap} {v : Vl} {cs : Array Value} (H : VRep h v cs) : VRepS (· < h.size) h v cs:=vrep_lt _ v cs (Nat.lt_succ_self _) H
theorem VsRepS.to {S : Nat → Prop} {h : Heap} {x : Sl} {l : List Vl} (H : VsRepS S h x l) : VsRep h x l :=
  ⟨H.len,H.cap,H.big,VsAt.of (fun j hj=>by obtain ⟨a,cs,h1,h2,h3,h4,h5⟩:=H.at_.get hj; exact ⟨a,cs,h1,h3,h4,h5.to⟩)⟩
theorem VsRepS.same {S T : Nat → Prop} {h h' : Heap} {x : Sl} {l : List Vl} (H : VsRepS S h x l) (e : ∀ b,S b → h'[b]? = h[b]?) (hT : ∀ b,S b → T b) : VsRepS T h' x l :=
  ⟨H.len,H.cap,H.big,VsAtS.of (fun j hj=>by
    obtain ⟨a,cs,h1,h2,h3,h4,h5⟩:=H.at_.get hj
    refine ⟨a,cs,h1,hT _ h2,h3,fun i hi=>?_,vreps_same e hT _ _ _ (Nat.lt_succ_self _) h5⟩
    rw [← h4 i hi]
    unfold hcell
    rw [add_block,e _ h2])⟩
theorem VsRep.lt {h : Heap} {x : Sl} {l : List Vl} (H : VsRep h x l) : VsRepS (· < h.size) h x l :=
  ⟨H.len,H.cap,H.big,VsAtS.of (fun j hj=>by
    obtain ⟨a,cs,h1,h3,h4,h5⟩:=H.at_.get hj
    refine ⟨a,cs,h1,?_,h3,h4,h5.lt⟩
    have h0:=h4 0 (by decide)
    rw [Array.getElem?_eq_getElem (by omega)] at h0
    have:=hcell_lt h0
    rwa [add_block] at this)⟩
theorem VRepS.size {S : Nat → Prop} {h : Heap} {v : Vl} {cs : Array Value} (H : VRepS S h v cs) : cs.size = 4:=H.to.size
def wt : Vl → Nat
  | .mk _ _ s l=>1 + s.length + wts l
where wts : List Vl → Nat
  | []=>0
  | v :: l=>wt v + wts l
theorem wt_pos (v : Vl) : 1 ≤ wt v:=by cases v; rw [wt]; omega
theorem wts_len : ∀ l : List Vl,l.length ≤ wt.wts l
  | []=>by simp
  | v :: l=>by have:=wts_len l; have:=wt_pos v; rw [wt.wts,List.length_cons]; omega
theorem wts_mem {l : List Vl} {v : Vl} (h : v ∈ l) : wt v ≤ wt.wts l:=by
  induction l with
  | nil=>cases h
  | cons x l ih =>
    rw [wt.wts]
    rcases List.mem_cons.1 h with rfl | h
    · omega
    · have:=ih h; omega
end Gx
namespace Gx
open Go
set_option linter.unusedVariables false
set_option linter.unusedSimpArgs false
def flat4 (css : List (Array Value)) : List Value:=css.flatMap Array.toList
def W4 (css : List (Array Value)) : Prop:=∀ c ∈ css,c.size = 4 ∧ ∀ u ∈ c.toList,one u = true
theorem flat4_len : ∀ {css : List (Array Value)},W4 css → (flat4 css).length = css.length * 4
  | [],_=>rfl
  | c :: r,h=>by
    have:=flat4_len (css:=r) (fun x hx=>h x (List.mem_cons_of_mem _ hx))
    have hc:=(h c (by simp)).1
    unfold flat4 at this ⊢
    rw [List.flatMap_cons,List.length_append,this,Array.length_toList,hc,List.length_cons]; omega
theorem flat4_get : ∀ {css : List (Array Value)},W4 css → ∀ (i j : Nat),j < 4 → (flat4 css)[i * 4 + j]? = (css[i]?).bind (fun c=>c[j]?)
  | [],_,i,j,_=>by simp [flat4]
  | c :: r,h,i,j,hj=>by
    have hc:=(h c (by simp)).1
    unfold flat4
    rw [List.flatMap_cons]
    cases i with
    | zero=>rw [List.getElem?_append_left (by rw [Array.length_toList]; omega)]; simp
    | succ i =>
      rw [List.getElem?_append_right (by rw [Array.length_toList]; omega),Array.length_toList,hc,show (i + 1) * 4 + j - 4 = i * 4 + j by omega]
      have:=flat4_get (css:=r) (fun x hx=>h x (List.mem_cons_of_mem _ hx)) i j hj
      unfold flat4 at this
      rw [this]; simp
theorem flat4_one {css : List (Array Value)} (h : W4 css) : ∀ v ∈ flat4 css,one v = true:=fun v hv=>by
  obtain ⟨c,hc,hv⟩:=List.mem_flatMap.1 hv
  exact (h c hc).2 v hv
theorem W4.append {a b : List (Array Value)} (ha : W4 a) (hb : W4 b) : W4 (a ++ b):=fun c hc=>(List.mem_append.1 hc).elim (ha c) (hb c)
theorem W4.set {a : List (Array Value)} (ha : W4 a) {i : Nat} {c : Array Value} (hc : c.size = 4) (h1 : ∀ u ∈ c.toList,one u = true) : W4 (a.set i c):=fun x hx=>by
  rcases List.mem_or_eq_of_mem_set hx with h | rfl
  · exact ha x h
  · exact ⟨hc,h1⟩
theorem flat4_set : ∀ {css : List (Array Value)},W4 css → ∀ (i : Nat) (c : Array Value),c.size = 4 → i < css.length → flat4 (css.set i c) = (flat4 css).take (i * 4) ++ c.toList ++ (flat4 css).drop (i * 4 + 4)
  | [],_,i,c,_,hi=>by simp at hi
  | x :: r,h,0,c,hc,_=>by
    have hx:=(h x (by simp)).1
    simp only [flat4,List.set_cons_zero,List.flatMap_cons]
    rw [show (0 * 4 + 4) = x.toList.length by rw [Array.length_toList,hx]]
    simp
  | x :: r,h,i + 1,c,hc,hi=>by
    have hx:=(h x (by simp)).1
    have ih:=flat4_set (css:=r) (fun y hy=>h y (List.mem_cons_of_mem _ hy)) i c hc (by simpa using hi)
    simp only [flat4,List.set_cons_succ,List.flatMap_cons] at ih ⊢
    rw [ih]
    have e1 : (i + 1) * 4 = x.toList.length + i * 4:=by rw [Array.length_toList,hx]; omega
    rw [e1,List.take_length_add_append,show x.toList.length + i * 4 + 4 = x.toList.length + (i * 4 + 4) by omega,List.drop_length_add_append]
    simp
theorem Gw.row4 {lo : Nat} {h : Heap} {r : Sl} {css : List (Array Value)} (G : Gw lo h r 4 (flat4 css)) (hw : W4 css) {i : Nat} (hi : i < css.length) : ∃ b,r.base = some ⟨b,0,none⟩ ∧ Sl.on r b ∧ ∀ j,j < 4 → hcell h ((⟨b,0,none⟩ : Addr).add (i * 4 + j)) = css[i][j]?:=by
  have hl:=flat4_len hw
  rcases G with ⟨rfl,he⟩ | ⟨b,ty,cells,R⟩
  · rw [he] at hl; simp at hl; omega
  · refine ⟨b,R.base,⟨_,R.base,rfl⟩,fun j hj=>?_⟩
    rw [add_mk,Nat.zero_add,hcell_blk R.blk]
    have h1:=flat4_get hw i j hj
    rw [List.getElem?_eq_getElem hi] at h1
    have hc:=(hw _ (List.getElem_mem hi)).1
    have h2 : css[i][j]? = some (css[i][j]'(by omega)):=Array.getElem?_eq_getElem (by omega)
    rw [h2]
    refine R.get _ _ ?_
    rw [h1]
    exact h2
theorem Gw.len4 {lo : Nat} {h : Heap} {r : Sl} {css : List (Array Value)} (G : Gw lo h r 4 (flat4 css)) (hw : W4 css) : r.len = css.length:=by
  have:=G.len
  rw [flat4_len hw] at this
  omega
theorem vset_b {β : Type} {lo : Nat} {h : Heap} {Q : β → Heap → Prop} {r : Sl} {css : List (Array Value)} {i : Nat} {t : Int} {c : Array Value} {f : Unit → M β} (G : Gw lo h r 4 (flat4 css)) (hw : W4 css) (hi : i < css.length) (ht : t = (i : Int)) (hc : c.size = 4) (h1 : ∀ u ∈ c.toList,one u = true)
    (H : ∀ b h',r.base = some ⟨b,0,none⟩ → Upd b h h' → Gw lo h' r 4 (flat4 (css.set i c)) → (f ()).wp h' Q) : (ixL r t 4 >>= fun a=>M.need (c.size = 4) >>= fun _=>stG a c >>= f).wp h Q:=by
  subst ht
  have hl:=G.len4 hw
  obtain ⟨b0,hb0,_,_⟩:=G.row4 hw hi
  rcases G with ⟨rfl,he⟩ | ⟨b,ty,cells,R⟩
  · cases hb0
  · have hsz:=R.size
    have hcap:=R.cap
    refine ixL_b (by omega) (by omega) R.base (need_b hc ?_)
    rw [add_mk,show 0 + (i : Int).toNat * 4 = i * 4 by omega]
    refine stR (vs:=c) R.blk (by omega) h1 (fun h' u g=>H b h' R.base u (.inr ⟨b,ty,_,R.base,R.lo,g,by rw [lay_size]; exact R.size,R.cap,?_,fun j v hj=>?_⟩))
    · rw [flat4_len (hw.set hc h1),List.length_set,hl]
    · rw [flat4_set hw i c hc hi] at hj
      have hfl:=flat4_len hw
      rw [← Array.getElem?_toList,lay_toList _ _ _ (by rw [Array.length_toList]; omega),Array.length_toList,hc]
      have hlen1 : ((flat4 css).take (i * 4)).length = i * 4:=by rw [List.length_take]; omega
      have hlen2 : (cells.toList.take (i * 4)).length = i * 4:=by rw [List.length_take,Array.length_toList]; omega
      by_cases h1 : j < i * 4
      · rw [List.append_assoc,List.getElem?_append_left (by omega),List.getElem?_take,if_pos h1] at hj
        rw [List.append_assoc,List.getElem?_append_left (by omega),List.getElem?_take,if_pos h1,Array.getElem?_toList]
        exact R.get j v hj
      · by_cases h2 : j < i * 4 + 4
        · rw [List.append_assoc,List.getElem?_append_right (by omega),hlen1,List.getElem?_append_left (by rw [Array.length_toList,hc]; omega)] at hj
          rw [List.append_assoc,List.getElem?_append_right (by omega),hlen2,List.getElem?_append_left (by rw [Array.length_toList,hc]; omega)]
          exact hj
        · rw [List.getElem?_append_right (by rw [List.length_append,hlen1,Array.length_toList,hc]; omega),List.length_append,hlen1,Array.length_toList,hc,List.getElem?_drop] at hj
          rw [List.getElem?_append_right (by rw [List.length_append,hlen2,Array.length_toList,hc]; omega),List.length_append,hlen2,Array.length_toList,hc,List.getElem?_drop,Array.getElem?_toList]
          exact R.get _ v hj
structure VGw (lo : Nat) (S : Nat → Prop) (h : Heap) (r : Sl) (css : List (Array Value)) (l : List Vl) : Prop where
  gw : Gw lo h r 4 (flat4 css)
  w4 : W4 css
  len : css.length = l.length
  rep : ∀ j (h1 : j < l.length) (h2 : j < css.length),VRepS S h l[j] css[j]
theorem VGw.nil (lo : Nat) (S : Nat → Prop) (h : Heap) : VGw lo S h Sl.nil [] []:=⟨Gw.nil _ _ _,fun c hc=>(by cases hc),rfl,fun j h1=>(by cases h1)⟩
theorem VGw.rep_ {lo : Nat} {S : Nat → Prop} {h : Heap} {r : Sl} {css : List (Array Value)} {l : List Vl} (G : VGw lo S h r css l) (hl : l.length ≤ 9223372036854775807) : VsRepS (fun b=>S b ∨ Sl.on r b) h r l :=
  ⟨by rw [G.gw.len4 G.w4,G.len],G.gw.cap,by rw [G.gw.len4 G.w4,G.len]; exact hl,VsAtS.of (fun j hj=>by
    obtain ⟨b,hb,hon,hc⟩:=G.gw.row4 G.w4 (i:=j) (by rw [G.len]; exact hj)
    exact ⟨_,css[j]'(by rw [G.len]; exact hj),hb,.inr hon,(G.w4 _ (List.getElem_mem _)).1,fun m hm=>by rw [Nat.zero_add]; exact hc m hm,(G.rep j hj (by rw [G.len]; exact hj)).mono (fun b hb=>.inl hb)⟩)⟩
theorem VGw.same {lo : Nat} {S : Nat → Prop} {h h' : Heap} {r : Sl} {css : List (Array Value)} {l : List Vl} (G : VGw lo S h r css l) (e1 : ∀ b,Sl.on r b → h'[b]? = h[b]?) (e2 : ∀ b,S b → h'[b]? = h[b]?) : VGw lo S h' r css l :=
  ⟨G.gw.same e1,G.w4,G.len,fun j h1 h2=>(G.rep j h1 h2).same e2⟩
theorem VGw.mono {lo : Nat} {S T : Nat → Prop} {h : Heap} {r : Sl} {css : List (Array Value)} {l : List Vl} (G : VGw lo S h r css l) (e : ∀ b,S b → T b) : VGw lo T h r css l :=
  ⟨G.gw,G.w4,G.len,fun j h1 h2=>(G.rep j h1 h2).mono e⟩
theorem vap_grow {lo : Nat} {S : Nat → Prop} {h : Heap} {Q : Sl → Heap → Prop} {r x : Sl} {css css' : List (Array Value)} {l l' : List Vl} (G : VGw lo S h r css l) (hlo : lo ≤ h.size) (hS : ∀ b,S b → b < h.size ∧ ¬ Sl.on r b) (hw : W4 css') (hl' : css'.length = l'.length) (hx : x.len = l'.length) (hr : Reads h x.base (flat4 css')) (hv : ∀ j (h1 : j < l'.length) (h2 : j < css'.length),VRepS S h l'[j] css'[j])
    (hm : l.length + l'.length ≤ 2199023255552)
    (hq : ∀ h' r',VGw lo S h' r' (css ++ css') (l ++ l') → h.size ≤ h'.size → (∀ i,i < h.size → ¬ Sl.on r i → h'[i]? = h[i]?) → (∀ i,Sl.on r' i → Sl.on r i ∨ h.size ≤ i) → Q r' h') : (apL ty_api_Value 4 56 (#[.int .i64 0,.int .i64 0,.string ByteArray.empty,.slice none 0 0] : Array Value) r x).wp h Q:=by
  have hrl:=G.gw.len4 G.w4
  have hgl:=G.len
  refine ap_grow (vs:=flat4 css) (news:=flat4 css') rfl G.gw (by rw [flat4_len hw,hl',hx]) hr (flat4_one hw) (by omega) (by omega) hlo (fun h' r' G' hlen hs same on_=>?_)
  have he : ∀ b,S b → h'[b]? = h[b]?:=fun b hb=>same b (hS b hb).1 (hS b hb).2
  refine hq h' r' ⟨?_,G.w4.append hw,by rw [List.length_append,List.length_append,G.len,hl'],fun j h1 h2=>?_⟩ hs same on_
  · unfold flat4 at G' ⊢
    rw [List.flatMap_append]
    exact G'
  · by_cases hj : j < l.length
    · rw [List.getElem_append_left hj,List.getElem_append_left (by rw [G.len]; exact hj)]
      exact (G.rep j hj _).same he
    · rw [List.getElem_append_right (by omega),List.getElem_append_right (by omega)]
      have h3 : css.length = l.length:=G.len
      simp only [h3]
      exact (hv _ (by rw [List.length_append] at h1; omega) _).same he
end Gx
namespace Gx
open Go
set_option linter.unusedVariables false
set_option linter.unusedSimpArgs false
theorem VsAtS.css {S : Nat → Prop} {h : Heap} : ∀ {l : List Vl} {b : Option Addr} {i : Nat},VsAtS S h l b i → ∃ css : List (Array Value),W4 css ∧ css.length = l.length ∧ (∀ j (h1 : j < l.length) (h2 : j < css.length),VRepS S h l[j] css[j]) ∧ (∀ j (h2 : j < css.length),∃ a,b = some a ∧ ∀ m,m < 4 → hcell h (a.add ((i + j) * 4 + m)) = css[j][m]?)
  | [],_,_,_=>⟨[],fun c hc=>(by cases hc),rfl,fun j h1=>(by cases h1),fun j h1=>(by cases h1)⟩
  | v :: l,b,i,H=>by
    rw [VsAtS] at H
    obtain ⟨⟨a,cs,ha,hS,hs,hc,hv⟩,H2⟩:=H
    obtain ⟨css,h1,h2,h3,h4⟩:=VsAtS.css H2
    refine ⟨cs :: css,?_,by simp [h2],?_,?_⟩
    · intro c hc
      rcases List.mem_cons.1 hc with rfl | hc
      · exact ⟨hs,hv.to.one⟩
      · exact h1 c hc
    · intro j j1 j2
      cases j with
      | zero=>exact hv
      | succ j=>exact h3 j (by simpa using j1) (by simpa using j2)
    · intro j j2
      cases j with
      | zero=>exact ⟨a,ha,hc⟩
      | succ j =>
        obtain ⟨a',ha',h5⟩:=h4 j (by simpa using j2)
        refine ⟨a',ha',fun m hm=>?_⟩
        rw [show i + (j + 1) = i + 1 + j by omega]
        exact h5 m hm
theorem VsRepS.css {S : Nat → Prop} {h : Heap} {x : Sl} {l : List Vl} (H : VsRepS S h x l) : ∃ css : List (Array Value),W4 css ∧ css.length = l.length ∧ (∀ j (h1 : j < l.length) (h2 : j < css.length),VRepS S h l[j] css[j]) ∧ Reads h x.base (flat4 css):=by
  obtain ⟨css,h1,h2,h3,h4⟩:=H.at_.css
  refine ⟨css,h1,h2,h3,?_⟩
  cases hc : css with
  | nil=>exact .inl rfl
  | cons c r =>
    rw [← hc]
    obtain ⟨a,ha,_⟩:=h4 0 (by rw [hc]; simp)
    refine .inr ⟨a,ha,fun n v hn=>?_⟩
    have hlt:=(List.getElem?_eq_some_iff.1 hn).1
    rw [flat4_len h1] at hlt
    have hj : n / 4 < css.length:=by omega
    obtain ⟨a',ha',h5⟩:=h4 (n / 4) hj
    rw [ha] at ha'; cases ha'
    have h6:=flat4_get h1 (n / 4) (n % 4) (by omega)
    rw [show n / 4 * 4 + n % 4 = n by omega,hn,List.getElem?_eq_getElem hj] at h6
    have h7:=h5 (n % 4) (by omega)
    rw [show (0 + n / 4) * 4 + n % 4 = n by omega] at h7
    rw [h7]
    exact h6.symm
theorem vreps_lt {S : Nat → Prop} {h : Heap} : ∀ (m : Nat) (v : Vl) (cs : Array Value),sizeOf v < m → VRepS S h v cs → VRepS (fun b=>S b ∧ b < h.size) h v cs:=by
  intro m
  induction m with
  | zero=>intro v cs hm; omega
  | succ m ih =>
    rintro ⟨k,n,s,l⟩ cs hm H
    obtain ⟨x,h1,h2,h3,h4,h5⟩:=VRepS.eq.1 H
    refine VRepS.eq.2 ⟨x,h1,h2,h3,h4,h5.len,h5.cap,h5.big,VsAtS.of (fun j hj=>?_)⟩
    obtain ⟨a,cs',ha,hS,hs,hc,hv⟩:=h5.at_.get hj
    refine ⟨a,cs',ha,⟨hS,?_⟩,hs,hc,ih _ _ (vl_lt hm hj) hv⟩
    have h0:=hc 0 (by decide)
    rw [Array.getElem?_eq_getElem (by omega)] at h0
    have:=hcell_lt h0
    rwa [add_block] at this
theorem VRepS.lt2 {S : Nat → Prop} {h : Heap} {v : Vl} {cs : Array Value} (H : VRepS S h v cs) : VRepS (fun b=>S b ∧ b < h.size) h v cs:=vreps_lt _ v cs (Nat.lt_succ_self _) H
theorem vcells_one (k n : Int) (s : List UInt8) (x : Sl) : ∀ v ∈ (vcells k n s x).toList,one v = true:=fun v hv=>by
  simp only [vcells,List.mem_cons,List.not_mem_nil,or_false] at hv
  rcases hv with rfl | rfl | rfl | rfl <;> first | rfl | exact one_v _
theorem sclone_spec {S : Nat → Prop} {h : Heap} {Q : Sl → Heap → Prop} {x : Sl} {l : List Vl} (hx : VsRepS S h x l) (hS : ∀ b,S b → b < h.size) (hm : l.length ≤ 1099511627776)
    (H : ∀ h' r css,Ext h h' → VGw h.size S h' r css l → Q r h') : (slices_Clone_slapi_Value_api_Value x).wp h Q:=by
  unfold slices_Clone_slapi_Value_api_Value
  refine ite_w (fun hn=>?_) (fun hn=>?_)
  · have hb : x.base = none:=by simpa using hn
    have hl : l = []:=by
      cases hl : l with
      | nil=>rfl
      | cons v r =>
        obtain ⟨a,cs,ha,_⟩:=hx.get (j:=0) (by rw [hl]; simp)
        rw [hb] at ha; cases ha
    subst hl
    exact pure_w (H _ _ _ (Ext.refl _) (VGw.nil _ _ _))
  · refine ⟨zRow (#[.int .i64 0,.int .i64 0,.string ByteArray.empty,.slice none 0 0] : Array Value) 0,rfl,bdL_b ?_⟩
    have e1:=Ext.push h (.cells (zRow (#[.int .i64 0,.int .i64 0,.string ByteArray.empty,.slice none 0 0] : Array Value) 0) ty_api_Value)
    have g1 : (h.push (.cells (zRow (#[.int .i64 0,.int .i64 0,.string ByteArray.empty,.slice none 0 0] : Array Value) 0) ty_api_Value))[h.size]? = some (.cells (zRow (#[.int .i64 0,.int .i64 0,.string ByteArray.empty,.slice none 0 0] : Array Value) 0) ty_api_Value (0,0)):=get_push_eq
    have hs1 : (h.push (.cells (zRow (#[.int .i64 0,.int .i64 0,.string ByteArray.empty,.slice none 0 0] : Array Value) 0) ty_api_Value)).size = h.size + 1:=by simp
    generalize h.push (.cells (zRow (#[.int .i64 0,.int .i64 0,.string ByteArray.empty,.slice none 0 0] : Array Value) 0) ty_api_Value) = h1 at e1 g1 hs1 ⊢
    obtain ⟨css,w4,hcl,hrep,hrd⟩:=hx.css
    have G1 : VGw h.size S h1 ⟨some ⟨h.size,0,none⟩,0,0⟩ [] []:=⟨.inr ⟨h.size,_,_,rfl,Nat.le_refl _,g1,zRow_size _ _,Nat.le_refl _,rfl,fun j v hj=>(by cases hj)⟩,fun c hc=>(by cases hc),rfl,fun j h1=>(by cases h1)⟩
    refine bind_w (vap_grow (l':=l) (css':=css) G1 e1.size (fun b hb=>⟨by have:=hS b hb; omega,fun ⟨a,ha,hab⟩=>by cases ha; have : h.size = b:=hab; have:=hS b hb; omega⟩) w4 hcl hx.len (e1.reads hrd) (fun j h1' h2=>(hrep j h1' h2).same (fun b hb=>e1.same b (hS b hb))) (by simp; omega) (fun h2 r G2 hs same on_=>pure_w (H h2 r css ?_ (by simpa using G2))))
    exact ⟨Nat.le_trans e1.size hs,fun i hi=>(same i (Nat.lt_of_lt_of_le hi e1.size) (fun ⟨a,ha,hab⟩=>by cases ha; have : h.size = i:=hab; omega)).trans (e1.same i hi)⟩
theorem set_cells3 {h : Heap} {b : Nat} {k n : Int} {s : List UInt8} {x y : Sl} {t : TypeId} (hb : h[b]? = some (.cells (vcells k n s x) t (0,0))) : (hset h ⟨b,3,none⟩ y.v)[b]? = some (.cells (vcells k n s y) t (0,0)):=by
  rw [hset_at hb]; rfl
theorem vclone_spec : ∀ (m : Nat) (v : Vl) {h : Heap} {Q : Array Value → Heap → Prop} {x : Array Value},sizeOf v < m → VRep h v x → wt v ≤ 1099511627776 → (∀ h' c,Ext h h' → VRepS (h.size ≤ ·) h' v c → Q c h') → (value_Clone x).wp h Q:=by
  intro m
  induction m with
  | zero=>intro v h Q x hm; omega
  | succ m ih =>
    rintro ⟨k,n,s,l⟩ h Q x hm hx hw H
    obtain ⟨xs,rfl,k1,n1,s1,r1⟩:=VRep.eq.1 hx
    rw [wt] at hw
    have hcnt:=wts_len l
    unfold value_Clone
    refine mkV_b (fun h1 e1 z1 g1=>mkV_b (fun h2 e2 z2 g2=>?_))
    have E2:=e1.trans e2
    have g1':=e2.blk g1
    have c3 : hcell h2 ((⟨h.size,0,none⟩ : Addr).add 3) = some xs.v:=by rw [blk_cell g1']; rfl
    have rS : VsRepS (· < h.size) h2 xs l:=r1.lt.same (fun b hb=>E2.same b hb) (fun _ h=>h)
    refine ldL_b c3 (bind_w (sclone_spec rS (fun b hb=>Nat.lt_of_lt_of_le hb E2.size) (by omega) (fun h3 y css e3 G3=>?_)))
    have g1'':=e3.blk g1'
    have g2'':=e3.blk g2
    refine stV_b (x:=xs.v) (e3.cell c3) (by rw [add_mk,hfrozen_blk g1'']) (one_v _) ?_
    rw [add_mk,Nat.zero_add]
    have u4:=Upd.hset h3 h.size 3 y.v
    have g4:=set_cells3 (y:=y) g1''
    generalize hset h3 ⟨h.size,3,none⟩ y.v = h4 at u4 g4 ⊢
    have yon : ∀ b,Sl.on y b → h2.size ≤ b ∧ b < h3.size:=fun b hb=>⟨(G3.gw.lt hb).2,(G3.gw.lt hb).1⟩
    have hs1 : h1.size = h.size + 1:=z1
    have hs2 : h2.size = h1.size + 1:=z2
    have hs3:=e3.size
    have E4 : Ext h h4:=(E2.trans e3).upd u4 (Nat.le_refl _)
    have g24 : h4[h1.size]? = _:=(u4.ne _ (by omega)).trans g2''
    have cy : ∀ {hh : Heap},hh[h.size]? = some (.cells (vcells k n s y) ty_api_Value (0,0)) → hcell hh ((⟨h.size,0,none⟩ : Addr).add 3) = some y.v:=fun hb=>by rw [blk_cell hb]; rfl
    refine ldL_b (cy g4) ?_
    have hyl : y.len = l.length:=by rw [G3.gw.len4 G3.w4,G3.len]
    rw [hyl]
    refine M.loop_inv (fun (t : Int) hh=>∃ (i : Nat) (css : List (Array Value)),t = (i : Int) ∧ i ≤ l.length ∧ Gw h2.size hh y 4 (flat4 css) ∧ W4 css ∧ css.length = l.length ∧ (∀ j (j1 : j < l.length) (j2 : j < css.length),j < i → VRepS (h3.size ≤ ·) hh l[j] css[j]) ∧ (∀ j (j1 : j < l.length) (j2 : j < css.length),i ≤ j → VRepS (· < h.size) hh l[j] css[j]) ∧ Ext h hh ∧ h3.size ≤ hh.size ∧ hh[h.size]? = some (.cells (vcells k n s y) ty_api_Value (0,0)) ∧ hh[h1.size]? = h4[h1.size]?) (fun t _=>((l.length : Int) - t).toNat) ?_
      ⟨0,css,rfl,Nat.zero_le _,G3.gw.same (fun b hb=>u4.ne b (by have:=(yon b hb).1; omega)),G3.w4,G3.len,fun j j1 j2 h0=>by omega,fun j j1 j2 _=>(G3.rep j j1 j2).same (fun b hb=>u4.ne b (by omega)),E4,by rw [u4.size]; exact Nat.le_refl _,g4,rfl⟩
    rintro t hh ⟨i,css,rfl,hi,G,w4,hcl,hnew,hold,E,hsz,gb,gz⟩ self hself
    unfold value_Clone_l1
    refine ite_w (fun hc=>?_) (fun hc=>?_)
    · have hlt : i < l.length:=by have:=of_decide_eq_true hc; omega
      have hlc : i < css.length:=by omega
      refine ldL_b (cy gb) (ldL_b (cy gb) ?_)
      obtain ⟨b,hb,hon,hrow⟩:=G.row4 w4 hlc
      have hv:=hold i hlt hlc (Nat.le_refl _)
      have hi4 : (i : Int).toNat * 4 = i * 4:=by omega
      refine ixL_b (by omega) (by omega) hb (ldG_b hv.size (fun j hj=>by rw [Addr.add_add,hi4]; exact hrow j hj) ?_)
      have hwi:=wts_mem (List.getElem_mem hlt)
      refine bind_w (callF_w (S_value_Clone _) (ih l[i] (vl_lt hm hlt) hv.to (by omega) (fun h5 c e5 hc5=>?_)))
      have hcell5 : ∀ j,j < 4 → hcell h5 (((⟨b,0,none⟩ : Addr).add ((i : Int).toNat * 4)).add j) = css[i][j]?:=fun j hj=>by
        rw [Addr.add_add,hi4]
        have h6:=hrow j hj
        have h7 : css[i][j]? = some (css[i][j]'(by rw [hv.size]; exact hj)):=Array.getElem?_eq_getElem _
        rw [h7] at h6 ⊢
        exact e5.cell h6
      have G5:=G.ext e5
      refine chk_b ⟨e5.cell (cy gb),e5.cell (cy gb),hv.size,hcell5⟩ ?_
      refine vset_b G5 w4 hlc rfl hc5.size hc5.to.one (fun b' h6 hb' u6 G6=>?_)
      rw [hb] at hb'; cases hb'
      have hbl:=yon b hon
      have hcs : ∀ j (j1 : j < (css.set i c).length) (j2 : j < css.length),i ≠ j → (css.set i c)[j] = css[j]:=fun j j1 j2 hne=>List.getElem_set_ne hne _
      have hs5:=e5.size
      rw [w64 (by omega) (by omega)]
      refine hself _ _ ⟨i + 1,css.set i c,by simp,by omega,G6,w4.set hc5.size hc5.to.one,by rw [List.length_set]; exact hcl,fun j j1 j2 hj=>?_,fun j j1 j2 hj=>?_,(E.trans e5).upd u6 (by omega),by rw [u6.size]; omega,?_,?_⟩ (by omega)
      · by_cases hji : i = j
        · subst hji
          rw [List.getElem_set_self]
          exact (hc5.same (fun b1 hb1=>u6.ne b1 (by omega))).mono (fun b1 hb1=>by omega)
        · rw [hcs j j2 (by rw [hcl]; exact j1) hji]
          have:=hnew j j1 (by rw [hcl]; exact j1) (by omega)
          exact (this.lt2.same (fun b1 hb1=>(u6.ne b1 (by omega)).trans (e5.same b1 hb1.2))).mono (fun b1 hb1=>hb1.1)
      · rw [hcs j j2 (by rw [hcl]; exact j1) (by omega)]
        exact (hold j j1 (by rw [hcl]; exact j1) (by omega)).same (fun b1 hb1=>(u6.ne b1 (by omega)).trans (e5.same b1 (by have:=E.size; omega)))
      · rw [u6.ne _ (by omega)]; exact e5.blk gb
      · rw [u6.ne _ (by omega),← gz]
        exact e5.same _ (by omega)
    · have hge : i = l.length:=by have:=of_decide_eq_false hc; omega
      subst hge
      refine ldG_b (cs:=vcells k n s y) rfl (fun j hj=>by rw [blk_cell gb]) (need_b rfl ?_)
      rw [g24] at gz
      refine stR (vs:=vcells k n s y) (off:=0) gz (Nat.le_refl 4) (vcells_one k n s y) (fun h7 u7 g7=>?_)
      rw [lay_full (by rfl),Array.toArray_toList] at g7
      refine ldG_b (cs:=vcells k n s y) rfl (fun j hj=>by rw [blk_cell g7]) (pure_w (H _ _ (E.upd u7 (by omega)) ?_))
      have hG : VGw h2.size (h3.size ≤ ·) h7 y css l:=⟨G.same (fun b hb=>u7.ne b (by have:=(yon b hb).1; omega)),w4,hcl,fun j j1 j2=>(hnew j j1 j2 j1).same (fun b hb=>u7.ne b (by omega))⟩
      exact VRepS.eq.2 ⟨y,rfl,k1,n1,s1,(hG.rep_ (by omega)).same (fun _ _=>rfl) (fun b hb=>hb.elim (fun hb=>by omega) (fun hb=>by have:=(yon b hb).1; omega))⟩

def vl0 : Vl:=.mk 0 0 [] []
theorem vl0_rep (S : Nat → Prop) (h : Heap) : VRepS S h vl0 (#[.int .i64 0,.int .i64 0,.string ByteArray.empty,.slice none 0 0] : Array Value) :=
  VRepS.eq.2 ⟨Sl.nil,rfl,⟨by decide,by decide⟩,⟨by decide,by decide⟩,by decide,rfl,Nat.le_refl _,by decide,by rw [VsAtS]; trivial⟩
end Gx
namespace Go.Proofs.YthelieedlghccaaGreatDoor
open Go Go.RowKit Gx
set_option linter.unusedVariables false
set_option maxRecDepth 100000
theorem c24 : Tryz.prog.cellsOf 24 = 4:=by kernel_rfl
theorem c3 : Tryz.prog.cellsOf 3 = 1:=by kernel_rfl
theorem c2 : Tryz.prog.cellsOf 2 = 1:=by kernel_rfl
theorem c9 : Tryz.prog.cellsOf 9 = 1:=by kernel_rfl
theorem c22 : Tryz.prog.cellsOf 22 = 1:=by kernel_rfl
theorem wts_bulk {H : Type} : ∀ (l : List Vl) (es : List (DataW H)),l.length = es.length → (∀ i (h1 : i < l.length) (h2 : i < es.length),wt l[i] ≤ Rows.uptoBulk es[i]) → wt.wts l ≤ Rows.uptoBulkAll es
  | [],[],_,_=>by simp [wt.wts]
  | [],_ :: _,h,_=>by simp at h
  | _ :: _,[],h,_=>by simp at h
  | v :: l,d :: es,h,hk=>by
    have h0:=hk 0 (by simp) (by simp)
    have:=wts_bulk l es (by simpa using h) (fun i h1 h2=>by
      have:=hk (i + 1) (by simpa using h1) (by simpa using h2)
      simpa using this)
    simp only [List.getElem_cons_zero] at h0
    rw [wt.wts]
    simp only [Rows.uptoBulkAll]
    omega
section
variable {H : Type} {enc : TypeId × Value → H}
theorem trod_i64 {W : World} {t : TypeId} {n : Nat} {c : Value} {x : DataW H × List MemPlace} {sp : Nat → Bool} {held : Bool} {base : Nat} (ht : Tryz.prog.underlying t = some (.int .i64)) (h : DataW.trod enc Tryz.prog W base sp held n t [c] = some x) : ∃ z,c = .int .i64 z ∧ I64 z ∧ Rows.uptoBulk x.1 = 1:=by
  cases n with
  | zero=>simp [DataW.trod] at h
  | succ n =>
    unfold DataW.trod at h
    rw [ht] at h
    cases c with
    | int k z =>
      simp only at h
      split at h
      · rename_i hk
        obtain ⟨rfl,hw⟩:=hk
        cases h
        refine ⟨z,rfl,?_,by simp [Rows.uptoBulk]⟩
        have : -9223372036854775808 ≤ z ∧ z ≤ 9223372036854775807:=by simpa [Lit.wf,IntKind.min,IntKind.max,IntKind.signed,IntKind.bits] using hw
        exact this
      · cases h
    | _=>simp at h
theorem trod_str {W : World} {t : TypeId} {n : Nat} {c : Value} {x : DataW H × List MemPlace} {sp : Nat → Bool} {held : Bool} {base : Nat} (ht : Tryz.prog.underlying t = some .string) (h : DataW.trod enc Tryz.prog W base sp held n t [c] = some x) : ∃ s : ByteArray,c = .string s ∧ s.size ≤ maxLen ∧ Rows.uptoBulk x.1 = s.data.toList.length + 1:=by
  cases n with
  | zero=>simp [DataW.trod] at h
  | succ n =>
    unfold DataW.trod at h
    rw [ht] at h
    cases c with
    | string s =>
      simp only at h
      split at h
      · rename_i hk
        cases h
        exact ⟨s,rfl,hk,by simp [Rows.uptoBulk]⟩
      · cases h
    | _=>simp at h
theorem open_vals {W : World} {sp : Nat → Bool} {held : Bool} {base : Nat} : ∀ (m : Nat),
    (∀ (cs : List Value) (x : DataW H × List MemPlace),DataW.trod enc Tryz.prog W base sp held m 24 cs = some x → ∃ v,VRep W.heap v cs.toArray ∧ wt v ≤ Rows.uptoBulk x.1) ∧
    (∀ (v : Value) (x : DataW H × List MemPlace),DataW.trod enc Tryz.prog W base sp held m 22 [v] = some x → ∃ (s : Sl) (l : List Vl),v = s.v ∧ VsRep W.heap s l ∧ wt.wts l + 1 ≤ Rows.uptoBulk x.1):=by
  intro m
  induction m with
  | zero=>exact ⟨fun cs x h=>by simp [DataW.trod] at h,fun v x h=>by simp [DataW.trod] at h⟩
  | succ m ih =>
    refine ⟨fun cs x h=>?_,fun v x h=>?_⟩
    · obtain ⟨xs,n,hn,hx,hcl,hxl,hf⟩:=DataW.trod_struct Tryz.underlying24 h
      obtain rfl : m = n:=by omega
      rw [c24] at hcl
      have hxl : xs.length = 4:=hxl
      match cs,hcl with
      | [a0,a1,a2,a3],_ =>
      match xs,hxl with
      | [y0,y1,y2,y3],_ =>
      have f0 : DataW.trod enc Tryz.prog W base sp held m 3 (([a0,a1,a2,a3].drop 0).take (Tryz.prog.cellsOf 3)) = some y0:=hf 0 _ rfl
      have f1 : DataW.trod enc Tryz.prog W base sp held m 2 (([a0,a1,a2,a3].drop 1).take (Tryz.prog.cellsOf 2)) = some y1:=hf 1 _ rfl
      have f2 : DataW.trod enc Tryz.prog W base sp held m 9 (([a0,a1,a2,a3].drop 2).take (Tryz.prog.cellsOf 9)) = some y2:=hf 2 _ rfl
      have f3 : DataW.trod enc Tryz.prog W base sp held m 22 (([a0,a1,a2,a3].drop 3).take (Tryz.prog.cellsOf 22)) = some y3:=hf 3 _ rfl
      rw [c3] at f0
      rw [c2] at f1
      rw [c9] at f2
      rw [c22] at f3
      obtain ⟨k,rfl,hk,b0⟩:=trod_i64 Tryz.underlying3 f0
      obtain ⟨nn,rfl,hnn,b1⟩:=trod_i64 Tryz.underlying2 f1
      obtain ⟨s,rfl,hs,b2⟩:=trod_str Tryz.underlying9 f2
      obtain ⟨sl,l,rfl,hl,b3⟩:=ih.2 _ _ f3
      have hsb : bs s.data.toList = s:=by simp [bs]
      refine ⟨.mk k nn s.data.toList l,VRep.eq.2 ⟨sl,by unfold vcells; rw [hsb],hk,hnn,?_,hl⟩,?_⟩
      · have : s.data.toList.length = s.size:=Array.length_toList
        rw [this]; unfold maxLen at hs; omega
      · rw [wt,hx]
        simp only [List.map_cons,List.map_nil,Rows.uptoBulk,Rows.uptoBulkAll]
        omega
    · rcases DataW.trod_slice Tryz.underlying22 h with ⟨h0,hx⟩ | ⟨a,len,cap,elems,rest,n,hn,h1,hx,_,hle,hm,hlen,hel,_,_⟩
      · cases h0
        refine ⟨Sl.nil,[],rfl,VsRep.nil _,?_⟩
        rw [hx]; simp [wt.wts,Rows.uptoBulk]
      · cases h1
        obtain rfl : m = n:=by omega
        rw [c24] at hel
        have key : ∀ i,i < len → ∃ (v : Vl) (cs : Array Value),cs.size = 4 ∧ (∀ j,j < 4 → hcell W.heap (a.add (i * 4 + j)) = cs[j]?) ∧ VRep W.heap v cs ∧ ∀ (h : i < elems.length),wt v ≤ Rows.uptoBulk (elems[i]).1:=fun i hi=>by
          have h2:=hel i hi
          rw [List.getElem?_eq_getElem (by omega),Option.bind_eq_some_iff] at h2
          obtain ⟨cs,hcs,ht⟩:=h2
          obtain ⟨_,hl1,hc⟩:=World.cells?_some hcs
          obtain ⟨v,hv,hw⟩:=ih.1 _ _ ht
          refine ⟨v,cs.toArray,by simpa using hl1,fun j hj=>?_,hv,fun _=>hw⟩
          have:=hc j hj
          rw [Addr.add_add] at this
          rw [cell_h] at this
          rw [this]; simp
        let l:=List.ofFn (fun i : Fin len=>Classical.choose (key i i.2))
        have hL : l.length = len:=by simp [l]
        have hget : ∀ i (h : i < l.length),∃ cs : Array Value,cs.size = 4 ∧ (∀ j,j < 4 → hcell W.heap (a.add (i * 4 + j)) = cs[j]?) ∧ VRep W.heap l[i] cs ∧ ∀ (h : i < elems.length),wt l[i] ≤ Rows.uptoBulk (elems[i]).1:=fun i h=>by
          have:=Classical.choose_spec (key i (by omega))
          simpa [l] using this
        have hmx : len ≤ 9223372036854775807:=by unfold maxLen at hm; omega
        refine ⟨⟨some a,len,cap⟩,l,rfl,⟨hL.symm,hle,hmx,VsAt.of (fun j hj=>?_)⟩,?_⟩
        · obtain ⟨cs,h1,h2,h3,_⟩:=hget j hj
          exact ⟨a,cs,rfl,h1,fun i hi=>by rw [Nat.zero_add]; exact h2 i hi,h3⟩
        · rw [hx]
          have:=wts_bulk l (elems.map (·.1)) (by rw [hL,List.length_map,hlen]) (fun i h1 h2=>by
            obtain ⟨_,_,_,_,h4⟩:=hget i h1
            rw [List.getElem_map]
            exact h4 (by simpa using h2))
          simp only [Rows.uptoBulk]
          omega
end
end Go.Proofs.YthelieedlghccaaGreatDoor
namespace Gx
open Go
set_option linter.unusedVariables false
set_option linter.unusedSimpArgs false
structure Tri (ab bc ac : Int) : Prop where
  tr : ab < 0 → bc < 0 → ac < 0
  z1 : ab = 0 → ac = bc
  z2 : bc = 0 → ac = ab
theorem Tri.cOr {x y z x' y' z' : Int} (h : Tri x y z) (h' : x = 0 → y = 0 → Tri x' y' z') : Tri (cOr x x') (cOr y y') (cOr z z'):=by
  unfold Gx.cOr
  obtain ⟨t,a,b⟩:=h
  by_cases hx : x = 0
  · have hz:=a hx
    by_cases hy : y = 0
    · have hz0 : z = 0:=by omega
      rw [if_pos hx,if_pos hy,if_pos hz0]
      exact h' hx hy
    · have hz0 : ¬ z = 0:=by omega
      rw [if_pos hx,if_neg hy,if_neg hz0]
      refine ⟨fun h1 h2=>by omega,fun h1=>hz,fun h1=>by omega⟩
  · by_cases hy : y = 0
    · have hz:=b hy
      have hz0 : ¬ z = 0:=by omega
      rw [if_neg hx,if_pos hy,if_neg hz0]
      exact ⟨fun h1 h2=>by omega,fun h1=>by omega,fun h1=>hz⟩
    · rw [if_neg hx,if_neg hy]
      refine ⟨fun h1 h2=>?_,fun h1=>by omega,fun h1=>by omega⟩
      have:=t h1 h2
      rw [if_neg (by omega)]; exact this
theorem cmpI_tri (a b c : Int) : Tri (cmpI a b) (cmpI b c) (cmpI a c):=by
  unfold cmpI
  constructor <;> (repeat' split) <;> intros <;> omega
theorem cmpI_anti (a b : Int) : cmpI b a = - cmpI a b:=by
  unfold cmpI
  (repeat' split) <;> omega
theorem cmpI_eq (a b : Int) : cmpI a b = 0 ↔ a = b:=by
  unfold cmpI
  (repeat' split) <;> omega
theorem cOr_anti {x x' y y' : Int} (h : x' = -x) (h' : x = 0 → y' = -y) : cOr x' y' = - cOr x y:=by
  unfold cOr
  by_cases hx : x = 0
  · rw [if_pos hx,if_pos (by omega)]; exact h' hx
  · rw [if_neg hx,if_neg (by omega)]; exact h
theorem cOr_zero {x y : Int} : cOr x y = 0 ↔ x = 0 ∧ y = 0:=by
  unfold cOr
  by_cases hx : x = 0
  · rw [if_pos hx]; simp [hx]
  · rw [if_neg hx]; simp [hx]
def cmpL {α : Type} (f : α → α → Int) : List α → List α → Int
  | [],[]=>0
  | [],_ :: _=>-1
  | _ :: _,[]=>1
  | a :: l,b :: l'=>cOr (f a b) (cmpL f l l')
theorem cmpL_anti {α : Type} {f : α → α → Int} : ∀ {l l' : List α},(∀ a ∈ l,∀ b ∈ l',f b a = - f a b) → cmpL f l' l = - cmpL f l l'
  | [],[],_=>rfl
  | [],_ :: _,_=>rfl
  | _ :: _,[],_=>rfl
  | a :: l,b :: l',h=>cOr_anti (h a (by simp) b (by simp)) (fun _=>cmpL_anti (fun x hx y hy=>h x (List.mem_cons_of_mem _ hx) y (List.mem_cons_of_mem _ hy)))
theorem cmpL_eq {α : Type} {f : α → α → Int} : ∀ {l l' : List α},(∀ a ∈ l,∀ b ∈ l',f a b = 0 ↔ a = b) → (cmpL f l l' = 0 ↔ l = l')
  | [],[],_=>by simp [cmpL]
  | [],_ :: _,_=>by simp [cmpL]
  | _ :: _,[],_=>by simp [cmpL]
  | a :: l,b :: l',h=>by
    rw [cmpL,cOr_zero,h a (by simp) b (by simp),cmpL_eq (fun x hx y hy=>h x (List.mem_cons_of_mem _ hx) y (List.mem_cons_of_mem _ hy))]
    simp
theorem cmpL_tri {α : Type} {f : α → α → Int} : ∀ {l l' l'' : List α},(∀ a ∈ l,∀ b ∈ l',∀ c ∈ l'',Tri (f a b) (f b c) (f a c)) → Tri (cmpL f l l') (cmpL f l' l'') (cmpL f l l'')
  | [],[],[],_=>by simp only [cmpL]; constructor <;> intros <;> omega
  | [],[],_ :: _,_=>by simp only [cmpL]; constructor <;> intros <;> omega
  | [],_ :: _,[],_=>by simp only [cmpL]; constructor <;> intros <;> omega
  | [],b :: l',c :: l'',_=>by
    show Tri (-1) (cmpL f (b :: l') (c :: l'')) (-1)
    constructor <;> intros <;> omega
  | _ :: _,[],[],_=>by simp only [cmpL]; constructor <;> intros <;> omega
  | _ :: _,[],_ :: _,_=>by simp only [cmpL]; constructor <;> intros <;> omega
  | a :: l,b :: l',[],_=>by
    show Tri (cmpL f (a :: l) (b :: l')) 1 1
    constructor <;> intros <;> omega
  | a :: l,b :: l',c :: l'',h=>Tri.cOr (h a (by simp) b (by simp) c (by simp)) (fun _ _=>cmpL_tri (fun x hx y hy z hz=>h x (List.mem_cons_of_mem _ hx) y (List.mem_cons_of_mem _ hy) z (List.mem_cons_of_mem _ hz)))
def cmpU (a b : UInt8) : Int:=cmpI (a.toNat : Int) (b.toNat : Int)
theorem cmpB_L : ∀ s t : List UInt8,Lib.compareBytes s t = cmpL cmpU s t
  | [],[]=>rfl
  | [],_ :: _=>rfl
  | _ :: _,[]=>rfl
  | a :: s,b :: t=>by
    rw [compareBytes_cons,cmpL,cOr,cmpB_L s t]
    have : cmpU a b = 0 ↔ a = b:=by
      unfold cmpU
      rw [cmpI_eq,← UInt8.toNat_inj]; omega
    by_cases h : a = b
    · rw [if_pos h,if_pos (this.2 h)]
    · rw [if_neg h,if_neg (fun h'=>h (this.1 h'))]; rfl
theorem cmpU_eq (a b : UInt8) : cmpU a b = 0 ↔ a = b:=by
  unfold cmpU
  rw [cmpI_eq,← UInt8.toNat_inj]; omega
theorem cmpVs_L : ∀ l l' : List Vl,cmpVs l l' = cmpL cmpV l l'
  | [],[]=>by simp [cmpVs,cmpL]
  | [],_ :: _=>by simp [cmpVs,cmpL]
  | _ :: _,[]=>by simp [cmpVs,cmpL]
  | a :: l,b :: l'=>by rw [cmpVs,cmpL,cmpVs_L l l']
theorem cmpV_mk (k n k' n' : Int) (s s' : List UInt8) (l l' : List Vl) : cmpV (.mk k n s l) (.mk k' n' s' l') = cOr (cmpI k k') (cOr (cmpI n n') (cOr (cmpL cmpU s s') (cmpL cmpV l l'))):=by
  rw [cmpV,cmpB_L,cmpVs_L]
theorem mem_lt {k n : Int} {s : List UInt8} {l : List Vl} {m : Nat} {v : Vl} (hm : sizeOf (Vl.mk k n s l) < m + 1) (hv : v ∈ l) : sizeOf v < m:=by
  have:=List.sizeOf_lt_of_mem hv
  simp only [Vl.mk.sizeOf_spec] at hm
  omega
theorem cmpV_anti_ : ∀ (m : Nat) (a b : Vl),sizeOf a < m → cmpV b a = - cmpV a b:=by
  intro m
  induction m with
  | zero=>intro a b h; omega
  | succ m ih =>
    rintro ⟨k,n,s,l⟩ ⟨k',n',s',l'⟩ hm
    rw [cmpV_mk,cmpV_mk]
    exact cOr_anti (cmpI_anti _ _) (fun _=>cOr_anti (cmpI_anti _ _) (fun _=>cOr_anti (cmpL_anti (fun a _ b _=>cmpI_anti _ _)) (fun _=>cmpL_anti (fun a ha b hb=>ih a b (mem_lt hm ha)))))
theorem cmpV_anti (a b : Vl) : cmpV b a = - cmpV a b:=cmpV_anti_ _ a b (Nat.lt_succ_self _)
theorem cmpV_eq_ : ∀ (m : Nat) (a b : Vl),sizeOf a < m → (cmpV a b = 0 ↔ a = b):=by
  intro m
  induction m with
  | zero=>intro a b h; omega
  | succ m ih =>
    rintro ⟨k,n,s,l⟩ ⟨k',n',s',l'⟩ hm
    rw [cmpV_mk,cOr_zero,cOr_zero,cOr_zero,cmpI_eq,cmpI_eq,cmpL_eq (fun a _ b _=>cmpU_eq a b),cmpL_eq (fun a ha b hb=>ih a b (mem_lt hm ha))]
    simp
theorem cmpV_eq (a b : Vl) : cmpV a b = 0 ↔ a = b:=cmpV_eq_ _ a b (Nat.lt_succ_self _)
theorem cmpV_tri_ : ∀ (m : Nat) (a b c : Vl),sizeOf a < m → Tri (cmpV a b) (cmpV b c) (cmpV a c):=by
  intro m
  induction m with
  | zero=>intro a b c h; omega
  | succ m ih =>
    rintro ⟨k,n,s,l⟩ ⟨k',n',s',l'⟩ ⟨k'',n'',s'',l''⟩ hm
    rw [cmpV_mk,cmpV_mk,cmpV_mk]
    exact Tri.cOr (cmpI_tri _ _ _) (fun _ _=>Tri.cOr (cmpI_tri _ _ _) (fun _ _=>Tri.cOr (cmpL_tri (fun a _ b _ c _=>cmpI_tri _ _ _)) (fun _ _=>cmpL_tri (fun a ha b hb c hc=>ih a b c (mem_lt hm ha)))))
theorem cmpV_tri (a b c : Vl) : Tri (cmpV a b) (cmpV b c) (cmpV a c):=cmpV_tri_ _ a b c (Nat.lt_succ_self _)
theorem cmpV_self (a : Vl) : cmpV a a = 0:=(cmpV_eq a a).2 rfl
theorem cmpV_trans {a b c : Vl} (h1 : cmpV a b < 0) (h2 : cmpV b c < 0) : cmpV a c < 0:=(cmpV_tri a b c).tr h1 h2
theorem cmpV_lt_or (a b : Vl) : cmpV a b < 0 ∨ a = b ∨ cmpV b a < 0:=by
  have:=cmpV_anti a b
  have:=cmpV_eq a b
  by_cases h : cmpV a b = 0
  · exact .inr (.inl (this.1 h))
  · omega
end Gx
namespace Gx
open Go Go.Proofs Go.Shelf Go.RowKit Go.Lib
set_option linter.unusedVariables false
set_option linter.unusedSimpArgs false
set_option maxRecDepth 100000
theorem Gw.ix1 {β : Type} {lo : Nat} {h : Heap} {Q : β → Heap → Prop} {r : Sl} {vs : List Value} {i : Nat} {t : Int} {v : Value} {f : Addr → M β} (G : Gw lo h r 1 vs) (hi : vs[i]? = some v) (ht : t = (i : Int))
    (H : ∀ b,r.base = some ⟨b,0,none⟩ → hcell h ⟨b,i,none⟩ = some v → hfrozen h ⟨b,i,none⟩ = false → (f ⟨b,i,none⟩).wp h Q) : (ixL r t 1 >>= f).wp h Q:=by
  subst ht
  have hl:=G.len
  have hil:=(List.getElem?_eq_some_iff.1 hi).1
  rcases G with ⟨rfl,rfl⟩ | ⟨b,ty,cells,R⟩
  · cases hi
  · refine ixL_b (by omega) (by omega) R.base ?_
    rw [add_mk,show 0 + (i : Int).toNat * 1 = i by omega]
    exact H b R.base (by rw [hcell_blk R.blk]; exact R.get i v hi) (hfrozen_blk R.blk)
theorem Gw.set1 {lo : Nat} {h : Heap} {r : Sl} {vs : List Value} {b i : Nat} {v : Value} (G : Gw lo h r 1 vs) (hb : r.base = some ⟨b,0,none⟩) (hi : i < vs.length) : Gw lo (hset h ⟨b,i,none⟩ v) r 1 (vs.set i v):=by
  rcases G with ⟨rfl,rfl⟩ | ⟨b',ty,cells,R⟩
  · cases hb
  · have : b' = b:=by
      have:=R.base.symm.trans hb
      cases this
      rfl
    subst this
    have hsz:=R.size
    have hcap:=R.cap
    have hlen:=R.len
    refine .inr ⟨b',ty,_,R.base,R.lo,hset_at R.blk,by rw [Array.size_setIfInBounds]; exact R.size,R.cap,by rw [List.length_set]; exact R.len,fun j u hj=>?_⟩
    rw [Array.getElem?_setIfInBounds]
    rw [List.getElem?_set] at hj
    by_cases hij : i = j
    · subst hij
      rw [if_pos rfl,if_pos hi] at hj
      rw [if_pos rfl,if_pos (by omega)]
      exact hj
    · rw [if_neg hij] at hj
      rw [if_neg hij]
      exact R.get j u hj
theorem set_swap {α β : Type} (g : α → β) (L1 L2 : List α) (x y : α) : (((L1 ++ y :: x :: L2).map g).set (L1.length + 1) (g y)).set L1.length (g x) = (L1 ++ x :: y :: L2).map g:=by
  simp only [List.map_append,List.map_cons]
  rw [show L1.map g ++ g y :: g x :: L2.map g = (L1.map g ++ [g y]) ++ g x :: L2.map g by simp]
  rw [list_set_mid (by simp)]
  rw [show (L1.map g ++ [g y]) ++ g y :: L2.map g = L1.map g ++ g y :: g y :: L2.map g by simp]
  rw [list_set_mid (by simp)]
def vv {α : Type} (sl : α → Sl) (a : α) : Value:=(sl a).v
theorem swap_b {α β : Type} {sl : α → Sl} {lo : Nat} {h : Heap} {Q : β → Heap → Prop} {r : Sl} {y x : α} {L1 L2 : List α} {j : Int} {f : Unit → M β} (G : Gw lo h r 1 ((L1 ++ y :: x :: L2).map (vv sl))) (hj : j = ((L1.length + 1 : Nat) : Int)) (hsm : L1.length ≤ 1099511627776)
    (H : ∀ h',Km (Sl.on r) h h' → Gw lo h' r 1 ((L1 ++ x :: y :: L2).map (vv sl)) → (f ()).wp h' Q) :
    (ixL r (IntKind.wrap .i64 (j - 1)) 1 >>= fun a=>ixL r j 1 >>= fun b=>ldL a >>= fun u=>ldL b >>= fun v=>ixL r j 1 >>= fun c=>stV c u.v >>= fun _=>ixL r (IntKind.wrap .i64 (j - 1)) 1 >>= fun d=>stV d v.v >>= f).wp h Q:=by
  subst hj
  rw [w64 (by omega) (by omega),show (((L1.length + 1 : Nat) : Int) - 1) = (L1.length : Int) by omega]
  have hy : ((L1 ++ y :: x :: L2).map (vv sl))[L1.length]? = some (sl y).v:=by simp [vv]
  have hx : ((L1 ++ y :: x :: L2).map (vv sl))[L1.length + 1]? = some (sl x).v:=by
    rw [List.map_append,List.getElem?_append_right (by simp)]
    simp [vv]
  have hlen : L1.length + 1 < ((L1 ++ y :: x :: L2).map (vv sl)).length:=by simp
  refine G.ix1 hy rfl (fun b hb hc hf=>G.ix1 hx rfl (fun b2 hb2 hc2 hf2=>ldL_b hc (ldL_b hc2 (G.ix1 hx rfl (fun b3 hb3 hc3 hf3=>stV_b hc3 hf3 (one_v (sl y)) ?_)))))
  have e3 : b3 = b:=by rw [hb3] at hb; cases hb; rfl
  subst e3
  have G1:=G.set1 (v:=(sl y).v) hb3 hlen
  have u1:=Upd.hset h b3 (L1.length + 1) (sl y).v
  generalize hset h ⟨b3,L1.length + 1,none⟩ (sl y).v = h1 at G1 u1 ⊢
  have hy1 : (((L1 ++ y :: x :: L2).map (vv sl)).set (L1.length + 1) (sl y).v)[L1.length]? = some (sl y).v:=by
    rw [List.getElem?_set_ne (by omega)]
    exact hy
  refine G1.ix1 hy1 rfl (fun b4 hb4 hc4 hf4=>stV_b hc4 hf4 (one_v (sl x)) ?_)
  have e4 : b4 = b3:=by rw [hb4] at hb3; cases hb3; rfl
  subst e4
  have G2:=G1.set1 (v:=(sl x).v) (i:=L1.length) hb4 (by rw [List.length_set]; omega)
  have u2:=Upd.hset h1 b4 L1.length (sl x).v
  rw [show (sl y).v = vv sl y from rfl,show (sl x).v = vv sl x from rfl,set_swap] at G2
  have hon : Sl.on r b4:=⟨_,hb4,rfl⟩
  exact H _ ((Km.upd u1 hon).trans (Km.upd u2 hon)) G2
structure Cmpr {α : Type} (sl : α → Sl) (r : Sl) (T : Heap → Prop) (cmp : Value) (key : α → Vl) (ss : List α) : Prop where
  keep : ∀ hh h',T hh → Km (Sl.on r) hh h' → T h'
  call : ∀ hh,T hh → ∀ p q,p ∈ ss → q ∈ ss → ∀ Q : Int → Heap → Prop,(∀ h',Ext hh h' → Q (cmpV (key p) (key q)) h') → (callW Go.Proofs.Tryz.prog (fun r : Int=>.int .i64 r) cmp [(sl p).v,(sl q).v]).wp hh Q
def Srt {α : Type} (key : α → Vl) (l : List α) : Prop:=l.Pairwise (fun p q=>¬ cmpV (key q) (key p) < 0)
theorem ncmp_trans {x y z : Vl} (h1 : ¬ cmpV z y < 0) (h2 : ¬ cmpV y x < 0) : ¬ cmpV z x < 0:=by
  intro h3
  rcases cmpV_lt_or y x with h | h | h
  · exact h2 h
  · subst h; exact h1 h3
  · exact h1 (cmpV_trans h3 h)
theorem isort_spec {α : Type} {sl : α → Sl} {lo : Nat} {h : Heap} {Q : Unit → Heap → Prop} {r : Sl} {T : Heap → Prop} {cmp : Value} {key : α → Vl} {ss pre mid post : List α} (C : Cmpr sl r T cmp key ss) (hT : T h) (G : Gw lo h r 1 ((pre ++ mid ++ post).map (vv sl))) (hp : ∀ p ∈ mid,p ∈ ss)
    (hsm : (pre ++ mid ++ post).length ≤ 1099511627776) (H : ∀ h' mid',Gw lo h' r 1 ((pre ++ mid' ++ post).map (vv sl)) → mid'.Perm mid → Srt key mid' → Km (Sl.on r) h h' → Q () h') :
    (slices_insertionSortCmpFunc_slapi_Value r (pre.length : Int) ((pre.length + mid.length : Nat) : Int) cmp).wp h Q:=by
  simp only [List.length_append] at hsm
  unfold slices_insertionSortCmpFunc_slapi_Value
  rw [w64 (by omega) (by omega)]
  refine M.loop_inv (fun (t : Int) hh=>∃ (k : Nat) (m1 : List α),t = ((pre.length + k : Nat) : Int) ∧ 1 ≤ k ∧ m1.Perm (mid.take k) ∧ Srt key m1 ∧ Km (Sl.on r) h hh ∧ Gw lo hh r 1 ((pre ++ m1 ++ (mid.drop k ++ post)).map (vv sl))) (fun t _=>(((pre.length + mid.length + 1 : Nat) : Int) - t).toNat) ?_
    ⟨1,mid.take 1,by omega,Nat.le_refl _,List.Perm.refl _,?_,Km.refl _ _,?_⟩
  · rintro t hh ⟨k,m1,rfl,hk,hperm,hs,K,G1⟩ self hself
    have hm1:=hperm.length_eq
    rw [List.length_take] at hm1
    unfold slices_insertionSortCmpFunc_slapi_Value_l1
    refine ite_w (fun hc=>?_) (fun hc=>?_)
    · have hkl : k < mid.length:=by have:=of_decide_eq_true hc; omega
      have hxm : mid[k] ∈ ss:=hp _ (List.getElem_mem hkl)
      have hm1s : ∀ p ∈ m1,p ∈ ss:=fun p hp1=>hp p (List.mem_of_mem_take (hperm.mem_iff.1 hp1))
      rw [List.drop_eq_getElem_cons hkl] at G1
      generalize hxx : mid[k] = x at hxm G1
      refine M.loop_inv (fun (t : Int) h2=>∃ u w : List α,t = ((pre.length + u.length : Nat) : Int) ∧ u ++ w = m1 ∧ (∀ y ∈ w,cmpV (key x) (key y) < 0) ∧ Km (Sl.on r) h h2 ∧ Gw lo h2 r 1 ((pre ++ u ++ x :: (w ++ (mid.drop (k + 1) ++ post))).map (vv sl))) (fun t _=>t.toNat) ?_
        ⟨m1,[],by omega,by simp,fun y hy=>(by cases hy),K,by simpa using G1⟩
      rintro t h2 ⟨u,w,rfl,huw,hw,K2,G2⟩ self2 hself2
      have hul : u.length ≤ mid.length:=by have:=congrArg List.length huw; rw [List.length_append] at this; omega
      -- the place is found
      have done : (u ≠ [] → ∀ y,u.getLast? = some y → ¬ cmpV (key x) (key y) < 0) → ∀ h3,Km (Sl.on r) h h3 → Gw lo h3 r 1 ((pre ++ u ++ x :: (w ++ (mid.drop (k + 1) ++ post))).map (vv sl)) →
          (slices_insertionSortCmpFunc_slapi_Value_j1 self self2 r ((pre.length + k : Nat) : Int) ((pre.length + u.length : Nat) : Int) false).wp h3 Q:=by
        intro hlast h3 K3 G3
        unfold slices_insertionSortCmpFunc_slapi_Value_j1
        refine iteF rfl ?_
        rw [w64 (by omega) (by omega)]
        refine hself _ _ ⟨k + 1,u ++ x :: w,by omega,by omega,?_,?_,K3,?_⟩ (by omega)
        · rw [List.take_succ_eq_append_getElem hkl,hxx]
          refine List.Perm.trans (List.perm_middle) ?_
          refine List.Perm.trans ?_ (List.perm_append_singleton _ _).symm
          rw [huw]
          exact hperm.cons x
        · unfold Srt at hs ⊢
          rw [← huw,List.pairwise_append] at hs
          rw [List.pairwise_append]
          refine ⟨hs.1,List.pairwise_cons.2 ⟨fun y hy=>?_,hs.2.1⟩,fun p hp1 q hq=>?_⟩
          · have:=hw y hy
            have a:=cmpV_anti (key x) (key y)
            omega
          · rcases List.mem_cons.1 hq with rfl | hq
            · have hne : u ≠ []:=List.ne_nil_of_mem hp1
              obtain ⟨u',y,rfl⟩ : ∃ u' y,u = u' ++ [y]:=⟨u.dropLast,u.getLast hne,(List.dropLast_concat_getLast hne).symm⟩
              have hy:=hlast hne y (by simp)
              rcases List.mem_append.1 hp1 with hp2 | hp2
              · have h4:=hs.1
                rw [List.pairwise_append] at h4
                exact ncmp_trans hy (h4.2.2 p hp2 y (by simp))
              · rw [List.mem_singleton] at hp2
                subst hp2
                exact hy
            · exact hs.2.2 p hp1 q hq
        · rw [show pre ++ (u ++ x :: w) ++ (mid.drop (k + 1) ++ post) = pre ++ u ++ x :: (w ++ (mid.drop (k + 1) ++ post)) by simp]
          exact G3
      unfold slices_insertionSortCmpFunc_slapi_Value_l2
      refine ite_w (fun hpos=>?_) (fun hz=>?_)
      · have hne : u ≠ []:=by
          intro e
          subst e
          have:=of_decide_eq_true hpos
          simp at this
        obtain ⟨u',y,rfl⟩ : ∃ u' y,u = u' ++ [y]:=⟨u.dropLast,u.getLast hne,(List.dropLast_concat_getLast hne).symm⟩
        have hys : y ∈ ss:=hm1s y (by rw [← huw]; simp)
        have eL : pre ++ (u' ++ [y]) ++ x :: (w ++ (mid.drop (k + 1) ++ post)) = (pre ++ u') ++ y :: x :: (w ++ (mid.drop (k + 1) ++ post)):=by simp
        have G2':=G2
        rw [eL] at G2'
        have hjl : ((pre.length + (u' ++ [y]).length : Nat) : Int) = (((pre ++ u').length + 1 : Nat) : Int):=by simp; omega
        rw [hjl]
        have hul' : u'.length + 1 ≤ mid.length:=by simpa using hul
        have hpl : (pre ++ u').length = pre.length + u'.length:=List.length_append
        have hx : ((((pre ++ u') ++ y :: x :: (w ++ (mid.drop (k + 1) ++ post))).map (vv sl)))[(pre ++ u').length + 1]? = some (sl x).v:=by
          rw [List.map_append,List.getElem?_append_right (by simp)]
          simp [vv]
        have hy : ((((pre ++ u') ++ y :: x :: (w ++ (mid.drop (k + 1) ++ post))).map (vv sl)))[(pre ++ u').length]? = some (sl y).v:=by
          rw [List.map_append,List.getElem?_append_right (by simp)]
          simp [vv]
        refine G2'.ix1 hx rfl (fun b1 hb1 hc1 hf1=>?_)
        rw [w64 (by omega) (by omega),show ((((pre ++ u').length + 1 : Nat) : Int) - 1) = (((pre ++ u').length : Nat) : Int) by omega]
        refine G2'.ix1 hy rfl (fun b2 hb2 hc2 hf2=>ldL_b hc1 (ldL_b hc2 (bind_w (C.call h2 (C.keep _ _ hT K2) x y hxm hys _ (fun h3 e3=>?_)))))
        have K3:=K2.trans (Km.ext e3)
        by_cases hlt : cmpV (key x) (key y) < 0
        · rw [decide_eq_true hlt]
          unfold slices_insertionSortCmpFunc_slapi_Value_j1
          refine iteT rfl (swap_b (G2'.ext e3) rfl (by omega) (fun h4 K4 G4=>?_))
          rw [w64 (by omega) (by omega)]
          refine hself2 _ _ ⟨u',y :: w,by omega,by rw [← huw]; simp,fun z hz=>?_,K3.trans K4,by simpa using G4⟩ (by omega)
          rcases List.mem_cons.1 hz with rfl | hz
          · exact hlt
          · exact hw z hz
        · rw [decide_eq_false hlt]
          have h5:=done (fun _ z hz=>by simp at hz; subst hz; exact hlt) h3 K3 (by rw [eL]; exact G2'.ext e3)
          rw [hjl] at h5
          exact h5
      · have hu0 : u = []:=by
          have:=of_decide_eq_false hz
          exact List.length_eq_zero_iff.1 (by omega)
        subst hu0
        exact done (fun h=>absurd rfl h) h2 K2 G2
    · have hkl : mid.length ≤ k:=by have:=of_decide_eq_false hc; omega
      rw [List.take_of_length_le hkl] at hperm
      rw [List.drop_of_length_le hkl,List.nil_append] at G1
      exact pure_w (H _ _ G1 hperm hs K)
  · unfold Srt
    cases mid with
    | nil=>exact List.Pairwise.nil
    | cons a m=>simp
  · rw [show pre ++ mid.take 1 ++ (mid.drop 1 ++ post) = pre ++ (mid.take 1 ++ mid.drop 1) ++ post by simp,List.take_append_drop]
    exact G
end Gx
namespace Gx
open Go
set_option linter.unusedVariables false
set_option linter.unusedSimpArgs false
def piece (x : Sl) (i : Nat) : Sl:=⟨x.base.map (fun a=>a.add (2 * i * 4)),min 2 (x.len - 2 * i),min 2 (x.len - 2 * i)⟩
def pieces (x : Sl) : List Sl:=(List.range ((x.len + 1) / 2)).map (piece x)
theorem pieces_len (x : Sl) : (pieces x).length = (x.len + 1) / 2:=by simp [pieces]
theorem pieces_get (x : Sl) {i : Nat} (hi : i < (pieces x).length) : (pieces x)[i] = piece x i:=by simp [pieces]
def pairAt (l : List Vl) (i : Nat) : List Vl:=(l.drop (2 * i)).take 2
theorem piece_rep {S : Nat → Prop} {h : Heap} {x : Sl} {l : List Vl} (H : VsRepS S h x l) {i : Nat} (hi : 2 * i < l.length) : VsRepS S h (piece x i) (pairAt l i):=by
  have hl:=H.len
  have hlen : (pairAt l i).length = min 2 (l.length - 2 * i):=by simp [pairAt]
  refine ⟨by rw [hlen]; show min 2 (x.len - 2 * i) = _; rw [hl],Nat.le_refl _,by show min 2 (x.len - 2 * i) ≤ _; omega,VsAtS.of (fun j hj=>?_)⟩
  rw [hlen] at hj
  obtain ⟨a,cs,ha,hS,hs,hc,hv⟩:=H.get (j:=2 * i + j) (by omega)
  refine ⟨a.add (2 * i * 4),cs,by show x.base.map _ = _; rw [ha]; rfl,by rw [add_block]; exact hS,hs,fun m hm=>?_,?_⟩
  · rw [Addr.add_add,← hc m hm]
    congr 2; omega
  · have : (pairAt l i)[j]'(by rw [hlen]; omega) = l[2 * i + j]'(by omega):=by simp [pairAt]
    rw [this]; exact hv
theorem slL3_b {β : Type} {h : Heap} {Q : β → Heap → Prop} {s : Sl} {lo hi mx : Int} {sz : Nat} {f : Sl → M β} (h0 : 0 ≤ lo) (h1 : lo ≤ hi) (h2 : hi ≤ mx) (h3 : mx ≤ s.cap) (H : (f ⟨if mx.toNat = lo.toNat then s.base else s.base.map (·.add (lo.toNat * sz)),hi.toNat - lo.toNat,mx.toNat - lo.toNat⟩).wp h Q) : (slL3 s lo hi mx sz >>= f).wp h Q:=⟨_,⟨h0,h1,h2,h3,rfl⟩,H⟩
theorem chunk_seq {x : Sl} {a b : Addr} (hlc : x.len ≤ x.cap) (hb : x.len ≤ 1099511627776) {J : Nat → Heap → Prop} (hJ : ∀ i h1,J i h1 → hcell h1 a = some x.v ∧ hcell h1 b = some (.int .i64 2)) :
    SeqW Go.Proofs.Tryz.prog (fun x : Sl=>[x.v]) (pieces x) (.func (.func fn_slices_Chunk_slapi_Value_api_Value_1) #[] #[.pointer (some a),.pointer (some b)]) J:=by
  intro l Inv Stop h hInv h0 hround
  refine callV_f cl_slices_Chunk_slapi_Value_api_Value_1 (S_slices_Chunk_slapi_Value_api_Value_1 (yV l) a b) ?_
  unfold slices_Chunk_slapi_Value_api_Value_1
  rw [pieces_len]
  refine M.loop_inv (fun (t : Int) h'=>∃ i : Nat,t = ((2 * i : Nat) : Int) ∧ i ≤ (x.len + 1) / 2 ∧ Inv i h') (fun t _=>((x.len : Int) + 2 - t).toNat) ?_ ⟨0,rfl,Nat.zero_le _,h0⟩
  rintro t h' ⟨i,rfl,hi,hI⟩ self hself
  unfold slices_Chunk_slapi_Value_api_Value_1_l1
  obtain ⟨ca,cb⟩:=hJ i h' (hInv i h' hI)
  refine ldL_b ca (ite_w (fun hc=>?_) (fun hc=>?_))
  · have hlt : 2 * i < x.len:=by have:=of_decide_eq_true hc; omega
    refine ldI_b cb (ldL_b ca (slL_b (by omega) (by omega) (by omega) (ldL_b ca ?_)))
    have hmin : iMin 2 (((x.len : Int).toNat - ((2 * i : Nat) : Int).toNat : Nat) : Int) = ((min 2 (x.len - 2 * i) : Nat) : Int):=by
      unfold iMin
      (repeat' split) <;> omega
    dsimp only
    rw [hmin,w64 (by omega) (by omega)]
    refine slL3_b (by omega) (by omega) (by omega) (by omega) ?_
    have hp : (⟨if (((2 * i : Nat) : Int) + ((min 2 (x.len - 2 * i) : Nat) : Int)).toNat = ((2 * i : Nat) : Int).toNat then x.base else x.base.map (fun a=>a.add (((2 * i : Nat) : Int).toNat * 4)),(((2 * i : Nat) : Int) + ((min 2 (x.len - 2 * i) : Nat) : Int)).toNat - ((2 * i : Nat) : Int).toNat,(((2 * i : Nat) : Int) + ((min 2 (x.len - 2 * i) : Nat) : Int)).toNat - ((2 * i : Nat) : Int).toNat⟩ : Sl) = piece x i:=by
      have e1 : (((2 * i : Nat) : Int) + ((min 2 (x.len - 2 * i) : Nat) : Int)).toNat = 2 * i + min 2 (x.len - 2 * i):=by omega
      have e2 : ((2 * i : Nat) : Int).toNat = 2 * i:=rfl
      rw [e1,e2,if_neg (by omega)]
      unfold piece
      congr 1 <;> omega
    rw [hp]
    have hr:=hround i (by rw [pieces_len]; omega) h' hI
    rw [pieces_get x (by rw [pieces_len]; omega)] at hr
    refine bind_w ((callV _ _ _ _).mono ?_ hr)
    rintro b1 h2 hb1
    cases b1 with
    | true =>
      have hb1 : Inv (i + 1) h2:=hb1
      obtain ⟨ca2,cb2⟩:=hJ _ _ (hInv _ _ hb1)
      refine iteF rfl (ldI_b cb2 ?_)
      rw [w64 (by omega) (by omega)]
      exact hself _ _ ⟨i + 1,by omega,by omega,hb1⟩ (by omega)
    | false=>exact iteT rfl (pure_w (.inr hb1))
  · have hge : (x.len + 1) / 2 = i:=by have:=of_decide_eq_false hc; omega
    rw [hge]
    exact pure_w (.inl hI)
end Gx
namespace Gx
open Go Go.Proofs Go.Shelf Go.RowKit Go.Lib
set_option linter.unusedVariables false
set_option linter.unusedSimpArgs false
set_option maxRecDepth 100000
theorem rounds0_w {P : Program} {α : Type} {enc : α → List Value} {js : List Code} {Y : Nat → α → M Nat} {Yb : α → M Nat} {r : Loop} {l : Nat} (hY : ∀ x,Y l x = (beg l >>= fun _=>Yb x)) (hr : Rounds P enc js Y r l) {J J' : Heap → Prop} {x : α}
    (hJ : ∀ h1 h2,J h1 → Upd l h1 h2 → J h2) (hJ' : ∀ h1 h2,J' h1 → Upd l h1 h2 → J' h2)
    (hbody : ∀ h1 o,J h1 → h1[l]? = some o → (Yb x).wp h1 (fun j h2=>h2[l]? = some o ∧ j = 0 ∧ J' h2)) {h1 : Heap} (h0 : J h1) (hrec : h1[l]? = some (recAt r .ready none)) :
    (callV P (fun b : Bool=>.bool b) (yV l) (enc x)).wp h1 (fun b h2=>if b = true then (J' h2 ∧ h2[l]? = some (recAt r .ready none)) else False):=by
  refine hr x h1 _ .ready none hrec ?_
  rw [hY]
  refine ⟨{ r with state:=.ready,pending:=none },hrec,rfl,?_⟩
  have hb:=set_self (o':=recAt r .busy none) hrec
  refine (Yb x).mono ?_ (hbody _ _ (hJ _ _ h0 (Upd.set_ h1 l (recAt r .busy none))) hb)
  rintro j h2 ⟨h3,rfl,h4⟩
  refine ⟨.busy,none,h3,?_⟩
  show if true = true then _ else _
  rw [if_pos rfl]
  exact ⟨hJ' _ _ h4 (Upd.set_ _ _ _),set_self h3⟩
theorem rgE_w {P : Program} {α : Type} {enc : α → List Value} {js : List Code} {Y : Nat → α → M Nat} {Yb : α → M Nat} (hY : ∀ l x,Y l x = (beg l >>= fun _=>Yb x)) {g : Value} (hg : ∀ l,g ≠ .func (.yield l) #[] #[]) {h : Heap} {Q : Nat × Nat → Heap → Prop} {xs : List α}
    (J J0 : Nat → Heap → Prop) (hJ : ∀ i h1 h2,J i h1 → Upd (h.size + 1) h1 h2 → J i h2) (hJ0 : ∀ i h1,J i h1 → J0 i h1)
    (hseq : SeqW P enc xs g J0) (h0 : ∀ r : Loop,J 0 ((h.push (.deferred (some []))).push (recAt r .ready none)))
    (hbody : ∀ i (hi : i < xs.length) h1 o,J i h1 → h1[h.size + 1]? = some o → (Yb xs[i]).wp h1 (fun j h2=>h2[h.size + 1]? = some o ∧ j = 0 ∧ J (i + 1) h2))
    (hq0 : ∀ h1,J xs.length h1 → Q (0,h.size) h1) : (rgF P enc js Y g).wp h Q:=by
  refine ⟨hg,fun r hr=>?_⟩
  have hrec : ((h.push (.deferred (some []))).push (recAt r .ready none))[h.size + 1]? = some (recAt r .ready none):=by
    have : h.size + 1 = (h.push (.deferred (some []))).size:=by simp
    rw [this]; exact get_push_eq
  refine (callV P _ _ _).mono ?_ (hseq (h.size + 1) (fun i h1=>J i h1 ∧ h1[h.size + 1]? = some (recAt r .ready none)) (fun h1=>False) _ (fun i h1 hh=>hJ0 i h1 hh.1) ⟨h0 r,hrec⟩ (fun i hi h1 hh=>rounds0_w (hY _) hr (hJ i) (hJ (i + 1)) (hbody i hi) hh.1 hh.2))
  rintro _ h1 (⟨h2,h3⟩ | h2)
  · exact ⟨.ready,0,by decide,h3,hq0 _ (hJ _ _ _ h2 (Upd.set_ _ _ _))⟩
  · exact h2.elim
theorem box_set {h : Heap} {b : Nat} {v u : Value} {t : TypeId} (hb : h[b]? = some (.cells #[v] t (0,0))) : (hset h ⟨b,0,none⟩ u)[b]? = some (.cells #[u] t (0,0)):=by
  rw [hset_at hb]; rfl
theorem apSl_b {β : Type} {lo : Nat} {h : Heap} {Q : β → Heap → Prop} {r x : Sl} {ss : List Value} {f : Sl → M β} (G : Gw lo h r 1 ss) (hle : lo ≤ h.size) (hm : ss.length ≤ 1099511627776)
    (H : ∀ h' r',Gw lo h' r' 1 (ss ++ [x.v]) → h.size ≤ h'.size → (∀ j,j < h.size → ¬ Sl.on r j → h'[j]? = h[j]?) → (f r').wp h' Q) : (bdL ty_sl_api_Value 1 #[x.v] >>= fun y=>apL ty_sl_api_Value 1 24 (#[.slice none 0 0] : Array Value) r y >>= f).wp h Q:=by
  refine bdL_b ?_
  have e6:=Ext.push h (.cells #[x.v] ty_sl_api_Value)
  have g6 : (h.push (.cells #[x.v] ty_sl_api_Value))[h.size]? = some (.cells #[x.v] ty_sl_api_Value (0,0)):=get_push_eq
  generalize h.push (.cells #[x.v] ty_sl_api_Value) = h6 at e6 g6 ⊢
  have G6:=G.ext e6
  have hrl:=G6.len
  rw [Nat.mul_one] at hrl
  refine ap_grow (vs:=ss) (news:=[x.v]) rfl G6 rfl (.inr ⟨_,rfl,fun j v hj=>?_⟩) (fun v hv=>by simp at hv; subst hv; exact one_v x) (by dsimp only; omega) (by dsimp only; omega) (by have:=e6.size; omega) (fun h7 r7 G7 hlen7 hs7 same7 on7=>?_)
  · rw [add_mk,Nat.zero_add,hcell_blk g6]
    rw [show (#[x.v] : Array Value) = [x.v].toArray from rfl]
    simpa using hj
  · exact H h7 r7 G7 (Nat.le_trans e6.size hs7) (fun j hj ho=>(same7 j (by have:=e6.size; omega) ho).trans (e6.same j hj))
theorem collect_spec {h : Heap} {Q : Sl → Heap → Prop} {g : Value} {xs : List Sl} (hg : ∀ l,g ≠ .func (.yield l) #[] #[]) (hxs : xs.length ≤ 1000000000) (hseq : SeqW Go.Proofs.Tryz.prog (fun x : Sl=>[x.v]) xs g (fun _ h1=>Ext h h1))
    (H : ∀ h' r,Ext h h' → Gw h.size h' r 1 (xs.map Sl.v) → Q r h') : (slices_Collect_slapi_Value g).wp h Q:=by
  unfold slices_Collect_slapi_Value slices_AppendSeq_slslapi_Value_slapi_Value
  refine bind_w (mkV_b (fun h1 e1 s1 g1=>?_))
  refine bind_w (rgE_w (Yb:=fun x7=>ldL ⟨h.size,0,none⟩ >>= fun r=>bdL ty_sl_api_Value 1 #[(x7 : Sl).v] >>= fun y=>apL ty_sl_api_Value 1 24 (#[.slice none 0 0] : Array Value) r y >>= fun r2=>stV ⟨h.size,0,none⟩ ((r2 : Sl).v) >>= fun _=>M.pure 0) (fun _ _=>rfl) hg (xs:=xs)
    (fun i hh=>Ext h hh ∧ (∃ r,hh[h.size]? = some (.cells #[(r : Sl).v] ty_sl_sl_api_Value (0,0)) ∧ Gw (h.size + 3) hh r 1 ((xs.take i).map Sl.v)) ∧ hh[h1.size]? = some (.deferred (some [])) ∧ h.size + 3 ≤ hh.size) (fun _ h1=>Ext h h1) ?_ (fun i hh hJ=>hJ.1) hseq (fun r=>?_) (fun i hi h2 o hJ ho=>?_) (fun h2 hJ=>?_))
  · rintro i h2 h3 ⟨E,⟨r,hr,G⟩,hd,hs⟩ u
    refine ⟨E.upd u (by omega),⟨r,(u.ne _ (by omega)).trans hr,G.same (fun k hk=>u.ne k (by have:=(G.lt hk).2; omega))⟩,(u.ne _ (by omega)).trans hd,by rw [u.size]; exact hs⟩
  · have e2:=Ext.push h1 (.deferred (some []))
    have e3:=Ext.push (h1.push (.deferred (some []))) (recAt r .ready none)
    refine ⟨(e1.trans e2).trans e3,⟨Sl.nil,(e2.trans e3).blk g1,Gw.nil _ _ _⟩,e3.blk get_push_eq,?_⟩
    simp; omega
  · obtain ⟨E,⟨r,hr,G⟩,hd,hs⟩:=hJ
    refine ldL_b (n:=r) (by rw [hcell_blk hr]; rfl) (apSl_b G (by omega) (by simp; omega) (fun h3 r3 G3 s3 same3=>?_))
    have hno : ∀ k,k < h.size + 3 → ¬ Sl.on r k:=fun k hk ho=>by have:=(G.lt ho).2; omega
    have hr3:=(same3 h.size (by omega) (hno _ (by omega))).trans hr
    refine stV_b (x:=r.v) (by rw [hcell_blk hr3]; rfl) (hfrozen_blk hr3) (one_v r3) (pure_w ?_)
    have u4:=Upd.hset h3 h.size 0 r3.v
    have g4:=box_set (u:=r3.v) hr3
    generalize hset h3 ⟨h.size,0,none⟩ r3.v = h4 at u4 g4 ⊢
    refine ⟨(u4.ne _ (by omega)).trans ((same3 _ (by omega) (hno _ (by omega))).trans ho),rfl,?_,⟨r3,g4,?_⟩,(u4.ne _ (by omega)).trans ((same3 _ (by omega) (hno _ (by omega))).trans hd),by rw [u4.size]; omega⟩
    · refine ⟨by rw [u4.size]; have:=E.size; omega,fun k hk=>(u4.ne k (by omega)).trans ((same3 k (by omega) (hno k (by omega))).trans (E.same k hk))⟩
    · rw [List.take_succ_eq_append_getElem hi,List.map_append]
      exact G3.same (fun k hk=>u4.ne k (by have:=(G3.lt hk).2; omega))
  · obtain ⟨E,⟨r,hr,G⟩,hd,hs⟩:=hJ
    rw [List.take_length] at G
    refine ldL_b (n:=r) (by rw [hcell_blk hr]; rfl) ⟨hd,pure_w (pure_w ?_)⟩
    have u3:=Upd.set_ h2 h1.size (.deferred none)
    exact H _ r (E.upd u3 (by omega)) ((G.same (fun k hk=>u3.ne k (by have:=(G.lt hk).2; omega))).weak (by omega))
def SortsN (n : Nat) : Prop:=∀ {α : Type} {sl : α → Sl} {lo : Nat} {h : Heap} {Q : Unit → Heap → Prop} {r : Sl} {T : Heap → Prop} {cmp : Value} {key : α → Vl} {ss : List α},ss.length = n → Cmpr sl r T cmp key ss → T h → Gw lo h r 1 (ss.map (vv sl)) →
  (∀ h' ss',Gw lo h' r 1 (ss'.map (vv sl)) → ss'.Perm ss → Srt key ss' → Km (Sl.on r) h h' → Q () h') → (slices_SortStableFunc_slslapi_Value_slapi_Value r cmp).wp h Q
theorem Cmpr.perm {α : Type} {sl : α → Sl} {r : Sl} {T : Heap → Prop} {cmp : Value} {key : α → Vl} {ss ss' : List α} (C : Cmpr sl r T cmp key ss) (p : ss'.Perm ss) : Cmpr sl r T cmp key ss' :=
  ⟨C.keep,fun hh hT a b ha hb Q H=>C.call hh hT a b (p.mem_iff.1 ha) (p.mem_iff.1 hb) Q H⟩
theorem sorts20 {n : Nat} (hn : n ≤ 20) : SortsN n:=by
  intro α sl lo h Q r T cmp key ss hlen C hT G H
  unfold slices_SortStableFunc_slslapi_Value_slapi_Value slices_stableCmpFunc_slapi_Value
  have hrl:=G.len
  rw [List.length_map,Nat.mul_one] at hrl
  refine bind_w (M.loop_inv (fun (t : Int × Int) hh=>∃ ss',Gw lo hh r 1 (ss'.map (vv sl)) ∧ ss'.Perm ss ∧ Km (Sl.on r) h hh ∧ (t = (0,20) ∨ (t = (20,40) ∧ n = 20 ∧ Srt key ss'))) (fun t _=>(40 - t.1).toNat) ?_ ⟨ss,G,List.Perm.refl _,Km.refl _ _,.inl rfl⟩)
  rintro t hh ⟨ss',G1,hp,K1,ht⟩ self hself
  have hl':=hp.length_eq
  -- the blocks are merged: there is one
  have last : ∀ h2 ss2,Gw lo h2 r 1 (ss2.map (vv sl)) → ss2.Perm ss → Srt key ss2 → Km (Sl.on r) h h2 → (M.loop (slices_stableCmpFunc_slapi_Value_l2 r (r.len : Int) cmp) 20).wp h2 (fun _ h'=>(M.pure () : M Unit).wp h' Q):=by
    intro h2 ss2 G2 p2 s2 K2
    refine M.loop_inv (fun (t : Int) hh=>t = 20 ∧ hh = h2) (fun _ _=>0) ?_ ⟨rfl,rfl⟩
    rintro t hh ⟨rfl,rfl⟩ self2 _
    unfold slices_stableCmpFunc_slapi_Value_l2
    exact iteF (decide_eq_false (by omega)) (pure_w (pure_w (H _ _ G2 p2 s2 K2)))
  unfold slices_stableCmpFunc_slapi_Value_l1
  rcases ht with rfl | ⟨rfl,h20,hs⟩
  · dsimp only
    refine ite_w (fun hc=>?_) (fun hc=>?_)
    · have h20 : n = 20:=by have:=of_decide_eq_true hc; omega
      have hi:=isort_spec (pre:=[]) (mid:=ss') (post:=[]) (Q:=fun _ h2=>(self (20,IntKind.wrap .i64 (20 + 20))).wp h2 (fun _ h'=>(M.pure () : M Unit).wp h' Q)) (C.perm hp) (C.keep _ _ hT K1) (by simpa using G1) (fun p hp=>hp) (by simp; omega)
        (fun h2 mid' G2 p2 s2 K2=>hself _ _ ⟨mid',by simpa using G2,p2.trans hp,K1.trans K2,.inr ⟨by rw [w64 (by omega) (by omega)]; rfl,h20,s2⟩⟩ (by decide))
      rw [show ((([] : List α).length : Nat) : Int) = 0 from rfl,show (((([] : List α).length + ss'.length : Nat)) : Int) = 20 by rw [hl',hlen,h20]; rfl] at hi
      exact bind_w hi
    · have hlt : n < 20:=by have:=of_decide_eq_false hc; omega
      have hi:=isort_spec (pre:=[]) (mid:=ss') (post:=[]) (Q:=fun _ h2=>(M.loop (slices_stableCmpFunc_slapi_Value_l2 r (r.len : Int) cmp) 20).wp h2 (fun _ h'=>(M.pure () : M Unit).wp h' Q)) (C.perm hp) (C.keep _ _ hT K1) (by simpa using G1) (fun p hp=>hp) (by simp; omega)
        (fun h2 mid' G2 p2 s2 K2=>last _ _ (by simpa using G2) (p2.trans hp) s2 (K1.trans K2))
      rw [show ((([] : List α).length : Nat) : Int) = 0 from rfl,show (((([] : List α).length + ss'.length : Nat)) : Int) = (r.len : Int) by simp; omega] at hi
      exact bind_w hi
  · dsimp only
    refine iteF (decide_eq_false (by omega)) ?_
    have hi:=isort_spec (pre:=ss') (mid:=[]) (post:=[]) (Q:=fun _ h2=>(M.loop (slices_stableCmpFunc_slapi_Value_l2 r (r.len : Int) cmp) 20).wp h2 (fun _ h'=>(M.pure () : M Unit).wp h' Q)) (C.perm hp) (C.keep _ _ hT K1) (by simpa using G1) (fun p hp=>by cases hp) (by simp; omega)
      (fun h2 mid' G2 p2 s2 K2=>last _ ss' (by have e:=List.perm_nil.1 p2; subst e; simpa using G2) hp hs (K1.trans K2))
    rw [show ((ss'.length : Nat) : Int) = 20 by omega,show (((ss'.length + ([] : List α).length : Nat)) : Int) = (r.len : Int) by simp; omega] at hi
    exact bind_w hi
end Gx
namespace Gx
open Go Go.Proofs Go.Shelf Go.RowKit Go.Lib
set_option linter.unusedVariables false
set_option linter.unusedSimpArgs false
set_option maxRecDepth 100000
theorem vgrow_spec {h : Heap} {Q : Sl → Heap → Prop} {n : Nat} (hn : n ≤ 1099511627776) (hq : ∀ h' r,Ext h h' → Gw h.size h' r 4 [] → Q r h') : (slices_Grow_slapi_Value_api_Value Sl.nil (n : Int)).wp h Q:=by
  unfold slices_Grow_slapi_Value_api_Value
  refine iteF (by simp) ?_
  unfold slices_Grow_slapi_Value_api_Value_j1
  have e : IntKind.wrap .i64 ((n : Int) - IntKind.wrap .i64 ((Sl.nil.cap : Int) - (Sl.nil.len : Int))) = (n : Int):=by
    show IntKind.wrap .i64 ((n : Int) - IntKind.wrap .i64 (0 - 0)) = _
    rw [w64 (n:=0 - 0) (by omega) (by omega),w64 (by omega) (by omega)]
    omega
  rw [e]
  refine ite_w (fun hc=>?_) (fun hc=>pure_w (hq _ _ (Ext.refl h) (Gw.nil _ _ _)))
  have hc : 0 < n:=by have:=of_decide_eq_true hc; omega
  refine slL_b (by omega) (by show (0 : Int) ≤ ((0 : Nat) : Int); omega) (by show ((0 : Nat) : Int) ≤ ((0 : Nat) : Int); omega) ?_
  refine bind_w ⟨by omega,by omega,by omega,_,rfl,?_⟩
  unfold apGo
  have h0 : ¬ ((⟨if Sl.nil.cap = (0 : Int).toNat then Sl.nil.base else Sl.nil.base.map (·.add ((0 : Int).toNat * 4)),(Sl.nil.cap : Int).toNat - (0 : Int).toNat,Sl.nil.cap - (0 : Int).toNat⟩ : Sl).len + (n : Int).toNat ≤ (⟨if Sl.nil.cap = (0 : Int).toNat then Sl.nil.base else Sl.nil.base.map (·.add ((0 : Int).toNat * 4)),(Sl.nil.cap : Int).toNat - (0 : Int).toNat,Sl.nil.cap - (0 : Int).toNat⟩ : Sl).cap):=by
    show ¬ (0 + (n : Int).toNat ≤ 0)
    omega
  rw [if_neg h0]
  refine ⟨by show (0 + (n : Int).toNat) * 56 ≤ _; omega,by show 0 + (n : Int).toNat ≤ _; omega,[],rfl,.inl rfl,fun cap hcap=>?_⟩
  have hcap' : 0 + (n : Int).toNat ≤ cap:=hcap
  refine slL_b (by omega) (by show (0 : Int) ≤ ((0 : Nat) : Int); omega) (by show ((0 : Nat) : Int) ≤ (cap : Int); omega) ?_
  refine pure_w (hq _ _ (Ext.push _ _) (.inr ⟨h.size,_,_,?_,Nat.le_refl _,get_push_eq,?_,Nat.zero_le _,rfl,fun j v hj=>by cases hj⟩))
  · show (if cap = (0 : Int).toNat then _ else _) = _
    split <;> rfl
  · simp [zRow_size]
    show n * 4 + (cap - (0 + n)) * 4 = cap * 4
    omega
def flatL (L : List (List Vl)) : List Vl:=L.flatten
theorem flatL_take {L : List (List Vl)} {k : Nat} (hk : k < L.length) : flatL (L.take (k + 1)) = flatL (L.take k) ++ L[k]:=by
  unfold flatL
  rw [List.take_succ_eq_append_getElem hk,List.flatten_append]
  simp
theorem flatL_le (L : List (List Vl)) (k : Nat) : (flatL (L.take k)).length ≤ (flatL L).length:=by
  unfold flatL
  conv=>rhs; rw [← List.take_append_drop k L,List.flatten_append,List.length_append]
  omega
theorem vconcat_spec {S : Nat → Prop} {h : Heap} {Q : Sl → Heap → Prop} {lo : Nat} {x : Sl} {ss : List Sl} {L : List (List Vl)} (G : Gw lo h x 1 (ss.map Sl.v)) (hsL : ss.length = L.length) (hS : ∀ b,S b → b < h.size) (hr : ∀ k (h1 : k < ss.length) (h2 : k < L.length),VsRepS S h ss[k] L[k])
    (hL : (flatL L).length ≤ 1000000000) (hl : L.length ≤ 1000000000) (H : ∀ h' r css,Ext h h' → VGw h.size S h' r css (flatL L) → Q r h') : (slices_Concat_slapi_Value_api_Value x).wp h Q:=by
  have hxl : x.len = L.length:=by have:=G.len; rw [List.length_map,Nat.mul_one] at this; omega
  have cell : ∀ {h1 : Heap},Ext h h1 → ∀ {k : Nat} (hk : k < L.length),∃ b,x.base = some ⟨b,0,none⟩ ∧ hcell h1 ⟨b,k,none⟩ = some (ss[k]'(by omega)).v:=fun e k hk =>
    (G.ext e).cell (by rw [List.getElem?_map,List.getElem?_eq_getElem (by omega)]; rfl)
  unfold slices_Concat_slapi_Value_api_Value
  refine M.loop_inv (fun (t : Int × Int) h'=>h' = h ∧ ∃ k : Nat,t = (((flatL (L.take k)).length : Int),(k : Int)) ∧ k ≤ L.length) (fun t _=>((L.length : Int) - t.2).toNat) ?_ ⟨rfl,0,by simp [flatL],Nat.zero_le _⟩
  rintro t h' ⟨rfl,k,rfl,hk⟩ self hself
  unfold slices_Concat_slapi_Value_api_Value_l1
  rw [hxl]
  dsimp only
  refine ite_w (fun hlt=>?_) (fun hge=>?_)
  · have hlt : k < L.length:=by have:=of_decide_eq_true hlt; omega
    obtain ⟨b,hb,hc⟩:=cell (Ext.refl _) hlt
    refine ixL_b (by omega) (by rw [hxl]; omega) hb ?_
    rw [add_mk,Nat.zero_add]
    refine ldL_b (n:=ss[k]'(by omega)) (by rw [show (k : Int).toNat * 1 = k by omega]; exact hc) ?_
    have h2:=(hr k (by omega) hlt).len
    have h3:=flatL_le L (k + 1)
    have e : IntKind.wrap .i64 (((flatL (L.take k)).length : Int) + ((ss[k]'(by omega)).len : Int)) = (((flatL (L.take (k + 1))).length : Nat) : Int):=by
      rw [flatL_take hlt,List.length_append] at h3 ⊢
      rw [w64 (by omega) (by omega)]
      omega
    rw [e]
    refine iteF (by simp) ?_
    rw [w64 (by omega) (by omega)]
    exact hself _ _ ⟨rfl,k + 1,by simp,by omega⟩ (by dsimp only; omega)
  · have hge : k = L.length:=by have:=of_decide_eq_false hge; omega
    subst hge
    rw [List.take_length]
    refine bind_w (vgrow_spec (by omega) (fun h1 r1 e1 g1=>?_))
    refine M.loop_inv (fun (t : Sl × Int) h2=>Ext h' h2 ∧ ∃ (k : Nat) (css : List (Array Value)),t.2 = (k : Int) ∧ k ≤ L.length ∧ VGw h'.size S h2 t.1 css (flatL (L.take k))) (fun t _=>((L.length : Int) - t.2).toNat) ?_
      ⟨e1,0,[],rfl,Nat.zero_le _,⟨g1,fun c hc=>(by cases hc),rfl,fun j h1=>(by cases h1)⟩⟩
    rintro ⟨r,t⟩ h2 ⟨E,k,css,hkk,hk,hg⟩ self hself
    dsimp only at hkk hg
    subst hkk
    unfold slices_Concat_slapi_Value_api_Value_l2
    refine ite_w (fun hlt=>?_) (fun hge=>?_)
    · have hlt : k < L.length:=by have:=of_decide_eq_true hlt; omega
      obtain ⟨b,hb,hc⟩:=cell E hlt
      refine ixL_b (by omega) (by rw [hxl]; omega) hb ?_
      rw [add_mk,Nat.zero_add]
      refine ldL_b (n:=ss[k]'(by omega)) (by rw [show (k : Int).toNat * 1 = k by omega]; exact hc) ?_
      have hk2:=hr k (by omega) hlt
      obtain ⟨css',w4,hcl,hrep,hrd⟩:=hk2.css
      have h3:=flatL_le L (k + 1)
      rw [flatL_take hlt,List.length_append] at h3
      refine bind_w (vap_grow (l':=L[k]) (css':=css') hg E.size (fun b hb=>⟨by have:=hS b hb; have:=E.size; omega,fun ho=>by have:=(hg.gw.lt ho).2; have:=hS b hb; omega⟩) w4 hcl hk2.len (E.reads hrd) (fun j h1' h2'=>(hrep j h1' h2').same (fun b hb=>E.same b (hS b hb))) (by omega) (fun h3 r3 G3 hs3 same3 on3=>?_))
      rw [w64 (by omega) (by omega)]
      refine hself _ _ ⟨⟨by have:=E.size; omega,fun i hi=>(same3 i (by have:=E.size; omega) (fun ho=>by have:=(hg.gw.lt ho).2; omega)).trans (E.same i hi)⟩,k + 1,css ++ css',by simp,by omega,?_⟩ (by dsimp only; omega)
      rw [flatL_take hlt]
      exact G3
    · have hge : k = L.length:=by have:=of_decide_eq_false hge; omega
      subst hge
      rw [List.take_length] at hg
      exact pure_w (H _ _ css E hg)
theorem vmade_spec {v : Vl} {h : Heap} {Q : Array Value × Int → Heap → Prop} {c : Array Value} (hv : VRep h v c) (hw : wt v ≤ 1099511627776) (H : ∀ h' c',Ext h h' → VRepS (h.size ≤ ·) h' (if mayV 8 v = true then v else vl0) c' → Q (c',checkV v) h') : (value_made c).wp h Q:=by
  unfold value_made
  have hc:=hv.size
  refine mkV_b (fun h1 e1 s1 g1=>mkV_b (fun h2 e2 s2 g2=>?_))
  have g1':=e2.blk g1
  refine ldR g1' hc (bind_w (vcheck_spec (hv.ext (e1.trans e2)) (fun h3 e3=>?_)))
  have E3:=(e1.trans e2).trans e3
  have g2':=e3.blk g2
  by_cases hm : mayV 8 v = true
  · have hk : checkV v = 0:=by unfold checkV; rw [if_pos hm]
    rw [hk] at H ⊢
    rw [if_pos hm] at H
    refine iteF rfl (ldR (e3.blk g1') hc (bind_w (vclone_spec _ v (Nat.lt_succ_self _) (hv.ext E3) hw (fun h4 c4 e4 V4=>need_b V4.size (stR (e4.blk g2') (by rw [V4.size]; exact Nat.le_refl 4) V4.to.one (fun h5 u5 g5=>?_))))))
    rw [lay_full (by rw [Array.length_toList,V4.size]; rfl)] at g5
    have hE:=E3.size
    refine ldR g5 V4.size (pure_w (H h5 c4 ((E3.trans e4).upd u5 (by omega)) ?_))
    exact (V4.same (fun k hk=>u5.ne k (by have:=e3.size; omega))).mono (fun k hk=>by omega)
  · have hk : checkV v = 20:=by unfold checkV; rw [if_neg hm]
    rw [hk] at H ⊢
    rw [if_neg hm] at H
    refine iteT rfl (need_b rfl (stR g2' (Nat.le_refl 4) (vcells_one 0 0 [] Sl.nil) (fun h5 u5 g5=>?_)))
    rw [lay_full rfl] at g5
    exact ldR g5 rfl (pure_w (H h5 _ (E3.upd u5 (by have:=e1.size; omega)) (vl0_rep _ _)))
end Gx
namespace Gx
open Go Go.Proofs Go.Shelf Go.RowKit Go.Lib
set_option linter.unusedVariables false
set_option linter.unusedSimpArgs false
set_option maxRecDepth 100000
theorem list_rep2 {S : Nat → Prop} {h : Heap} {k n : Int} {l : List Vl} {x : Sl} (hk : I64 k) (hn : I64 n) (hl : VsRepS S h x l) : VRepS S h (.mk k n [] l) (vcells k n [] x) :=
  VRepS.eq.2 ⟨x,rfl,hk,hn,by decide,hl⟩
def pairsL (l : List Vl) (n : Nat) : List (List Vl):=(List.range n).map (pairAt l)
def kOf (p : List Vl) : Vl:=p.headD vl0
abbrev vzM : Array Value:=#[.int .i64 0,.int .i64 0,.string ByteArray.empty,.slice none 0 0]
theorem kOf_get {m : List Vl} (h : 0 < m.length) : m[0] = kOf m:=by cases m with | nil=>cases h | cons a r=>rfl
theorem pairsL_flat (l : List Vl) : ∀ n,(pairsL l n).flatten = l.take (2 * n)
  | 0=>by simp [pairsL]
  | n + 1=>by
    have:=pairsL_flat l n
    unfold pairsL at this ⊢
    rw [List.range_succ,List.map_append,List.flatten_append,this]
    simp only [List.map_cons,List.map_nil,List.flatten_cons,List.flatten_nil,List.append_nil,pairAt]
    rw [show 2 * (n + 1) = 2 * n + 2 by omega,List.take_add]
theorem wts_append : ∀ a b : List Vl,wt.wts (a ++ b) = wt.wts a + wt.wts b
  | [],b=>by simp [wt.wts]
  | v :: a,b=>by rw [List.cons_append,wt.wts,wt.wts,wts_append a b]; omega
theorem wts_perm {ps qs : List (List Vl)} (p : ps.Perm qs) : wt.wts ps.flatten = wt.wts qs.flatten:=by
  induction p with
  | nil=>rfl
  | cons x _ ih=>rw [List.flatten_cons,List.flatten_cons,wts_append,wts_append,ih]
  | swap x y l=>simp only [List.flatten_cons,wts_append]; omega
  | trans _ _ h1 h2=>exact h1.trans h2
inductive MapRes (l : List Vl) : Vl → Int → Prop
  | odd : l.length % 2 = 1 → MapRes l vl0 1
  | twice (ps : List (List Vl)) : l.length % 2 = 0 → ps.Perm (pairsL l (l.length / 2)) → ps.Pairwise (fun p q=>¬ cmpV (kOf q) (kOf p) < 0) → (∃ i,∃ h : i + 1 < ps.length,kOf ps[i] = kOf ps[i + 1]) → MapRes l vl0 5
  | made (ps : List (List Vl)) : l.length % 2 = 0 → ps.Perm (pairsL l (l.length / 2)) → ps.Pairwise (fun p q=>¬ cmpV (kOf q) (kOf p) < 0) → (∀ i,∀ h : i + 1 < ps.length,kOf ps[i] ≠ kOf ps[i + 1]) → MapRes l (if mayV 8 (.mk 5 0 [] ps.flatten) = true then .mk 5 0 [] ps.flatten else vl0) (checkV (.mk 5 0 [] ps.flatten))
abbrev It:=Sl × List Vl
abbrev itKey (a : It) : Vl:=kOf a.2
theorem pair2 {l : List Vl} {i : Nat} (hi : 2 * i + 1 < l.length) : (pairAt l i).length = 2:=by simp [pairAt]; omega
theorem mapcmp_spec {h : Heap} {Q : Int → Heap → Prop} {x y : Sl} {l m : List Vl} (hx : VsRep h x l) (hy : VsRep h y m) (h1 : 0 < l.length) (h2 : 0 < m.length) (H : ∀ h',Ext h h' → Q (cmpV (kOf l) (kOf m)) h') : (value_Map_1 x y).wp h Q:=by
  unfold value_Map_1
  have e1 : kOf l = l[0]:=by unfold kOf; cases l with | nil=>cases h1 | cons a r=>rfl
  have e2 : kOf m = m[0]:=by unfold kOf; cases m with | nil=>cases h2 | cons a r=>rfl
  rw [e1,e2] at H
  refine ixV_b hx h1 rfl (fun a cs ha hc hv=>ixV_b hy h2 rfl (fun a2 cs2 ha2 hc2 hv2=>ldG_b ha hc (ldG_b ha2 hc2 (bind_w (vcompare_spec hv hv2 (fun h' e=>pure_w (H h' e)))))))
theorem vmap_spec {l : List Vl} {x : Sl} {h : Heap} {Q : Array Value × Int → Heap → Prop} (hx : VsRep h x l) (hn : SortsN (l.length / 2)) (hw : wt.wts l ≤ 1000000000)
    (H : ∀ h' c v e,MapRes l v e → Ext h h' → VRepS (h.size ≤ ·) h' v c → Q (c,e) h') : (value_Map x).wp h Q:=by
  have hxl:=hx.len
  have hll:=wts_len l
  unfold value_Map
  refine mkV_b (fun h1 e1 s1 g1=>?_)
  refine ite_w (fun hodd=>?_) (fun heven=>?_)
  · have hodd : l.length % 2 = 1:=by
      rw [eqI,decide_eq_true_iff,Int.tmod_eq_emod_of_nonneg (by omega)] at hodd
      omega
    refine need_b rfl (stR g1 (Nat.le_refl 4) (vcells_one 0 0 [] Sl.nil) (fun h2 u2 g2=>?_))
    rw [lay_full rfl] at g2
    exact ldR g2 rfl (pure_w (H h2 _ _ _ (.odd hodd) (e1.upd u2 (Nat.le_refl _)) (vl0_rep _ _)))
  have heven : l.length % 2 = 0:=by
    rw [eqI,decide_eq_false_iff_not,Int.tmod_eq_emod_of_nonneg (by omega)] at heven
    omega
  -- the chunks
  unfold slices_Chunk_slapi_Value_api_Value
  refine bind_w (mkV_b (fun h2 e2 s2 g2=>mkV_b (fun h3 e3 s3 g3=>ldI_b (n:=2) (by rw [hcell_blk g3]; rfl) (iteF rfl (pure_w ?_)))))
  have E3:=(e1.trans e2).trans e3
  have g2':=e3.blk g2
  have hpl : (pieces x).length = l.length / 2:=by rw [pieces_len]; omega
  refine bind_w (collect_spec (xs:=pieces x) (fun l h=>by cases h) (by omega) (chunk_seq hx.cap (by omega) (fun i h4 e4=>⟨by rw [hcell_blk (e4.blk g2')]; rfl,by rw [hcell_blk (e4.blk g3)]; rfl⟩)) (fun h4 r e4 G4=>?_))
  have E4:=E3.trans e4
  obtain ⟨its,hits⟩ : ∃ its : List It,its = (List.range (l.length / 2)).map (fun i=>(piece x i,pairAt l i)):=⟨_,rfl⟩
  have hitl : its.length = l.length / 2:=by rw [hits]; simp
  have hit : ∀ a ∈ its,VsRepS (· < h.size) h a.1 a.2 ∧ a.2.length = 2:=fun a ha=>by
    rw [hits] at ha
    obtain ⟨i,hi,rfl⟩:=List.mem_map.1 ha
    have hi:=List.mem_range.1 hi
    exact ⟨piece_rep hx.lt (by omega),pair2 (by omega)⟩
  have hrow : (pieces x).map Sl.v = its.map (vv Prod.fst):=by
    rw [hits,List.map_map]
    unfold pieces
    rw [List.map_map,show (x.len + 1) / 2 = l.length / 2 by omega]
    rfl
  rw [hrow] at G4
  have hron : ∀ b,Sl.on r b → h.size ≤ b:=fun b hb=>by have:=(G4.lt hb).2; have:=E3.size; omega
  have C : Cmpr (α:=It) Prod.fst r (fun hh=>Ext h hh) (.func (.func fn_value_Map_1) #[] #[]) itKey its:=by
    refine ⟨fun hh h' e K=>⟨Nat.le_trans e.size K.size,fun i hi=>(K.same i (by have:=e.size; omega) (fun ho=>by have:=hron i ho; omega)).trans (e.same i hi)⟩,fun hh e p q hp hq Q' HQ=>?_⟩
    refine callW_f cl_value_Map_1 (S_value_Map_1 p.1 q.1) (mapcmp_spec ((hit p hp).1.to.ext e) ((hit q hq).1.to.ext e) (by rw [(hit p hp).2]; decide) (by rw [(hit q hq).2]; decide) HQ)
  refine bind_w (hn hitl C E4 G4 (fun h5 ps G5 hperm hs K5=>?_))
  have E5 : Ext h h5:=C.keep _ _ E4 K5
  have hpsl : ps.length = l.length / 2:=by rw [hperm.length_eq,hitl]
  have hps : ∀ a ∈ ps,VsRepS (· < h.size) h a.1 a.2 ∧ a.2.length = 2:=fun a ha=>hit a (hperm.mem_iff.1 ha)
  have g5 : h5[h.size]? = some (.cells vzM ty_api_Value (0,0)):=K5.blk ((e2.trans (e3.trans e4)).blk g1) (fun ho=>by have:=(G4.lt ho).2; have:=(e2.trans e3).size; omega)
  have hpermL : (ps.map Prod.snd).Perm (pairsL l (l.length / 2)):=by
    have:=hperm.map Prod.snd
    rw [hits,List.map_map] at this
    exact this
  have hsL : (ps.map Prod.snd).Pairwise (fun p q=>¬ cmpV (kOf q) (kOf p) < 0):=by
    rw [List.pairwise_map]
    exact hs
  have hrl : r.len = ps.length:=by have:=G5.len; rw [List.length_map,Nat.mul_one] at this; exact this.symm
  refine M.loop_inv (fun (t : Int) hh=>∃ i : Nat,t = (i : Int) ∧ 1 ≤ i ∧ Ext h5 hh ∧ ∀ j,∀ h : j + 1 < ps.length,j + 1 < i → kOf (ps[j]).2 ≠ kOf (ps[j + 1]).2) (fun t _=>(((ps.length : Nat) : Int) + 1 - t).toNat) ?_ ⟨1,rfl,Nat.le_refl _,Ext.refl _,fun j h1 h2=>by omega⟩
  rintro t hh ⟨i,rfl,hi1,E,hne⟩ self hself
  have EE:=E5.trans E
  unfold value_Map_l1
  refine ite_w (fun hc=>?_) (fun hc=>?_)
  · have hil : i < ps.length:=by have:=of_decide_eq_true hc; omega
    rw [w64 (by omega) (by omega),show ((i : Int) - 1) = ((i - 1 : Nat) : Int) by omega]
    refine (G5.ext E).ix1 (i:=i - 1) (v:=(ps[i - 1]'(by omega)).1.v) (by rw [List.getElem?_map,List.getElem?_eq_getElem (by omega)]; rfl) rfl (fun b hb hc1 hf1=>?_)
    refine (G5.ext E).ix1 (i:=i) (v:=(ps[i]).1.v) (by rw [List.getElem?_map,List.getElem?_eq_getElem hil]; rfl) rfl (fun b2 hb2 hc2 hf2=>?_)
    obtain ⟨r1,l1⟩:=hps _ (List.getElem_mem (show i - 1 < ps.length by omega))
    obtain ⟨r2,l2⟩:=hps _ (List.getElem_mem hil)
    refine ldL_b hc1 (ixV_b (i:=0) (r1.to.ext EE) (by omega) rfl (fun a cs ha hca hv=>ldG_b ha hca (ldL_b hc2 (ixV_b (i:=0) (r2.to.ext EE) (by omega) rfl (fun a2 cs2 ha2 hca2 hv2=>ldG_b ha2 hca2 (bind_w (vsame_spec hv hv2 (fun h6 e6=>?_))))))))
    have k1:=kOf_get (m:=(ps[i - 1]'(by omega)).2) (by omega)
    have k2:=kOf_get (m:=(ps[i]).2) (by omega)
    rw [k1,k2]
    refine ite_w (fun hsame=>?_) (fun hdiff=>?_)
    · have heq:=(cmpV_eq _ _).1 (of_decide_eq_true hsame)
      refine need_b rfl (stR (e6.blk (E.blk g5)) (Nat.le_refl 4) (vcells_one 0 0 [] Sl.nil) (fun h7 u7 g7=>?_))
      rw [lay_full rfl] at g7
      refine ldR g7 rfl (pure_w (H h7 _ _ _ (.twice (ps.map Prod.snd) heven hpermL hsL ⟨i - 1,by rw [List.length_map]; omega,?_⟩) ((EE.trans e6).upd u7 (Nat.le_refl _)) (vl0_rep _ _)))
      simp only [List.getElem_map,show i - 1 + 1 = i by omega]
      exact heq
    · rw [w64 (by omega) (by omega)]
      refine hself _ _ ⟨i + 1,by omega,by omega,E.trans e6,fun j hj hj2=>?_⟩ (by omega)
      by_cases hji : j + 1 < i
      · exact hne j hj hji
      · have : j = i - 1:=by omega
        subst this
        intro heq
        have:=of_decide_eq_false hdiff
        simp only [show i - 1 + 1 = i by omega] at heq
        exact this ((cmpV_eq _ _).2 heq)
  · have hge : ps.length ≤ i:=by have:=of_decide_eq_false hc; omega
    have hflat : wt.wts (flatL (ps.map Prod.snd)) = wt.wts l:=by
      unfold flatL
      rw [wts_perm hpermL,pairsL_flat,List.take_of_length_le (by omega)]
    have hfl:=wts_len (flatL (ps.map Prod.snd))
    have hrow5 : ps.map (vv Prod.fst) = (ps.map Prod.fst).map Sl.v:=by rw [List.map_map]; rfl
    have G6:=G5.ext E
    rw [hrow5] at G6
    refine bind_w (vconcat_spec (S:=(· < h.size)) (ss:=ps.map Prod.fst) (L:=ps.map Prod.snd) G6 (by simp) (fun b hb=>by have:=EE.size; omega) (fun k hk1 hk2=>?_) (by omega) (by rw [List.length_map]; omega) (fun h6 r6 css e6 V6=>?_))
    · rw [List.getElem_map,List.getElem_map]
      exact ((hps _ (List.getElem_mem _)).1).same (fun b hb=>EE.same b hb) (fun b hb=>hb)
    · have hl6 : (flatL (ps.map Prod.snd)).length ≤ 1000000000:=by omega
      have R6 : VRep h6 (.mk 5 0 [] (flatL (ps.map Prod.snd))) (vcells 5 0 [] r6):=(list_rep2 ⟨by decide,by decide⟩ ⟨by decide,by decide⟩ (V6.rep_ (by omega))).to
      refine bind_w (vmade_spec R6 (by rw [wt]; simp only [List.length_nil]; omega) (fun h7 c7 e7 V7=>?_))
      have E7:=(EE.trans e6).trans e7
      have g7:=e7.blk (e6.blk (E.blk g5))
      refine need_b V7.size (stR g7 (by rw [V7.size]; exact Nat.le_refl 4) V7.to.one (fun h8 u8 g8=>?_))
      rw [lay_full (by rw [Array.length_toList,V7.size]; rfl)] at g8
      have hz6:=(EE.trans e6).size
      have hz5:=(E.trans e6).size
      have hlt : h.size < h5.size:=blk_lt g5
      refine ldR g8 V7.size (pure_w (H h8 c7 _ _ (.made (ps.map Prod.snd) heven hpermL hsL (fun j hj=>?_)) (E7.upd u8 (Nat.le_refl _)) ?_))
      · rw [List.length_map] at hj
        simp only [List.getElem_map]
        exact hne j hj (by omega)
      · exact (V7.same (fun k hk=>u8.ne k (by omega))).mono (fun k hk=>by omega)
end Gx
namespace Gx
open Go Go.Proofs Go.Shelf Go.RowKit Go.Lib
set_option linter.unusedVariables false
set_option maxRecDepth 100000
theorem swapG_b {α β : Type} {sl : α → Sl} {lo : Nat} {h : Heap} {Q : β → Heap → Prop} {r : Sl} {L : List α} {i j : Nat} {ti tj : Int} {p q : α} {f : Unit → M β}
    (G : Gw lo h r 1 (L.map (vv sl))) (hi : L[i]? = some p) (hj : L[j]? = some q) (hti : ti = (i : Int)) (htj : tj = (j : Int))
    (H : ∀ h',Km (Sl.on r) h h' → Gw lo h' r 1 (((L.set j p).set i q).map (vv sl)) → (f ()).wp h' Q) :
    (ixL r ti 1 >>= fun a=>ixL r tj 1 >>= fun b=>ldL a >>= fun u=>ldL b >>= fun v=>ixL r tj 1 >>= fun c=>stV c u.v >>= fun _=>ixL r ti 1 >>= fun d=>stV d v.v >>= f).wp h Q:=by
  subst hti; subst htj
  have hy : (L.map (vv sl))[i]? = some (sl p).v:=by rw [List.getElem?_map,hi]; rfl
  have hx : (L.map (vv sl))[j]? = some (sl q).v:=by rw [List.getElem?_map,hj]; rfl
  have hil:=(List.getElem?_eq_some_iff.1 hy).1
  have hjl:=(List.getElem?_eq_some_iff.1 hx).1
  refine G.ix1 hy rfl (fun b hb hc hf=>G.ix1 hx rfl (fun b2 hb2 hc2 hf2=>ldL_b hc (ldL_b hc2 (G.ix1 hx rfl (fun b3 hb3 hc3 hf3=>stV_b hc3 hf3 (one_v (sl p)) ?_)))))
  have e3 : b3 = b:=by rw [hb3] at hb; cases hb; rfl
  subst e3
  have G1:=G.set1 (v:=(sl p).v) hb3 hjl
  have u1:=Upd.hset h b3 j (sl p).v
  generalize hset h ⟨b3,j,none⟩ (sl p).v = h1 at G1 u1 ⊢
  have hil1 : i < ((L.map (vv sl)).set j (sl p).v).length:=by rw [List.length_set]; exact hil
  refine G1.ix1 (List.getElem?_eq_getElem hil1) rfl (fun b4 hb4 hc4 hf4=>stV_b hc4 hf4 (one_v (sl q)) ?_)
  have e4 : b4 = b3:=by rw [hb4] at hb3; cases hb3; rfl
  subst e4
  have G2:=G1.set1 (v:=(sl q).v) (i:=i) hb4 hil1
  have u2:=Upd.hset h1 b4 i (sl q).v
  have hon : Sl.on r b4:=⟨_,hb4,rfl⟩
  refine H _ ((Km.upd u1 hon).trans (Km.upd u2 hon)) ?_
  rw [List.map_set,List.map_set]
  exact G2
theorem set_two {α : Type} (P N R : List α) (x y : α) : (((P ++ x :: (N ++ y :: R)).set P.length y).set (P.length + 1 + N.length) x) = P ++ y :: (N ++ x :: R):=by
  rw [list_set_mid rfl,show P ++ y :: (N ++ y :: R) = (P ++ y :: N) ++ y :: R by simp,list_set_mid (by simp; omega)]
  simp
theorem get_mid {α : Type} (P R : List α) (x : α) : (P ++ x :: R)[P.length]? = some x:=by simp
theorem get_mid2 {α : Type} (P N R : List α) (x y : α) : (P ++ x :: (N ++ y :: R))[P.length + 1 + N.length]? = some y:=by
  rw [show P ++ x :: (N ++ y :: R) = (P ++ x :: N) ++ y :: R by simp,show P.length + 1 + N.length = (P ++ x :: N).length by simp; omega]
  exact get_mid _ _ _
theorem swapRange_spec {α : Type} {sl : α → Sl} {lo : Nat} {h : Heap} {Q : Unit → Heap → Prop} {r : Sl} {cmp : Value} {pre X Mi Y post : List α} {ta tb tn : Int}
    (G : Gw lo h r 1 ((pre ++ X ++ Mi ++ Y ++ post).map (vv sl))) (hn : X.length = Y.length) (hsm : (pre ++ X ++ Mi ++ Y ++ post).length ≤ 1099511627776) (hta : ta = (pre.length : Int)) (htb : tb = ((pre.length + X.length + Mi.length : Nat) : Int)) (htn : tn = (X.length : Int))
    (H : ∀ h',Km (Sl.on r) h h' → Gw lo h' r 1 ((pre ++ Y ++ Mi ++ X ++ post).map (vv sl)) → Q () h') : (slices_swapRangeCmpFunc_slapi_Value r ta tb tn cmp).wp h Q:=by
  subst hta; subst htb; subst htn
  simp only [List.length_append] at hsm
  unfold slices_swapRangeCmpFunc_slapi_Value
  refine M.loop_inv (fun (t : Int) hh=>∃ k : Nat,t = (k : Int) ∧ k ≤ X.length ∧ Km (Sl.on r) h hh ∧ Gw lo hh r 1 ((pre ++ Y.take k ++ X.drop k ++ Mi ++ X.take k ++ Y.drop k ++ post).map (vv sl))) (fun t _=>((X.length : Int) - t).toNat) ?_
    ⟨0,rfl,Nat.zero_le _,Km.refl _ _,by simpa using G⟩
  rintro t hh ⟨k,rfl,hk,K,G1⟩ self hself
  unfold slices_swapRangeCmpFunc_slapi_Value_l1
  refine ite_w (fun hc=>?_) (fun hc=>?_)
  · have hkx : k < X.length:=by have:=of_decide_eq_true hc; omega
    have hky : k < Y.length:=by omega
    have e1 : pre ++ Y.take k ++ X.drop k ++ Mi ++ X.take k ++ Y.drop k ++ post = (pre ++ Y.take k) ++ X[k] :: ((X.drop (k + 1) ++ Mi ++ X.take k) ++ Y[k] :: (Y.drop (k + 1) ++ post)):=by
      rw [List.drop_eq_getElem_cons hkx,List.drop_eq_getElem_cons hky]; simp only [List.append_assoc,List.cons_append]
    have e2 : pre ++ Y.take (k + 1) ++ X.drop (k + 1) ++ Mi ++ X.take (k + 1) ++ Y.drop (k + 1) ++ post = (pre ++ Y.take k) ++ Y[k] :: ((X.drop (k + 1) ++ Mi ++ X.take k) ++ X[k] :: (Y.drop (k + 1) ++ post)):=by
      rw [List.take_succ_eq_append_getElem hkx,List.take_succ_eq_append_getElem hky]; simp only [List.append_assoc,List.cons_append,List.nil_append]
    rw [e1] at G1
    have l1 : (pre ++ Y.take k).length = pre.length + k:=by rw [List.length_append,List.length_take]; omega
    have l2 : (pre ++ Y.take k).length + 1 + (X.drop (k + 1) ++ Mi ++ X.take k).length = pre.length + X.length + Mi.length + k:=by
      rw [l1]; simp only [List.length_append,List.length_take,List.length_drop]; omega
    have g1:=get_mid (pre ++ Y.take k) ((X.drop (k + 1) ++ Mi ++ X.take k) ++ Y[k] :: (Y.drop (k + 1) ++ post)) X[k]
    have g2:=get_mid2 (pre ++ Y.take k) (X.drop (k + 1) ++ Mi ++ X.take k) (Y.drop (k + 1) ++ post) X[k] Y[k]
    refine swapG_b G1 g2 g1 (by rw [w64 (by omega) (by omega)]; omega) (by rw [w64 (by omega) (by omega)]; omega) (fun h2 K2 G2=>?_)
    rw [set_two,← e2] at G2
    rw [w64 (by omega) (by omega)]
    exact hself _ _ ⟨k + 1,by simp,by omega,K.trans K2,G2⟩ (by omega)
  · have hkx : k = X.length:=by have:=of_decide_eq_false hc; omega
    subst hkx
    rw [List.take_of_length_le (Nat.le_of_eq hn.symm),List.drop_of_length_le (Nat.le_refl _),List.take_of_length_le (Nat.le_refl _),List.drop_of_length_le (Nat.le_of_eq hn.symm)] at G1
    exact pure_w (H _ K (by simpa using G1))
theorem rotate_spec {α : Type} {sl : α → Sl} {lo : Nat} {h : Heap} {Q : Unit → Heap → Prop} {r : Sl} {cmp : Value} {pre X Y post : List α} {ta tm tb : Int}
    (G : Gw lo h r 1 ((pre ++ X ++ Y ++ post).map (vv sl))) (hX : 0 < X.length) (hY : 0 < Y.length) (hsm : (pre ++ X ++ Y ++ post).length ≤ 1099511627776) (hta : ta = (pre.length : Int)) (htm : tm = ((pre.length + X.length : Nat) : Int)) (htb : tb = ((pre.length + X.length + Y.length : Nat) : Int))
    (H : ∀ h',Km (Sl.on r) h h' → Gw lo h' r 1 ((pre ++ Y ++ X ++ post).map (vv sl)) → Q () h') : (slices_rotateCmpFunc_slapi_Value r ta tm tb cmp).wp h Q:=by
  subst hta; subst htm; subst htb
  simp only [List.length_append] at hsm
  unfold slices_rotateCmpFunc_slapi_Value
  rw [w64 (by omega) (by omega),w64 (by omega) (by omega)]
  refine M.loop_inv (fun (t : Int × Int) hh=>∃ D1 X1 Y1 D2 : List α,t = ((X1.length : Int),(Y1.length : Int)) ∧ 0 < X1.length ∧ 0 < Y1.length ∧ D1.length + X1.length = pre.length + X.length ∧ D1 ++ Y1 ++ X1 ++ D2 = pre ++ Y ++ X ++ post ∧ Km (Sl.on r) h hh ∧ Gw lo hh r 1 ((D1 ++ X1 ++ Y1 ++ D2).map (vv sl))) (fun t _=>(t.1 + t.2).toNat) ?_
    ⟨pre,X,Y,post,by rw [Prod.mk.injEq]; omega,hX,hY,rfl,rfl,Km.refl _ _,G⟩
  rintro t hh ⟨D1,X1,Y1,D2,rfl,hx1,hy1,hl,he,K,G1⟩ self hself
  have hel:=congrArg List.length he
  simp only [List.length_append] at hel
  unfold slices_rotateCmpFunc_slapi_Value_l1
  dsimp only
  have hta : IntKind.wrap .i64 (((pre.length + X.length : Nat) : Int) - (X1.length : Int)) = (D1.length : Int):=by rw [w64 (by omega) (by omega)]; omega
  rw [hta]
  refine ite_w (fun hne=>?_) (fun heq=>?_)
  · have hne0 : (X1.length : Int) ≠ (Y1.length : Int):=by simpa using hne
    have hne : X1.length ≠ Y1.length:=by omega
    refine ite_w (fun hgt=>?_) (fun hle=>?_)
    · have hgt : Y1.length < X1.length:=by have:=of_decide_eq_true hgt; omega
      have G1' : Gw lo hh r 1 ((D1 ++ X1.take Y1.length ++ X1.drop Y1.length ++ Y1 ++ D2).map (vv sl)):=by
        rw [show D1 ++ X1.take Y1.length ++ X1.drop Y1.length ++ Y1 ++ D2 = D1 ++ (X1.take Y1.length ++ X1.drop Y1.length) ++ Y1 ++ D2 by simp,List.take_append_drop]; exact G1
      have hlt : (X1.take Y1.length).length = Y1.length:=by rw [List.length_take]; omega
      have hld : (X1.drop Y1.length).length = X1.length - Y1.length:=List.length_drop
      refine bind_w (swapRange_spec G1' hlt (by simp only [List.length_append,hlt,hld]; omega) rfl (by rw [hlt,hld]; omega) (by rw [hlt]) (fun h2 K2 G2=>?_))
      rw [w64 (by omega) (by omega)]
      refine hself _ _ ⟨D1 ++ Y1,X1.drop Y1.length,X1.take Y1.length,D2,by rw [Prod.mk.injEq]; omega,by omega,by omega,by rw [List.length_append]; omega,?_,K.trans K2,G2⟩ ?_
      · rw [← he,show D1 ++ Y1 ++ X1.take Y1.length ++ X1.drop Y1.length ++ D2 = D1 ++ Y1 ++ (X1.take Y1.length ++ X1.drop Y1.length) ++ D2 by simp,List.take_append_drop]
      · dsimp only; omega
    · have hlt : X1.length < Y1.length:=by have:=of_decide_eq_false hle; omega
      have hw : IntKind.wrap .i64 (((pre.length + X.length : Nat) : Int) + (Y1.length : Int)) = ((pre.length + X.length : Nat) : Int) + (Y1.length : Int):=w64 (by omega) (by omega)
      have htk : (Y1.take (Y1.length - X1.length)).length = Y1.length - X1.length:=by rw [List.length_take]; omega
      have htd : (Y1.drop (Y1.length - X1.length)).length = X1.length:=by rw [List.length_drop]; omega
      have G1' : Gw lo hh r 1 ((D1 ++ X1 ++ Y1.take (Y1.length - X1.length) ++ Y1.drop (Y1.length - X1.length) ++ D2).map (vv sl)):=by
        rw [show D1 ++ X1 ++ Y1.take (Y1.length - X1.length) ++ Y1.drop (Y1.length - X1.length) ++ D2 = D1 ++ X1 ++ (Y1.take (Y1.length - X1.length) ++ Y1.drop (Y1.length - X1.length)) ++ D2 by simp,List.take_append_drop]; exact G1
      refine bind_w (swapRange_spec G1' htd.symm (by simp only [List.length_append,htk,htd]; omega) rfl (by rw [hw,w64 (by omega) (by omega),htk]; omega) rfl (fun h2 K2 G2=>?_))
      rw [w64 (by omega) (by omega)]
      refine hself _ _ ⟨D1,Y1.drop (Y1.length - X1.length),Y1.take (Y1.length - X1.length),X1 ++ D2,by rw [Prod.mk.injEq]; omega,by omega,by omega,by omega,?_,K.trans K2,?_⟩ ?_
      · rw [← he,show D1 ++ Y1.take (Y1.length - X1.length) ++ Y1.drop (Y1.length - X1.length) ++ (X1 ++ D2) = D1 ++ (Y1.take (Y1.length - X1.length) ++ Y1.drop (Y1.length - X1.length)) ++ X1 ++ D2 by simp,List.take_append_drop]
      · simpa using G2
      · dsimp only; omega
  · have heq : X1.length = Y1.length:=by
      have:=bne_eq_false_iff_eq.1 heq
      omega
    refine bind_w (swapRange_spec (Mi:=[]) (by simpa using G1) heq (by simp only [List.length_append,List.length_nil]; omega) rfl (by rw [List.length_nil]; omega) rfl (fun h2 K2 G2=>pure_w (H _ (K.trans K2) ?_)))
    rw [← he]
    simpa using G2
end Gx
namespace Gx
open Go Go.Proofs Go.Shelf Go.RowKit Go.Lib
set_option linter.unusedVariables false
set_option maxRecDepth 100000
theorem le_lt {x y z : Vl} (h1 : ¬ cmpV y x < 0) (h2 : cmpV y z < 0) : cmpV x z < 0:=by
  rcases cmpV_lt_or y x with h | h | h
  · exact absurd h h1
  · subst h; exact h2
  · exact cmpV_trans h h2
theorem lt_le {x y z : Vl} (h1 : cmpV x y < 0) (h2 : ¬ cmpV z y < 0) : cmpV x z < 0:=by
  rcases cmpV_lt_or z y with h | h | h
  · exact absurd h h2
  · subst h; exact h1
  · exact cmpV_trans h1 h
theorem lt_nle {x y : Vl} (h1 : cmpV x y < 0) : ¬ cmpV y x < 0:=by
  have:=cmpV_anti x y
  omega
theorem Srt.le {α : Type} {key : α → Vl} {l : List α} (H : Srt key l) {i j : Nat} (hij : i ≤ j) (hj : j < l.length) : ¬ cmpV (key l[j]) (key (l[i]'(by omega))) < 0:=by
  rcases Nat.lt_or_ge i j with h | h
  · exact List.pairwise_iff_getElem.1 H i j (by omega) hj h
  · have : i = j:=by omega
    subst this
    rw [cmpV_self]; decide
theorem Srt.take {α : Type} {key : α → Vl} {l : List α} (H : Srt key l) (n : Nat) : Srt key (l.take n):=List.Pairwise.sublist (List.take_sublist _ _) H
theorem Srt.drop {α : Type} {key : α → Vl} {l : List α} (H : Srt key l) (n : Nat) : Srt key (l.drop n):=List.Pairwise.sublist (List.drop_sublist _ _) H
theorem Srt.app {α : Type} {key : α → Vl} {l m : List α} (H : Srt key l) (K : Srt key m) (h : ∀ p ∈ l,∀ q ∈ m,¬ cmpV (key q) (key p) < 0) : Srt key (l ++ m):=List.pairwise_append.2 ⟨H,K,h⟩
theorem Srt.one {α : Type} (key : α → Vl) (x : α) : Srt key [x]:=List.pairwise_singleton _ _
theorem mem_take_ {α : Type} {l : List α} {n : Nat} {p : α} (h : p ∈ l.take n) : ∃ i,∃ hi : i < l.length,i < n ∧ p = l[i]:=by
  obtain ⟨i,hi,rfl⟩:=List.mem_iff_getElem.1 h
  rw [List.length_take] at hi
  exact ⟨i,by omega,by omega,by rw [List.getElem_take]⟩
theorem mem_drop_ {α : Type} {l : List α} {n : Nat} {p : α} (h : p ∈ l.drop n) : ∃ i,∃ hi : i < l.length,n ≤ i ∧ p = l[i]:=by
  obtain ⟨i,hi,rfl⟩:=List.mem_iff_getElem.1 h
  rw [List.length_drop] at hi
  exact ⟨n + i,by omega,by omega,by rw [List.getElem_drop]⟩
theorem cross {α : Type} {key : α → Vl} {A B : List α} {s e : Nat} (sA : Srt key A) (sB : Srt key B) (hsA : s ≤ A.length) (heB : e ≤ B.length)
    (h1 : ∀ (i : Nat) (hi : i < A.length) (he : e < B.length),s = i + 1 → ¬ cmpV (key B[e]) (key A[i]) < 0)
    (h2 : ∀ (i : Nat) (hs : s < A.length) (hi : i < B.length),e = i + 1 → cmpV (key B[i]) (key A[s]) < 0) :
    ∀ p ∈ A.take s ++ B.take e,∀ q ∈ A.drop s ++ B.drop e,¬ cmpV (key q) (key p) < 0:=by
  intro p hp q hq
  rcases List.mem_append.1 hp with hp | hp <;> rcases List.mem_append.1 hq with hq | hq
  · obtain ⟨i,hi,his,rfl⟩:=mem_take_ hp
    obtain ⟨j,hj,hjs,rfl⟩:=mem_drop_ hq
    exact sA.le (by omega) hj
  · obtain ⟨i,hi,his,rfl⟩:=mem_take_ hp
    obtain ⟨j,hj,hjs,rfl⟩:=mem_drop_ hq
    cases s with
    | zero=>omega
    | succ s=>exact ncmp_trans (sB.le hjs hj) (ncmp_trans (h1 s (by omega) (by omega) rfl) (sA.le (by omega) (by omega)))
  · obtain ⟨i,hi,his,rfl⟩:=mem_take_ hp
    obtain ⟨j,hj,hjs,rfl⟩:=mem_drop_ hq
    cases e with
    | zero=>omega
    | succ e=>exact ncmp_trans (ncmp_trans (sA.le hjs hj) (lt_nle (h2 e (by omega) (by omega) rfl))) (sB.le (by omega) (by omega))
  · obtain ⟨i,hi,his,rfl⟩:=mem_take_ hp
    obtain ⟨j,hj,hjs,rfl⟩:=mem_drop_ hq
    exact sB.le (by omega) hj
theorem halves {α : Type} (A B : List α) (s e : Nat) : (A.take s ++ B.take e ++ (A.drop s ++ B.drop e)).Perm (A ++ B):=by
  have h : (A ++ B) = (A.take s ++ A.drop s) ++ (B.take e ++ B.drop e):=by rw [List.take_append_drop,List.take_append_drop]
  rw [h,List.append_assoc,List.append_assoc]
  refine List.Perm.append_left _ ?_
  rw [← List.append_assoc,← List.append_assoc]
  exact List.Perm.append_right _ List.perm_append_comm
theorem wu64 {n : Nat} (h : n < 18446744073709551616) : IntKind.wrap .u64 (n : Int) = (n : Int):=by
  have h2 : (n : Int) < 18446744073709551616:=by omega
  simp [IntKind.wrap,IntKind.signed,IntKind.bits,Int.emod_eq_of_lt (by omega : (0 : Int) ≤ n) h2]
theorem mid_eq {i j : Nat} (h : i + j ≤ 4611686018427387904) : IntKind.wrap .i64 (iShr .u64 (IntKind.wrap .u64 (IntKind.wrap .i64 ((i : Int) + (j : Int)))) 1) = (((i + j) / 2 : Nat) : Int):=by
  rw [w64 (n:=(i : Int) + (j : Int)) (by omega) (by omega),show (i : Int) + (j : Int) = ((i + j : Nat) : Int) by omega,wu64 (by omega)]
  have : iShr .u64 ((i + j : Nat) : Int) 1 = (((i + j) / 2 : Nat) : Int):=by
    show ((i + j : Nat) : Int).fdiv 2 = _
    rw [Int.fdiv_eq_ediv_of_nonneg _ (by decide)]; rfl
  rw [this,w64 (by omega) (by omega)]
section
variable {α : Type} {sl : α → Sl} {lo : Nat} {r : Sl} {T : Heap → Prop} {cmp : Value} {key : α → Vl} {ss : List α}
theorem ask_b {β : Type} {h : Heap} {Q : β → Heap → Prop} {L : List α} {i j : Nat} {ti tj : Int} {p q : α} {f : Int → M β} (C : Cmpr sl r T cmp key ss) (hT : T h) (G : Gw lo h r 1 (L.map (vv sl))) (hi : L[i]? = some p) (hj : L[j]? = some q) (hp : p ∈ ss) (hq : q ∈ ss)
    (hti : ti = (i : Int)) (htj : tj = (j : Int)) (H : ∀ h',Km (Sl.on r) h h' → T h' → Gw lo h' r 1 (L.map (vv sl)) → (f (cmpV (key p) (key q))).wp h' Q) :
    (ixL r ti 1 >>= fun a=>ixL r tj 1 >>= fun b=>ldL a >>= fun u=>ldL b >>= fun v=>callW Go.Proofs.Tryz.prog (fun r : Int=>.int .i64 r) cmp [u.v,v.v] >>= f).wp h Q:=by
  subst hti; subst htj
  have hy : (L.map (vv sl))[i]? = some (sl p).v:=by rw [List.getElem?_map,hi]; rfl
  have hx : (L.map (vv sl))[j]? = some (sl q).v:=by rw [List.getElem?_map,hj]; rfl
  refine G.ix1 hy rfl (fun b hb hc hf=>G.ix1 hx rfl (fun b2 hb2 hc2 hf2=>ldL_b hc (ldL_b hc2 (bind_w (C.call h hT p q hp hq _ (fun h3 e3=>?_))))))
  exact H h3 (Km.ext e3) (C.keep _ _ hT (Km.ext e3)) (G.ext e3)
theorem get_in {L1 L2 L3 : List α} {k : Nat} (hk : k < L2.length) : (L1 ++ L2 ++ L3)[L1.length + k]? = some L2[k]:=by
  rw [List.append_assoc,List.getElem?_append_right (by omega),show L1.length + k - L1.length = k by omega,List.getElem?_append_left hk,List.getElem?_eq_getElem hk]
theorem merge1_spec {x : α} {B pre post : List α} {h : Heap} {Q : Unit → Heap → Prop} (C : Cmpr sl r T cmp key ss) (hT : T h) (sB : Srt key B) (hm : ∀ p ∈ x :: B,p ∈ ss) (G : Gw lo h r 1 ((pre ++ [x] ++ B ++ post).map (vv sl))) (hsm : (pre ++ [x] ++ B ++ post).length ≤ 1099511627776)
    (H : ∀ h' D,Km (Sl.on r) h h' → Gw lo h' r 1 ((pre ++ D ++ post).map (vv sl)) → D.Perm ([x] ++ B) → Srt key D → Q () h') :
    (M.loop (slices_symMergeCmpFunc_slapi_Value_l1 r (pre.length : Int) cmp) (((pre.length + 1 : Nat) : Int),((pre.length + 1 + B.length : Nat) : Int))).wp h Q:=by
  simp only [List.length_append,List.length_cons,List.length_nil] at hsm
  refine M.loop_inv (fun (t : Int × Int) hh=>∃ u v : Nat,t = (((pre.length + 1 + u : Nat) : Int),((pre.length + 1 + v : Nat) : Int)) ∧ u ≤ v ∧ v ≤ B.length ∧ (∀ k (hk : k < B.length),k < u → cmpV (key B[k]) (key x) < 0) ∧ (∀ k (hk : k < B.length),v ≤ k → ¬ cmpV (key B[k]) (key x) < 0) ∧ Km (Sl.on r) h hh ∧ Gw lo hh r 1 ((pre ++ [x] ++ B ++ post).map (vv sl))) (fun t _=>(t.2 - t.1).toNat) ?_
    ⟨0,B.length,rfl,Nat.zero_le _,Nat.le_refl _,fun k hk h0=>by omega,fun k hk h0=>by omega,Km.refl _ _,G⟩
  rintro t hh ⟨u,v,rfl,huv,hv,hlow,hhigh,K,G1⟩ self hself
  unfold slices_symMergeCmpFunc_slapi_Value_l1
  dsimp only
  rw [mid_eq (by omega)]
  refine ite_w (fun hc=>?_) (fun hc=>?_)
  · have huv' : u < v:=by have:=of_decide_eq_true hc; omega
    have hw : (pre.length + 1 + u + (pre.length + 1 + v)) / 2 = pre.length + 1 + (u + v) / 2:=by omega
    rw [hw]
    have hwB : (u + v) / 2 < B.length:=by omega
    generalize hww : (u + v) / 2 = w at hwB
    have g1 : (pre ++ [x] ++ B ++ post)[pre.length + 1 + w]? = some B[w]:=by
      have:=get_in (L1:=pre ++ [x]) (L2:=B) (L3:=post) hwB
      rwa [List.length_append] at this
    have g2 : (pre ++ [x] ++ B ++ post)[pre.length]? = some x:=by
      simp
    refine ask_b C (C.keep _ _ hT K) G1 g1 g2 (hm _ (List.mem_cons_of_mem _ (List.getElem_mem hwB))) (hm _ List.mem_cons_self) rfl rfl (fun h2 K2 T2 G2=>?_)
    refine ite_w (fun hlt=>?_) (fun hge=>?_)
    · have hlt:=of_decide_eq_true hlt
      rw [w64 (by omega) (by omega)]
      refine hself _ _ ⟨w + 1,v,by rw [Prod.mk.injEq]; omega,by omega,hv,fun k hk hkw=>le_lt (sB.le (show k ≤ w by omega) hwB) hlt,hhigh,K.trans K2,G2⟩ ?_
      dsimp only; omega
    · have hge:=of_decide_eq_false hge
      refine hself _ _ ⟨u,w,rfl,by omega,by omega,hlow,fun k hk hkw=>ncmp_trans (sB.le hkw hk) hge,K.trans K2,G2⟩ ?_
      dsimp only; omega
  · have huv' : u = v:=by have:=of_decide_eq_false hc; omega
    subst huv'
    refine M.loop_inv (fun (t : Int) h2=>∃ k : Nat,t = ((pre.length + k : Nat) : Int) ∧ k ≤ u ∧ Km (Sl.on r) h h2 ∧ Gw lo h2 r 1 ((pre ++ B.take k ++ x :: (B.drop k ++ post)).map (vv sl))) (fun t _=>(((pre.length + u : Nat) : Int) - t).toNat) ?_
      ⟨0,rfl,Nat.zero_le _,K,by simpa using G1⟩
    rintro t h2 ⟨k,rfl,hk,K2,G2⟩ self2 hself2
    unfold slices_symMergeCmpFunc_slapi_Value_l2
    rw [w64 (n:=((pre.length + 1 + u : Nat) : Int) - 1) (by omega) (by omega)]
    refine ite_w (fun hc2=>?_) (fun hc2=>?_)
    · have hku : k < u:=by have:=of_decide_eq_true hc2; omega
      have hkB : k < B.length:=by omega
      have e1 : pre ++ B.take k ++ x :: (B.drop k ++ post) = (pre ++ B.take k) ++ x :: ([] ++ B[k] :: (B.drop (k + 1) ++ post)):=by
        rw [List.drop_eq_getElem_cons hkB]; simp only [List.append_assoc,List.cons_append,List.nil_append]
      have e2 : pre ++ B.take (k + 1) ++ x :: (B.drop (k + 1) ++ post) = (pre ++ B.take k) ++ B[k] :: ([] ++ x :: (B.drop (k + 1) ++ post)):=by
        rw [List.take_succ_eq_append_getElem hkB]; simp only [List.append_assoc,List.cons_append,List.nil_append]
      rw [e1] at G2
      have l1 : (pre ++ B.take k).length = pre.length + k:=by rw [List.length_append,List.length_take]; omega
      have g1:=get_mid (pre ++ B.take k) ([] ++ B[k] :: (B.drop (k + 1) ++ post)) x
      have g2:=get_mid2 (pre ++ B.take k) [] (B.drop (k + 1) ++ post) x B[k]
      have hw1 : IntKind.wrap .i64 (((pre.length + k : Nat) : Int) + 1) = ((pre.length + k + 1 : Nat) : Int):=by rw [w64 (by omega) (by omega)]; omega
      rw [hw1]
      refine swapG_b G2 g2 g1 (by rw [l1]; simp) (by rw [l1]) (fun h3 K3 G3=>?_)
      rw [set_two,← e2] at G3
      exact hself2 _ _ ⟨k + 1,by omega,by omega,K2.trans K3,G3⟩ (by omega)
    · have hku : k = u:=by have:=of_decide_eq_false hc2; omega
      subst hku
      refine pure_w (H _ (B.take k ++ x :: B.drop k) K2 (by simpa using G2) ?_ ?_)
      · refine List.perm_middle.trans ?_
        rw [List.take_append_drop]; exact List.Perm.refl _
      · refine Srt.app (sB.take k) (List.pairwise_cons.2 ⟨fun q hq=>?_,sB.drop k⟩) (fun p hp q hq=>?_)
        · obtain ⟨j,hj,hkj,rfl⟩:=mem_drop_ hq
          exact hhigh j hj hkj
        · obtain ⟨i,hi,hik,rfl⟩:=mem_take_ hp
          rcases List.mem_cons.1 hq with rfl | hq
          · exact lt_nle (hlow i hi hik)
          · obtain ⟨j,hj,hkj,rfl⟩:=mem_drop_ hq
            exact sB.le (by omega) hj
theorem merge2_spec {y : α} {A pre post : List α} {h : Heap} {Q : Unit → Heap → Prop} (C : Cmpr sl r T cmp key ss) (hT : T h) (sA : Srt key A) (hm : ∀ p ∈ y :: A,p ∈ ss) (G : Gw lo h r 1 ((pre ++ A ++ [y] ++ post).map (vv sl))) (hsm : (pre ++ A ++ [y] ++ post).length ≤ 1099511627776)
    (H : ∀ h' D,Km (Sl.on r) h h' → Gw lo h' r 1 ((pre ++ D ++ post).map (vv sl)) → D.Perm (A ++ [y]) → Srt key D → Q () h') :
    (M.loop (slices_symMergeCmpFunc_slapi_Value_l3 r ((pre.length + A.length : Nat) : Int) cmp) ((pre.length : Int),((pre.length + A.length : Nat) : Int))).wp h Q:=by
  simp only [List.length_append,List.length_cons,List.length_nil] at hsm
  refine M.loop_inv (fun (t : Int × Int) hh=>∃ u v : Nat,t = (((pre.length + u : Nat) : Int),((pre.length + v : Nat) : Int)) ∧ u ≤ v ∧ v ≤ A.length ∧ (∀ k (hk : k < A.length),k < u → ¬ cmpV (key y) (key A[k]) < 0) ∧ (∀ k (hk : k < A.length),v ≤ k → cmpV (key y) (key A[k]) < 0) ∧ Km (Sl.on r) h hh ∧ Gw lo hh r 1 ((pre ++ A ++ [y] ++ post).map (vv sl))) (fun t _=>(t.2 - t.1).toNat) ?_
    ⟨0,A.length,rfl,Nat.zero_le _,Nat.le_refl _,fun k hk h0=>by omega,fun k hk h0=>by omega,Km.refl _ _,G⟩
  rintro t hh ⟨u,v,rfl,huv,hv,hlow,hhigh,K,G1⟩ self hself
  unfold slices_symMergeCmpFunc_slapi_Value_l3
  dsimp only
  rw [mid_eq (by omega)]
  refine ite_w (fun hc=>?_) (fun hc=>?_)
  · have huv' : u < v:=by have:=of_decide_eq_true hc; omega
    have hw : (pre.length + u + (pre.length + v)) / 2 = pre.length + (u + v) / 2:=by omega
    rw [hw]
    have hwA : (u + v) / 2 < A.length:=by omega
    generalize hww : (u + v) / 2 = w at hwA
    have g1 : (pre ++ A ++ [y] ++ post)[pre.length + w]? = some A[w]:=by
      have:=get_in (L1:=pre) (L2:=A) (L3:=[y] ++ post) hwA
      rwa [← List.append_assoc] at this
    have g2 : (pre ++ A ++ [y] ++ post)[pre.length + A.length]? = some y:=by
      have:=get_mid (pre ++ A) post y
      rw [List.length_append] at this
      rw [show pre ++ A ++ [y] ++ post = pre ++ A ++ y :: post by simp only [List.append_assoc,List.cons_append,List.nil_append]]
      exact this
    refine ask_b C (C.keep _ _ hT K) G1 g2 g1 (hm _ List.mem_cons_self) (hm _ (List.mem_cons_of_mem _ (List.getElem_mem hwA))) rfl rfl (fun h2 K2 T2 G2=>?_)
    refine ite_w (fun hge=>?_) (fun hlt=>?_)
    · have hge : ¬ cmpV (key y) (key A[w]) < 0:=by simpa using hge
      rw [w64 (by omega) (by omega)]
      refine hself _ _ ⟨w + 1,v,by rw [Prod.mk.injEq]; omega,by omega,hv,fun k hk hkw=>ncmp_trans hge (sA.le (show k ≤ w by omega) hwA),hhigh,K.trans K2,G2⟩ ?_
      dsimp only; omega
    · have hlt : cmpV (key y) (key A[w]) < 0:=by simpa using hlt
      refine hself _ _ ⟨u,w,rfl,by omega,by omega,hlow,fun k hk hkw=>lt_le hlt (sA.le hkw hk),K.trans K2,G2⟩ ?_
      dsimp only; omega
  · have huv' : u = v:=by have:=of_decide_eq_false hc; omega
    subst huv'
    refine M.loop_inv (fun (t : Int) h2=>∃ k : Nat,t = ((pre.length + k : Nat) : Int) ∧ u ≤ k ∧ k ≤ A.length ∧ Km (Sl.on r) h h2 ∧ Gw lo h2 r 1 ((pre ++ A.take k ++ y :: (A.drop k ++ post)).map (vv sl))) (fun t _=>(t - ((pre.length + u : Nat) : Int)).toNat) ?_
      ⟨A.length,rfl,hv,Nat.le_refl _,K,by rw [List.take_of_length_le (Nat.le_refl _),List.drop_of_length_le (Nat.le_refl _)]; simpa using G1⟩
    rintro t h2 ⟨k,rfl,hk,hkA,K2,G2⟩ self2 hself2
    unfold slices_symMergeCmpFunc_slapi_Value_l4
    refine ite_w (fun hc2=>?_) (fun hc2=>?_)
    · have hku : u < k:=by have:=of_decide_eq_true hc2; omega
      obtain ⟨k,rfl⟩ : ∃ j,k = j + 1:=⟨k - 1,by omega⟩
      have hkB : k < A.length:=by omega
      have e1 : pre ++ A.take (k + 1) ++ y :: (A.drop (k + 1) ++ post) = (pre ++ A.take k) ++ A[k] :: y :: (A.drop (k + 1) ++ post):=by
        rw [List.take_succ_eq_append_getElem hkB]; simp only [List.append_assoc,List.cons_append,List.nil_append]
      have e2 : pre ++ A.take k ++ y :: (A.drop k ++ post) = (pre ++ A.take k) ++ y :: A[k] :: (A.drop (k + 1) ++ post):=by
        rw [List.drop_eq_getElem_cons hkB]; simp only [List.append_assoc,List.cons_append,List.nil_append]
      rw [e1] at G2
      have l1 : (pre ++ A.take k).length = pre.length + k:=by rw [List.length_append,List.length_take]; omega
      have hj : ((pre.length + (k + 1) : Nat) : Int) = (((pre ++ A.take k).length + 1 : Nat) : Int):=by rw [l1]; omega
      refine swap_b G2 hj (by omega) (fun h3 K3 G3=>?_)
      rw [← e2] at G3
      rw [w64 (by omega) (by omega)]
      exact hself2 _ _ ⟨k,by omega,by omega,by omega,K2.trans K3,G3⟩ (by omega)
    · have hku : k = u:=by have:=of_decide_eq_false hc2; omega
      subst hku
      refine pure_w (H _ (A.take k ++ y :: A.drop k) K2 (by simpa using G2) ?_ ?_)
      · refine List.perm_middle.trans ?_
        rw [List.take_append_drop]; exact (List.perm_append_singleton _ _).symm
      · refine Srt.app (sA.take k) (List.pairwise_cons.2 ⟨fun q hq=>?_,sA.drop k⟩) (fun p hp q hq=>?_)
        · obtain ⟨j,hj,hkj,rfl⟩:=mem_drop_ hq
          exact lt_nle (hhigh j hj hkj)
        · obtain ⟨i,hi,hik,rfl⟩:=mem_take_ hp
          rcases List.mem_cons.1 hq with rfl | hq
          · exact hlow i hi hik
          · obtain ⟨j,hj,hkj,rfl⟩:=mem_drop_ hq
            exact sA.le (by omega) hj
end
end Gx
namespace Gx
open Go Go.Proofs Go.Shelf Go.RowKit Go.Lib
set_option linter.unusedVariables false
set_option maxRecDepth 100000
section
variable {α : Type} {sl : α → Sl} {lo : Nat} {r : Sl} {T : Heap → Prop} {cmp : Value} {key : α → Vl} {ss : List α}
def Merges (sl : α → Sl) (lo : Nat) (r : Sl) (T : Heap → Prop) (cmp : Value) (key : α → Vl) (ss : List α) (n : Nat) : Prop:=∀ {A B pre post : List α} {h : Heap} {Q : Unit → Heap → Prop} {ta tm tb : Int},A.length + B.length ≤ n → 0 < A.length → 0 < B.length → T h → Srt key A → Srt key B →
  (∀ p ∈ A ++ B,p ∈ ss) → Gw lo h r 1 ((pre ++ A ++ B ++ post).map (vv sl)) → (pre ++ A ++ B ++ post).length ≤ 1099511627776 → ta = (pre.length : Int) → tm = ((pre.length + A.length : Nat) : Int) → tb = ((pre.length + A.length + B.length : Nat) : Int) →
  (∀ h' D,Km (Sl.on r) h h' → Gw lo h' r 1 ((pre ++ D ++ post).map (vv sl)) → D.Perm (A ++ B) → Srt key D → Q () h') → (slices_symMergeCmpFunc_slapi_Value r ta tm tb cmp).wp h Q
theorem half_spec {n : Nat} (C : Cmpr sl r T cmp key ss) (ih : Merges sl lo r T cmp key ss n) {A B pre post : List α} {h : Heap} {Q : Unit → Heap → Prop} {ta tm tb : Int} {b : Bool} {k : M Unit} (hn : A.length + B.length ≤ n) (hb : b = true ↔ 0 < A.length ∧ 0 < B.length) (hT : T h) (sA : Srt key A) (sB : Srt key B)
    (hm : ∀ p ∈ A ++ B,p ∈ ss) (G : Gw lo h r 1 ((pre ++ A ++ B ++ post).map (vv sl))) (hsm : (pre ++ A ++ B ++ post).length ≤ 1099511627776) (hta : ta = (pre.length : Int)) (htm : tm = ((pre.length + A.length : Nat) : Int)) (htb : tb = ((pre.length + A.length + B.length : Nat) : Int))
    (H : ∀ h' D,Km (Sl.on r) h h' → Gw lo h' r 1 ((pre ++ D ++ post).map (vv sl)) → D.Perm (A ++ B) → Srt key D → k.wp h' Q) :
    (M.ite b (callF Go.Proofs.Tryz.prog fn_slices_symMergeCmpFunc_slapi_Value #[r.v,.int .i64 ta,.int .i64 tm,.int .i64 tb,cmp] (fun r : Unit=>.tuple #[]) >>= fun _=>k) k).wp h Q:=by
  refine ite_w (fun h1=>?_) (fun h0=>?_)
  · obtain ⟨hA,hB⟩:=hb.1 h1
    exact bind_w (callF_w (S_slices_symMergeCmpFunc_slapi_Value _ _ _ _ _) (ih hn hA hB hT sA sB hm G hsm hta htm htb H))
  · have hz : A.length = 0 ∨ B.length = 0:=by
      rcases Nat.eq_zero_or_pos A.length with hA | hA
      · exact .inl hA
      · rcases Nat.eq_zero_or_pos B.length with hB | hB
        · exact .inr hB
        · rw [hb.2 ⟨hA,hB⟩] at h0; cases h0
    refine H h (A ++ B) (Km.refl _ _) (by simpa using G) (List.Perm.refl _) ?_
    rcases hz with hz | hz
    · rw [List.length_eq_zero_iff.1 hz]; exact sB
    · rw [List.length_eq_zero_iff.1 hz,List.append_nil]; exact sA
theorem andD_b {β : Type} {c d : Prop} [Decidable c] [Decidable d] {h : Heap} {Q : β → Heap → Prop} {f : Bool → M β} (H : (f (decide (c ∧ d))).wp h Q) : (M.ite (decide c) (M.pure (decide d)) (M.pure false) >>= f).wp h Q:=by
  refine ite_b (fun hc=>pure_b ?_) (fun hc=>pure_b ?_)
  · have hc:=of_decide_eq_true hc
    rwa [show decide d = decide (c ∧ d) from decide_eq_decide.2 ⟨fun hd=>⟨hc,hd⟩,fun h=>h.2⟩]
  · have hc:=of_decide_eq_false hc
    rwa [show false = decide (c ∧ d) from (decide_eq_false (fun h=>hc h.1)).symm]
theorem symMerge_spec (C : Cmpr sl r T cmp key ss) : ∀ n,Merges sl lo r T cmp key ss n:=by
  intro n
  induction n with
  | zero=>intro A B pre post h Q ta tm tb hn hA; omega
  | succ n ih =>
    intro A B pre post h Q ta tm tb hn hA hB hT sA sB hm G hsm hta htm htb H
    subst hta; subst htm; subst htb
    have hsm0:=hsm
    simp only [List.length_append] at hsm
    unfold slices_symMergeCmpFunc_slapi_Value
    rw [w64 (n:=((pre.length + A.length : Nat) : Int) - (pre.length : Int)) (by omega) (by omega),w64 (n:=((pre.length + A.length + B.length : Nat) : Int) - ((pre.length + A.length : Nat) : Int)) (by omega) (by omega)]
    refine ite_w (fun h1=>?_) (fun h1=>?_)
    · have hA1 : A.length = 1:=by have:=eq_of_beq h1; omega
      obtain ⟨x,rfl⟩:=List.length_eq_one_iff.1 hA1
      refine merge1_spec C hT sB (fun p hp=>hm p (by simpa using hp)) G hsm0 (fun h' D K G' p s=>H h' D K G' p s)
    have hA1 : A.length ≠ 1:=by intro e; rw [e] at h1; have:=bne_iff_ne.1 (by rw [bne,h1]; rfl : (((pre.length + 1 : Nat) : Int) - (pre.length : Int) != 1) = true); omega
    refine ite_w (fun h2=>?_) (fun h2=>?_)
    · have hB1 : B.length = 1:=by have:=eq_of_beq h2; omega
      obtain ⟨y,rfl⟩:=List.length_eq_one_iff.1 hB1
      refine merge2_spec C hT sA (fun p hp=>hm p (by rcases List.mem_cons.1 hp with rfl | hp <;> simp [*])) G hsm0 (fun h' D K G' p s=>H h' D K G' p s)
    have hB1 : B.length ≠ 1:=by intro e; rw [e] at h2; have:=bne_iff_ne.1 (by rw [bne,h2]; rfl : (((pre.length + A.length + 1 : Nat) : Int) - ((pre.length + A.length : Nat) : Int) != 1) = true); omega
    rw [mid_eq (by omega)]
    obtain ⟨d,hd⟩ : ∃ d,d = (A.length + B.length) / 2:=⟨_,rfl⟩
    have hmid : (pre.length + (pre.length + A.length + B.length)) / 2 = pre.length + d:=by omega
    rw [hmid]
    -- the search and what follows it
    have main : (slices_symMergeCmpFunc_slapi_Value_j1 r (pre.length : Int) ((pre.length + A.length : Nat) : Int) ((pre.length + A.length + B.length : Nat) : Int) cmp ((pre.length + d : Nat) : Int) ((pre.length + d + (pre.length + A.length) : Nat) : Int) ((pre.length + (d - B.length) : Nat) : Int) ((pre.length + min d A.length : Nat) : Int)).wp h Q:=by
      unfold slices_symMergeCmpFunc_slapi_Value_j1
      rw [w64 (n:=((pre.length + d + (pre.length + A.length) : Nat) : Int) - 1) (by omega) (by omega)]
      refine M.loop_inv (fun (t : Int × Int) hh=>∃ u v : Nat,t = (((pre.length + u : Nat) : Int),((pre.length + v : Nat) : Int)) ∧ d - B.length ≤ u ∧ u ≤ v ∧ v ≤ min d A.length ∧
          (∀ c (hc : c < A.length) (hb : d - 1 - c < B.length),d - B.length ≤ c → c < u → ¬ cmpV (key B[d - 1 - c]) (key A[c]) < 0) ∧
          (∀ c (hc : c < A.length) (hb : d - 1 - c < B.length),v ≤ c → c < min d A.length → cmpV (key B[d - 1 - c]) (key A[c]) < 0) ∧ Km (Sl.on r) h hh ∧ Gw lo hh r 1 ((pre ++ A ++ B ++ post).map (vv sl))) (fun t _=>(t.2 - t.1).toNat) ?_
        ⟨d - B.length,min d A.length,rfl,Nat.le_refl _,by omega,Nat.le_refl _,fun c _ _ h1 h2=>by omega,fun c _ _ h1 h2=>by omega,Km.refl _ _,G⟩
      rintro t hh ⟨u,v,rfl,hu,huv,hv,hlow,hhigh,K,G1⟩ self hself
      unfold slices_symMergeCmpFunc_slapi_Value_l5
      dsimp only
      rw [mid_eq (by omega)]
      refine ite_w (fun hc=>?_) (fun hc=>?_)
      · have huv' : u < v:=by have:=of_decide_eq_true hc; omega
        have hw : (pre.length + u + (pre.length + v)) / 2 = pre.length + (u + v) / 2:=by omega
        rw [hw]
        have hwA : (u + v) / 2 < A.length:=by omega
        have hwv : (u + v) / 2 < v:=by omega
        have hwu : u ≤ (u + v) / 2:=by omega
        generalize hww : (u + v) / 2 = w at hwA hwv hwu
        have hwB : d - 1 - w < B.length:=by omega
        have g1 : (pre ++ A ++ B ++ post)[pre.length + A.length + (d - 1 - w)]? = some B[d - 1 - w]:=by
          have:=get_in (L1:=pre ++ A) (L2:=B) (L3:=post) hwB
          rwa [List.length_append] at this
        have g2 : (pre ++ A ++ B ++ post)[pre.length + w]? = some A[w]:=by
          have:=get_in (L1:=pre) (L2:=A) (L3:=B ++ post) hwA
          rwa [← List.append_assoc] at this
        refine ask_b C (C.keep _ _ hT K) G1 g1 g2 (hm _ (List.mem_append_right _ (List.getElem_mem hwB))) (hm _ (List.mem_append_left _ (List.getElem_mem hwA))) (by rw [w64 (by omega) (by omega)]; omega) rfl (fun h2 K2 T2 G2=>?_)
        refine ite_w (fun hge=>?_) (fun hlt=>?_)
        · have hge : ¬ cmpV (key B[d - 1 - w]) (key A[w]) < 0:=by simpa using hge
          rw [w64 (by omega) (by omega)]
          refine hself _ _ ⟨w + 1,v,by rw [Prod.mk.injEq]; omega,by omega,by omega,hv,fun c hc hb h1 h2=>ncmp_trans (sB.le (show d - 1 - w ≤ d - 1 - c by omega) hb) (ncmp_trans hge (sA.le (show c ≤ w by omega) hwA)),hhigh,K.trans K2,G2⟩ ?_
          dsimp only; omega
        · have hlt : cmpV (key B[d - 1 - w]) (key A[w]) < 0:=by simpa using hlt
          refine hself _ _ ⟨u,w,rfl,hu,by omega,by omega,hlow,fun c hc hb h1 h2=>le_lt (sB.le (show d - 1 - c ≤ d - 1 - w by omega) hwB) (lt_le hlt (sA.le h1 hc)),K.trans K2,G2⟩ ?_
          dsimp only; omega
      · have huv' : u = v:=by have:=of_decide_eq_false hc; omega
        subst huv'
        obtain ⟨e,he⟩ : ∃ e,e = d - u:=⟨_,rfl⟩
        have hend : IntKind.wrap .i64 (((pre.length + d + (pre.length + A.length) : Nat) : Int) - ((pre.length + u : Nat) : Int)) = ((pre.length + A.length + e : Nat) : Int):=by rw [w64 (by omega) (by omega)]; omega
        rw [hend]
        have huA : u ≤ A.length:=by omega
        have heB : e ≤ B.length:=by omega
        have hcross:=cross (s:=u) (e:=e) sA sB huA heB
          (fun i hi he' hs=>by
            have:=hlow i hi (by omega) (by omega) (by omega)
            have e1 : d - 1 - i = e:=by omega
            simpa [e1] using this)
          (fun i hs hi hei=>by
            have:=hhigh u hs (by omega) (Nat.le_refl _) (by omega)
            have e1 : d - 1 - u = i:=by omega
            simpa [e1] using this)
        have lA1 : (A.take u).length = u:=by rw [List.length_take]; omega
        have lA2 : (A.drop u).length = A.length - u:=List.length_drop
        have lB1 : (B.take e).length = e:=by rw [List.length_take]; omega
        have lB2 : (B.drop e).length = B.length - e:=List.length_drop
        -- behind the rotation
        have rest : ∀ h3,Km (Sl.on r) h h3 → Gw lo h3 r 1 ((pre ++ A.take u ++ B.take e ++ (A.drop u ++ B.drop e ++ post)).map (vv sl)) → (slices_symMergeCmpFunc_slapi_Value_j2 r (pre.length : Int) ((pre.length + A.length + B.length : Nat) : Int) cmp ((pre.length + d : Nat) : Int) ((pre.length + u : Nat) : Int) ((pre.length + A.length + e : Nat) : Int)).wp h3 Q:=by
          intro h3 K3 G3
          unfold slices_symMergeCmpFunc_slapi_Value_j2
          refine andD_b ?_
          refine half_spec C ih (by rw [lA1,lB1]; omega) (by rw [decide_eq_true_iff,lA1,lB1]; omega) (C.keep _ _ hT K3) (sA.take u) (sB.take e)
            (fun p hp=>hm p (by rcases List.mem_append.1 hp with hp | hp; exact List.mem_append_left _ (List.mem_of_mem_take hp); exact List.mem_append_right _ (List.mem_of_mem_take hp))) G3 (by simp only [List.length_append,lA1,lA2,lB1,lB2]; omega) rfl (by rw [lA1]) (by rw [lA1,lB1]; omega) (fun h4 D1 K4 G4 p1 s1=>?_)
          have hD1:=p1.length_eq
          rw [List.length_append,lA1,lB1] at hD1
          unfold slices_symMergeCmpFunc_slapi_Value_j3
          refine andD_b ?_
          refine half_spec C ih (A:=A.drop u) (B:=B.drop e) (pre:=pre ++ D1) (post:=post) (by rw [lA2,lB2]; omega) (by rw [decide_eq_true_iff,lA2,lB2]; omega) (C.keep _ _ hT (K3.trans K4)) (sA.drop u) (sB.drop e)
            (fun p hp=>hm p (by rcases List.mem_append.1 hp with hp | hp; exact List.mem_append_left _ (List.mem_of_mem_drop hp); exact List.mem_append_right _ (List.mem_of_mem_drop hp))) (by simpa using G4) (by simp only [List.length_append,lA2,lB2]; omega) (by rw [List.length_append]; omega) (by rw [List.length_append,lA2]; omega) (by rw [List.length_append,lA2,lB2]; omega) (fun h5 D2 K5 G5 p2 s2=>pure_w ?_)
          refine H h5 (D1 ++ D2) ((K3.trans K4).trans K5) (by simpa using G5) ?_ ?_
          · exact (List.Perm.append p1 p2).trans (halves A B u e)
          · exact Srt.app s1 s2 (fun p hp q hq=>hcross p (p1.mem_iff.1 hp) q (p2.mem_iff.1 hq))
        refine andD_b ?_
        refine ite_w (fun hr=>?_) (fun hr=>?_)
        · have hr:=of_decide_eq_true hr
          have hu1 : 0 < (A.drop u).length:=by rw [lA2]; omega
          have he1 : 0 < (B.take e).length:=by rw [lB1]; omega
          have G1' : Gw lo hh r 1 ((pre ++ A.take u ++ A.drop u ++ B.take e ++ (B.drop e ++ post)).map (vv sl)):=by
            rw [show pre ++ A.take u ++ A.drop u ++ B.take e ++ (B.drop e ++ post) = pre ++ (A.take u ++ A.drop u) ++ (B.take e ++ B.drop e) ++ post by simp only [List.append_assoc],List.take_append_drop,List.take_append_drop]; exact G1
          refine bind_w (rotate_spec G1' hu1 he1 (by simp only [List.length_append,lA1,lA2,lB1,lB2]; omega) (by rw [List.length_append,lA1]) (by rw [List.length_append,lA1,lA2]; omega) (by rw [List.length_append,lA1,lA2,lB1]; omega) (fun h3 K3 G3=>?_))
          refine rest h3 (K.trans K3) ?_
          simpa only [List.append_assoc] using G3
        · have hr:=of_decide_eq_false hr
          refine rest hh K ?_
          rcases Nat.lt_or_ge u A.length with h3 | h3
          · have h4 : e = 0:=by omega
            rw [h4]
            have : pre ++ A.take u ++ B.take 0 ++ (A.drop u ++ B.drop 0 ++ post) = pre ++ (A.take u ++ A.drop u) ++ B ++ post:=by simp only [List.take_zero,List.drop_zero,List.append_assoc,List.nil_append]
            rw [this,List.take_append_drop]; exact G1
          · rw [List.take_of_length_le h3,List.drop_of_length_le h3]
            have : pre ++ A ++ B.take e ++ ([] ++ B.drop e ++ post) = pre ++ A ++ (B.take e ++ B.drop e) ++ post:=by simp only [List.append_assoc,List.nil_append]
            rw [this,List.take_append_drop]; exact G1
    have hn1 : IntKind.wrap .i64 (((pre.length + d : Nat) : Int) + ((pre.length + A.length : Nat) : Int)) = ((pre.length + d + (pre.length + A.length) : Nat) : Int):=by rw [w64 (by omega) (by omega)]; omega
    rw [hn1]
    refine ite_w (fun h3=>?_) (fun h3=>?_)
    · have h3:=of_decide_eq_true h3
      rw [w64 (n:=((pre.length + d + (pre.length + A.length) : Nat) : Int) - ((pre.length + A.length + B.length : Nat) : Int)) (by omega) (by omega)]
      have e1 : ((pre.length + d + (pre.length + A.length) : Nat) : Int) - ((pre.length + A.length + B.length : Nat) : Int) = ((pre.length + (d - B.length) : Nat) : Int):=by omega
      have e2 : ((pre.length + min d A.length : Nat) : Int) = ((pre.length + d : Nat) : Int):=by omega
      rw [e2] at main
      rw [e1]; exact main
    · have h3:=of_decide_eq_false h3
      have e1 : ((pre.length + (d - B.length) : Nat) : Int) = (pre.length : Int):=by omega
      have e2 : ((pre.length + min d A.length : Nat) : Int) = ((pre.length + A.length : Nat) : Int):=by omega
      rw [e1,e2] at main
      exact main
end
end Gx
