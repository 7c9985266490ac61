/- Own proofs: what those Lean programs compute. No condition. -/
import Derived.Test.YthelieedlghccaaGreatDoorP0
import Derived.Test.YthelieedlghccaaGreatDoorP1
import Derived.Test.YthelieedlghccaaGreatDoorP2
import Derived.Test.YthelieedlghccaaGreatDoorP3
import Derived.Test.YthelieedlghccaaGreatDoorP4
import Derived.Test.YthelieedlghccaaGreatDoorP5
import Derived.Test.YthelieedlghccaaGreatDoorTie
import Derived.KernelRfl
import Derived.ChangeArms
import Derived.DataReads
set_option linter.unusedVariables false
set_option linter.unusedSimpArgs false
namespace Gx
open Go
set_option linter.unusedVariables false
set_option linter.unusedSimpArgs false
abbrev bs (l:List UInt8):ByteArray:=⟨l.toArray⟩
inductive Vl where
 | mk (k n:Int) (s:List UInt8) (l:List Vl)
def Vl.k:Vl→Int | .mk k _ _ _=>k
def Vl.n:Vl→Int | .mk _ n _ _=>n
def Vl.s:Vl→List UInt8 | .mk _ _ s _=>s
def Vl.l:Vl→List Vl | .mk _ _ _ l=>l
instance:Inhabited Vl:=⟨.mk 0 0 [] []⟩
def I64 (n:Int):Prop:=-9223372036854775808≤n∧n≤9223372036854775807
def Jv (k n:Int) (s:List UInt8) (x:Sl):Array Value:=#[.int .i64 k,.int .i64 n,.string (bs s),x.v]
mutual
def VRep (h:Heap):Vl→Array Value→Prop
 | .mk k n s l,cs=>∃ x:Sl,cs=Jv k n s x∧I64 k∧I64 n∧s.length≤9223372036854775807∧(x.len=l.length∧x.len≤x.cap∧x.len≤9223372036854775807∧VsAt h l x.base 0)
def VsAt (h:Heap):List Vl→Option Addr→Nat→Prop
 | [],_,_=>True
 | v::l,b,i=>(∃ a cs,b=some a∧cs.size=4∧(∀ j,j < 4→KN h (a.add (i * 4+j))=cs[j]?)∧VRep h v cs)∧VsAt h l b (i+1)
end
structure VsRep (h:Heap) (x:Sl) (l:List Vl):Prop where
 len:x.len=l.length
 cap:x.len≤x.cap
 big:x.len≤9223372036854775807
 at_:VsAt h l x.base 0
theorem VRep.eq {h:Heap} {k n:Int} {s:List UInt8} {l:List Vl} {cs:Array Value}:VRep h (.mk k n s l) cs↔∃ x:Sl,cs=Jv k n s x∧I64 k∧I64 n∧s.length≤9223372036854775807∧VsRep h x l:=by
 rw [VRep]
 constructor
 ·rintro ⟨x,h1,h2,h3,h4,h5,h6,h7,h8⟩; exact ⟨x,h1,h2,h3,h4,h5,h6,h7,h8⟩
 ·rintro ⟨x,h1,h2,h3,h4,h5,h6,h7,h8⟩; exact ⟨x,h1,h2,h3,h4,h5,h6,h7,h8⟩
theorem VRep.size {h:Heap}:∀ {v:Vl} {cs:Array Value},VRep h v cs→cs.size=4
 | .mk _ _ _ _,cs,H=>by obtain ⟨x,rfl,_⟩:=VRep.eq.1 H; rfl
theorem VRep.one {h:Heap}:∀ {v:Vl} {cs:Array Value},VRep h v cs→∀ u ∈ cs.toList,Gx.one u=true
 | .mk _ _ _ _,cs,H=>by
  obtain ⟨x,rfl,_⟩:=VRep.eq.1 H
  intro u hu
  simp only [Jv,List.mem_cons,List.not_mem_nil,or_false] at hu
  rcases hu with rfl | rfl | rfl | rfl <;> first | rfl | exact KAg _
theorem VsAt.get {h:Heap}:∀ {l:List Vl} {b:Option Addr} {i:Nat},VsAt h l b i→∀ {j:Nat} (hj:j < l.length),∃ a cs,b=some a∧cs.size=4∧(∀ m,m < 4→KN h (a.add ((i+j) * 4+m))=cs[m]?)∧VRep h l[j] cs
 | [],_,_,_,j,hj=>by simp at hj
 | v::l,b,i,H,0,hj=>by rw [VsAt] at H; exact H.1
 | v::l,b,i,H,j+1,hj=>by
  rw [VsAt] at H
  have:=VsAt.get H.2 (j:=j) (by simpa using hj)
  rw [show i+(j+1)=i+1+j by omega]
  exact this
theorem VsAt.of {h:Heap}:∀ {l:List Vl} {b:Option Addr} {i:Nat},(∀ j (hj:j < l.length),∃ a cs,b=some a∧cs.size=4∧(∀ m,m < 4→KN h (a.add ((i+j) * 4+m))=cs[m]?)∧VRep h l[j] cs)→VsAt h l b i
 | [],_,_,_=>by rw [VsAt]; trivial
 | v::l,b,i,H=>by
  rw [VsAt]
  refine ⟨H 0 (by simp),VsAt.of (fun j hj=>?_)⟩
  have:=H (j+1) (by simpa using hj)
  rw [show i+1+j=i+(j+1) by omega]
  exact this
theorem VsRep.get {h:Heap} {x:Sl} {l:List Vl} (H:VsRep h x l) {j:Nat} (hj:j < l.length):∃ a cs,x.base=some a∧cs.size=4∧(∀ m,m < 4→KN h (a.add (j * 4+m))=cs[m]?)∧VRep h l[j] cs:=by
 have:=H.at_.get hj
 rw [Nat.zero_add] at this
 exact this
theorem Ext.row {h h':Heap} (e:Ext h h') {a:Addr} {cs:Array Value} {i n:Nat} (hs:cs.size=n) (H:∀ m,m < n→KN h (a.add (i+m))=cs[m]?):∀ m,m < n→KN h' (a.add (i+m))=cs[m]?:=fun m hm=>by
 have h1:cs[m]?=some (cs[m]'(by omega)):=Array.getElem?_eq_getElem (by omega)
 rw [h1]
 exact e.cell (by rw [H m hm,h1])
theorem KK4 {h h':Heap} (e:Ext h h'):∀ (m:Nat) (v:Vl) (cs:Array Value),sizeOf v < m→VRep h v cs→VRep h' v cs:=by
 intro m
 induction m with
 | zero=>intro v cs hm; omega
 | succ m ih =>
  rintro ⟨k,n,s,l⟩ cs hm H
  obtain ⟨x,h1,h2,h3,h4,h5⟩:=VRep.eq.1 H
  refine VRep.eq.2 ⟨x,h1,h2,h3,h4,h5.len,h5.cap,h5.big,VsAt.of (fun j hj=>?_)⟩
  obtain ⟨a,cs',ha,hs,hc,hv⟩:=h5.at_.get hj
  refine ⟨a,cs',ha,hs,e.row hs hc,ih _ _ ?_ hv⟩
  have:=List.sizeOf_lt_of_mem (List.getElem_mem hj)
  simp only [Vl.mk.sizeOf_spec] at hm
  omega
theorem VRep.ext {h h':Heap} {v:Vl} {cs:Array Value} (H:VRep h v cs) (e:Ext h h'):VRep h' v cs:=KK4 e _ v cs (Nat.lt_succ_self _) H
theorem VsRep.ext {h h':Heap} {x:Sl} {l:List Vl} (H:VsRep h x l) (e:Ext h h'):VsRep h' x l :=
 ⟨H.len,H.cap,H.big,VsAt.of (fun j hj=>by
  obtain ⟨a,cs',ha,hs,hc,hv⟩:=H.at_.get hj
  exact ⟨a,cs',ha,hs,e.row hs hc,hv.ext e⟩)⟩
theorem VsRep.nil (h:Heap):VsRep h Sl.nil []:=⟨rfl,Nat.le_refl _,by decide,by rw [VsAt]; trivial⟩
def cmpI (a b:Int):Int:=if a < b then -1 else if b < a then 1 else 0
def cOr (a b:Int):Int:=if a=0 then b else a
mutual
def cmpV:Vl→Vl→Int
 | .mk k n s l,.mk k' n' s' l'=>cOr (cmpI k k') (cOr (cmpI n n') (cOr (Lib.compareBytes s s') (Xi l l')))
def Xi:List Vl→List Vl→Int
 | [],[]=>0
 | [],_::_=>-1
 | _::_,[]=>1
 | a::l,b::l'=>cOr (cmpV a b) (Xi l l')
end
theorem ZW {β:Type} {t:TypeId} {h:Heap} {Q:β→Heap→Prop} {cs:Array Value} {f:Addr→M β} (H:∀ h',Ext h h'→h'.size=h.size+1→h'[h.size]?=some (.cells cs t (0,0))→(f ⟨h.size,0,none⟩).wp h' Q):(mkB t cs>>=f).wp h Q :=
 KMo (H _ (Ext.push _ _) (by simp) Ko)
theorem Kt {h:Heap} {b i:Nat} {cs:Array Value} {t:TypeId} {z:Nat × Nat} (hb:h[b]?=some (.cells cs t z)):KN h ((⟨b,0,none⟩:Addr).add i)=cs[i]?:=by
 rw [Kg,Nat.zero_add,KS hb]
theorem KEY {a b:Int} {h:Heap} {Q:Int→Heap→Prop} (H:Q (cmpI a b) h):(VI a b).wp h Q:=by
 unfold VI WN
 refine Jy (Jy (iteF (by simp) (iteF (by simp) ?_)))
 unfold cmpI at H
 refine Kc (fun hc=>?_) (fun hc=>?_)
 ·rw [if_pos (of_decide_eq_true hc)] at H; exact H
 ·rw [if_neg (of_decide_eq_false hc)] at H
  refine Kc (fun hc=>?_) (fun hc=>?_)
  ·rw [if_pos (of_decide_eq_true hc)] at H; exact H
  ·rw [if_neg (of_decide_eq_false hc)] at H; exact H
theorem KCR {a b:Int} {h:Heap} {Q:Int→Heap→Prop} (H:Q (cmpI a b) h):(UP a b).wp h Q:=by
 unfold UP VJ
 refine Jy (Jy (iteF (by simp) (iteF (by simp) ?_)))
 unfold cmpI at H
 refine Kc (fun hc=>?_) (fun hc=>?_)
 ·rw [if_pos (of_decide_eq_true hc)] at H; exact H
 ·rw [if_neg (of_decide_eq_false hc)] at H
  refine Kc (fun hc=>?_) (fun hc=>?_)
  ·rw [if_pos (of_decide_eq_true hc)] at H; exact H
  ·rw [if_neg (of_decide_eq_false hc)] at H; exact H
def cOrs:List Int→Int
 | []=>0
 | a::l=>cOr a (cOrs l)
theorem KK5 {t:TypeId} {b n:Nat} {zs:List Int} {h:Heap} {Q:Int→Heap→Prop} (hb:h[b]?=some (.cells (zs.map (Value.int .i64)).toArray t (0,0))) (hn:n=zs.length) (hz:zs.length≤1000) (H:Q (cOrs zs) h):(GP ⟨some ⟨b,0,none⟩,n,n⟩).wp h Q:=by
 subst hn
 unfold GP
 refine M.loop_inv (fun (t:Int) h'=>h'=h∧∃ i:Nat,t=(i:Int)∧i≤zs.length∧cOrs (zs.drop i)=cOrs zs) (fun t _=>((zs.length:Int) - t).toNat) ?_ ⟨rfl,0,rfl,Nat.zero_le _,by simp⟩
 rintro t h' ⟨rfl,i,rfl,hi,hd⟩ self hself
 unfold Gu
 refine Kc (fun hc=>?_) (fun hc=>?_)
 ·have hlt:i < zs.length:=by have:=of_decide_eq_true hc; dsimp only at this; omega
  refine Xl (by omega) (by dsimp only; omega) rfl ?_
  refine Jc (n:=zs[i]) (by rw [show (i:Int).toNat * 1=i by omega,Kt hb]; simp [hlt]) ?_
  rw [List.drop_eq_getElem_cons hlt,cOrs] at hd
  refine Kc (fun hne=>?_) (fun heq=>?_)
  ·have hne:zs[i]≠0:=by simpa using hne
   rw [cOr,if_neg hne] at hd
   rw [← hd] at H
   exact KG H
  ·have heq:zs[i]=0:=by simpa using heq
   rw [cOr,if_pos heq] at hd
   rw [w64 (by omega) (by omega)]
   exact hself _ _ ⟨rfl,i+1,by simp,by omega,hd⟩ (by omega)
 ·have hge:i=zs.length:=by have:=of_decide_eq_false hc; dsimp only at this; omega
  subst hge
  rw [List.drop_length] at hd
  have hd:(0:Int)=cOrs zs:=hd
  rw [← hd] at H
  exact KG H
theorem KBd {l l':List Vl} {h:Heap} {Q:Int→Heap→Prop} {x y:Sl} {g:Value} (hx:VsRep h x l) (hy:VsRep h y l')
  (hg:∀ j (hj:j < l.length) (hj':j < l'.length) h1 c c' (Q1:Int→Heap→Prop),Ext h h1→VRep h1 l[j] c→VRep h1 l'[j] c'→(∀ h2,Ext h1 h2→Q1 (cmpV l[j] l'[j]) h2)→(VD Go.Proofs.Tryz.prog (fun r:Int=>.int .i64 r) g [.agg c,.agg c']).wp h1 Q1)
  (H:∀ h',Ext h h'→Q (Xi l l') h'):(KQ x y g).wp h Q:=by
 unfold KQ
 have hxl:=hx.len
 have hyl:=hy.len
 have hxb:=hx.big
 have hyb:=hy.big
 have hxc:=hx.cap
 have hyc:=hy.cap
 refine M.loop_inv (fun (t:Int) h'=>Ext h h'∧∃ i:Nat,t=(i:Int)∧i≤l.length∧i≤l'.length∧Xi (l.drop i) (l'.drop i)=Xi l l') (fun t _=>((l.length:Int) - t).toNat) ?_ ⟨Ext.refl h,0,rfl,Nat.zero_le _,Nat.zero_le _,by simp⟩
 rintro t h' ⟨E,i,rfl,hi,hi',hd⟩ self hself
 unfold Ka
 rw [hxl,hyl]
 refine Kc (fun hc=>?_) (fun hc=>?_)
 ·have hlt:i < l.length:=by have:=of_decide_eq_true hc; omega
  obtain ⟨a,c,ha,hs,hcs,hv⟩:=(hx.ext E).get hlt
  refine Xl (by omega) (by rw [hxl]; omega) ha (UW hs (fun j hj=>by rw [Addr.add_add,show (i:Int).toNat * 4=i * 4 by omega]; exact hcs j hj) (ZW (fun h1 e1 s1 g1=>?_)))
  refine JA hs (stR (vs:=c) g1 (by rw [hs]; decide) hv.one (fun h2 u2 g2=>?_))
  have E2:Ext h' h2:=e1.upd u2 (Nat.le_refl _)
  rw [ZD (by rw [Array.length_toList,hs]; rfl),Array.toArray_toList] at g2
  refine Kc (fun hge=>?_) (fun hlt'=>?_)
  ·have hge:i=l'.length:=by have:=of_decide_eq_true hge; omega
   subst hge
   rw [List.drop_length,List.drop_eq_getElem_cons hlt,Xi] at hd
   have:=H _ (E.trans E2)
   rw [← hd] at this
   exact KG this
  ·have hlt':i < l'.length:=by have:=of_decide_eq_false hlt'; omega
   obtain ⟨a',c',ha',hs',hcs',hv'⟩:=(hy.ext (E.trans E2)).get hlt'
   refine Xl (by omega) (by rw [hyl]; omega) ha' (UW hs' (fun j hj=>by rw [Addr.add_add,show (i:Int).toNat * 4=i * 4 by omega]; exact hcs' j hj) (ZW (fun h3 e3 s3 g3=>?_)))
   refine JA hs' (stR (vs:=c') g3 (by rw [hs']; decide) hv'.one (fun h4 u4 g4=>?_))
   have E4:Ext h2 h4:=e3.upd u4 (Nat.le_refl _)
   rw [ZD (by rw [Array.length_toList,hs']; rfl),Array.toArray_toList] at g4
   have g2':=E4.blk g2
   refine UW hs (fun j hj=>by rw [Kt g2']) (UW hs' (fun j hj=>by rw [Kt g4]) ?_)
   have E':=(E.trans E2).trans E4
   refine KJ (hg i hlt hlt' h4 c c' _ E' ((hv.ext E2).ext E4) (hv'.ext E4) (fun h5 e5=>?_))
   rw [List.drop_eq_getElem_cons hlt,List.drop_eq_getElem_cons hlt',Xi] at hd
   refine Kc (fun hne=>?_) (fun heq=>?_)
   ·have hne:cmpV l[i] l'[i]≠0:=by simpa using hne
    rw [cOr,if_neg hne] at hd
    rw [hd]
    exact KG (H _ (E'.trans e5))
   ·have heq:cmpV l[i] l'[i]=0:=by simpa using heq
    rw [cOr,if_pos heq] at hd
    rw [w64 (by omega) (by omega)]
    exact hself _ _ ⟨E'.trans e5,i+1,by simp,by omega,by omega,hd⟩ (by omega)
 ·have hge:i=l.length:=by have:=of_decide_eq_false hc; omega
  subst hge
  rw [List.drop_length] at hd
  refine Kc (fun hlt=>?_) (fun hge=>?_)
  ·have hlt:l.length < l'.length:=by have:=of_decide_eq_true hlt; omega
   rw [List.drop_eq_getElem_cons hlt,Xi] at hd
   have:=H _ E
   rw [← hd] at this
   exact KG this
  ·have hge:l'.length=l.length:=by have:=of_decide_eq_false hge; omega
   rw [← hge,List.drop_length,Xi] at hd
   have:=H _ E
   rw [← hd] at this
   exact KG this
theorem KFT:∀ (m:Nat) (a b:Vl) {h:Heap} {Q:Int→Heap→Prop} {x y:Array Value},sizeOf a < m→VRep h a x→VRep h b y→(∀ h',Ext h h'→Q (cmpV a b) h')→(UC x y).wp h Q:=by
 intro m
 induction m with
 | zero=>intro a b h Q x y hm; omega
 | succ m ih =>
  rintro ⟨k,n,s,l⟩ ⟨k',n',s',l'⟩ h Q x y hm hx hy H
  obtain ⟨xs,rfl,k1,n1,s1,r1⟩:=VRep.eq.1 hx
  obtain ⟨ys,rfl,k2,n2,s2,r2⟩:=VRep.eq.1 hy
  unfold UC
  refine ZW (fun h1 e1 z1 g1=>ZW (fun h2 e2 z2 g2=>?_))
  have g1':=e2.blk g1
  have E:=e1.trans e2
  have c0:KN h2 ((⟨h.size,0,none⟩:Addr).add 0)=some (.int .i64 k):=by rw [Kt g1']; rfl
  have c1:KN h2 ((⟨h.size,0,none⟩:Addr).add 1)=some (.int .i64 n):=by rw [Kt g1']; rfl
  have c2:KN h2 ((⟨h.size,0,none⟩:Addr).add 2)=some (.string (bs s)):=by rw [Kt g1']; rfl
  have c3:KN h2 ((⟨h.size,0,none⟩:Addr).add 3)=some xs.v:=by rw [Kt g1']; rfl
  have d0:KN h2 ((⟨h1.size,0,none⟩:Addr).add 0)=some (.int .i64 k'):=by rw [Kt g2]; rfl
  have d1:KN h2 ((⟨h1.size,0,none⟩:Addr).add 1)=some (.int .i64 n'):=by rw [Kt g2]; rfl
  have d2:KN h2 ((⟨h1.size,0,none⟩:Addr).add 2)=some (.string (bs s')):=by rw [Kt g2]; rfl
  have d3:KN h2 ((⟨h1.size,0,none⟩:Addr).add 3)=some ys.v:=by rw [Kt g2]; rfl
  refine Jc (n:=k) c0 (Jc (n:=k') d0 (Jc (n:=n) c1 (Jc (n:=n') d1 (Gg (n:=bs s) c2 (Gg (n:=bs s') d2 (Jp (n:=xs) c3 (Jp (n:=ys) d3 ?_)))))))
  refine KJ (KEY (KCy ⟨c0,d0,c1,d1,c2,d2,c3,d3⟩ ?_))
  refine KJ (KCR (KCy ⟨c0,d0,c1,d1,c2,d2,c3,d3⟩ ?_))
  unfold WO Ze
  refine KJ (Jy (KG (KCy ⟨c0,d0,c1,d1,c2,d2,c3,d3⟩ ?_)))
  simp only [Vl.mk.sizeOf_spec] at hm
  refine KJ (KBd (r1.ext E) (r2.ext E) (fun j hj hj' h3 c c' Q1 e3 hv hv' hq=>?_) (fun h3 e3=>?_))
  ·refine XM NA (XY _ _) (ih _ _ ?_ hv hv' hq)
   have:=List.sizeOf_lt_of_mem (List.getElem_mem hj)
   omega
  ·refine KAf ?_
   have e4:=Ext.push h3 (.cells #[Value.int .i64 (cmpI k k'),.int .i64 (cmpI n n'),.int .i64 (Lib.compareBytes (bs s).data.toList (bs s').data.toList),.int .i64 (Xi l l')] WB)
   refine KJ (KK5 (zs:=[cmpI k k',cmpI n n',Lib.compareBytes s s',Xi l l']) (t:=WB) ?_ rfl (by simp) (KG ?_))
   ·exact Ko
   ·have:=H _ ((E.trans e3).trans e4)
    rw [cmpV] at this
    have hz:∀ a:Int,cOr a 0=a:=fun a=>by unfold cOr; split <;> simp_all
    simpa [cOrs,hz] using this
theorem XH {a b:Vl} {h:Heap} {Q:Int→Heap→Prop} {x y:Array Value} (hx:VRep h a x) (hy:VRep h b y) (H:∀ h',Ext h h'→Q (cmpV a b) h'):(UC x y).wp h Q:=KFT _ a b (Nat.lt_succ_self _) hx hy H
end Gx
namespace Gx
open Go
set_option linter.unusedVariables false
set_option linter.unusedSimpArgs false
theorem JD (l:List UInt8):(bs l).size=l.length:=by simp [bs,ByteArray.size]
theorem bs_get? (l:List UInt8) (i:Nat):(bs l)[i]?=l[i]?:=by
 rcases Nat.lt_or_ge i l.length with h | h
 ·rw [List.getElem?_eq_getElem h]
  have:i < (bs l).size:=by rw [JD]; exact h
  rw [getElem?_pos (bs l) i this]
  rfl
 ·rw [List.getElem?_eq_none h]
  have:¬ i < (bs l).size:=by rw [JD]; omega
  rw [getElem?_neg (bs l) i this]
theorem KFU (l:List UInt8):(bs l).toList=l:=by rw [ByteArray.toList_eq]
theorem KBR (a b:List UInt8):sEq (bs a) (bs b)=decide (a=b):=by
 unfold sEq
 rw [KFU,KFU,Bool.eq_iff_iff]
 simp
theorem KK6:ByteArray.empty=bs []:=rfl
theorem KDM {β:Type} {h:Heap} {Q:β→Heap→Prop} {l:List UInt8} {i:Nat} {t:Int} {f:Int→M β} (ht:t=(i:Int)) (hi:i < l.length) (H:(f (l[i].toNat:Int)).wp h Q):(ixS (bs l) t>>=f).wp h Q :=
 ⟨_,⟨by omega,l[i],by subst ht; rw [Int.toNat_natCast,bs_get?,List.getElem?_eq_getElem hi],rfl⟩,H⟩
theorem KBe {β:Type} {h:Heap} {Q:β→Heap→Prop} {x:Sl} {l:List Vl} {i:Nat} {t:Int} {f:Addr→M β} (H:VsRep h x l) (hi:i < l.length) (ht:t=(i:Int))
  (hq:∀ a c,c.size=4→(∀ m,m < 4→KN h (a.add m)=c[m]?)→VRep h l[i] c→(f a).wp h Q):(ixL x t 4>>=f).wp h Q:=by
 obtain ⟨a,c,ha,hs,hcs,hv⟩:=H.get hi
 have:=H.len
 subst ht
 refine Xl (by omega) (by omega) ha (hq _ c hs (fun m hm=>?_) hv)
 rw [Addr.add_add,show (i:Int).toNat * 4=i * 4 by omega]
 exact hcs m hm
theorem Nq {a b:Int} {h:Heap} {Q:Int→Heap→Prop} (H:Q (cmpI a b) h):(ZY a b).wp h Q:=by
 unfold ZY
 unfold cmpI at H
 refine Kc (fun hc=>?_) (fun hc=>?_)
 ·rw [if_pos (of_decide_eq_true hc)] at H; exact H
 ·rw [if_neg (of_decide_eq_false hc)] at H
  refine Kc (fun hc=>?_) (fun hc=>?_)
  ·rw [if_pos (of_decide_eq_true hc)] at H; exact H
  ·rw [if_neg (of_decide_eq_false hc)] at H; exact H
theorem u8_lt_int {a b:UInt8}:(a < b)↔((a.toNat:Int) < (b.toNat:Int)):=by
 rw [UInt8.lt_iff_toNat_lt]; omega
theorem GW (a b:UInt8) (s t:List UInt8):Lib.compareBytes (a::s) (b::t)=if a=b then Lib.compareBytes s t else cmpI (a.toNat:Int) (b.toNat:Int):=by
 rw [Lib.compareBytes]
 unfold cmpI
 have h1:=@u8_lt_int a b
 have h2:=@u8_lt_int b a
 by_cases he:a=b
 ·subst he
  rw [if_pos rfl,if_neg (by rw [h1]; omega),if_neg (by rw [h1]; omega)]
 ·have hne:a.toNat≠b.toNat:=fun h=>he (UInt8.toNat_inj.1 h)
  rw [if_neg he]
  by_cases hlt:a < b
  ·rw [if_pos hlt,if_pos (h1.1 hlt)]
  ·rw [if_neg hlt,if_neg (fun h=>hlt (h1.2 h))]
   have:b < a:=by rw [h2]; rw [h1] at hlt; omega
   rw [if_pos this,if_pos (h2.1 this)]
theorem KH6 {s t:List UInt8} {h:Heap} {Q:Int→Heap→Prop} (hs:s.length≤9223372036854775807) (ht:t.length≤9223372036854775807) (H:Q (Lib.compareBytes s t) h):(Uh (bs s) (bs t)).wp h Q:=by
 unfold Uh
 refine M.loop_inv (fun (x:Int) h'=>h'=h∧∃ i:Nat,x=(i:Int)∧i≤s.length∧i≤t.length∧Lib.compareBytes (s.drop i) (t.drop i)=Lib.compareBytes s t) (fun x _=>((s.length:Int) - x).toNat) ?_ ⟨rfl,0,rfl,Nat.zero_le _,Nat.zero_le _,by simp⟩
 rintro x h' ⟨rfl,i,rfl,hi,hi',hd⟩ self hself
 unfold Vo
 rw [JD,JD]
 have fin:¬ (i < s.length∧i < t.length)→(ZY (s.length:Int) (t.length:Int)).wp h' (fun r h1=>(M.pure r:M Int).wp h1 Q):=fun hno=>by
  refine Nq (KG ?_)
  have:cmpI (s.length:Int) (t.length:Int)=Lib.compareBytes s t:=by
   rw [← hd]
   unfold cmpI
   rcases Nat.lt_or_ge i s.length with h1 | h1
   ·have h2:i=t.length:=by omega
    subst h2
    rw [List.drop_eq_getElem_cons h1,List.drop_length,Lib.compareBytes,if_neg (by omega),if_pos (by omega)]
   ·have h2:i=s.length:=by omega
    subst h2
    rw [List.drop_length]
    rcases Nat.lt_or_ge s.length t.length with h3 | h3
    ·rw [List.drop_eq_getElem_cons h3,Lib.compareBytes,if_pos (by omega)]
    ·have:t.length=s.length:=by omega
     rw [← this,List.drop_length,Lib.compareBytes,if_neg (by omega),if_neg (by omega)]
  rw [this]
  exact H
 refine KJ (Kc (fun h1=>?_) (fun h1=>?_))
 ·have h1:i < s.length:=by have:=of_decide_eq_true h1; omega
  refine KG (Kc (fun h2=>?_) (fun h2=>?_))
  ·have h2:i < t.length:=by have:=of_decide_eq_true h2; omega
   rw [List.drop_eq_getElem_cons h1,List.drop_eq_getElem_cons h2,GW] at hd
   refine KDM rfl h1 (KDM rfl h2 (Kc (fun hne=>?_) (fun heq=>?_)))
   ·have hne:s[i]≠t[i]:=fun h=>by rw [h] at hne; simp at hne
    rw [if_neg hne] at hd
    have b1:=s[i].toNat_lt
    have b2:=t[i].toNat_lt
    refine KDM rfl h1 (KDM rfl h2 ?_)
    rw [w64 (by omega) (by omega),w64 (by omega) (by omega)]
    refine KJ (Nq (KG ?_))
    rw [hd]; exact H
   ·have heq':((s[i].toNat:Int))=t[i].toNat:=by simpa using heq
    have heq:s[i]=t[i]:=UInt8.toNat_inj.1 (by omega)
    rw [if_pos heq] at hd
    rw [w64 (by omega) (by omega)]
    exact hself _ _ ⟨rfl,i+1,by simp,by omega,by omega,hd⟩ (by omega)
  ·have h2:¬ i < t.length:=by have:=of_decide_eq_false h2; omega
   exact KJ (fin (fun h=>h2 h.2))
 ·have h1:¬ i < s.length:=by have:=of_decide_eq_false h1; omega
  exact KG (iteF rfl (KJ (fin (fun h=>h1 h.1))))
theorem KFV:∀ (m:Nat) (a b:Vl) {h:Heap} {Q:Int→Heap→Prop} {x y:Array Value},sizeOf a < m→VRep h a x→VRep h b y→(∀ h',Ext h h'→Q (cmpV a b) h')→(JI x y).wp h Q:=by
 intro m
 induction m with
 | zero=>intro a b h Q x y hm; omega
 | succ m ih =>
  rintro ⟨k,n,s,l⟩ ⟨k',n',s',l'⟩ h Q x y hm hx hy H
  obtain ⟨xs,rfl,k1,n1,s1,r1⟩:=VRep.eq.1 hx
  obtain ⟨ys,rfl,k2,n2,s2,r2⟩:=VRep.eq.1 hy
  simp only [Vl.mk.sizeOf_spec] at hm
  have hxl:=r1.len
  have hyl:=r2.len
  have hxb:=r1.big
  have hyb:=r2.big
  have hxc:=r1.cap
  have hyc:=r2.cap
  unfold JI
  refine ZW (fun h1 e1 z1 g1=>ZW (fun h2 e2 z2 g2=>?_))
  have g1':=e2.blk g1
  have E:=e1.trans e2
  rw [cmpV] at H
  refine Jc (n:=k) (by rw [Kt g1']; rfl) (Jc (n:=k') (by rw [Kt g2]; rfl) (KJ (Nq ?_)))
  refine Kc (fun hne=>?_) (fun heq=>?_)
  ·have hne:cmpI k k'≠0:=by simpa using hne
   have:=H _ E
   rw [cOr,if_neg hne] at this
   exact KG this
  have heq:cmpI k k'=0:=by simpa using heq
  rw [cOr,if_pos heq] at H
  refine Jc (n:=n) (by rw [Kt g1']; rfl) (Jc (n:=n') (by rw [Kt g2]; rfl) (KJ (Nq ?_)))
  refine Kc (fun hne=>?_) (fun heq=>?_)
  ·have hne:cmpI n n'≠0:=by simpa using hne
   have:=H _ E
   rw [cOr,if_neg hne] at this
   exact KG this
  have heq:cmpI n n'=0:=by simpa using heq
  rw [cOr,if_pos heq] at H
  refine Gg (n:=bs s) (by rw [Kt g1']; rfl) (Gg (n:=bs s') (by rw [Kt g2]; rfl) (KJ (KH6 s1 s2 ?_)))
  refine Kc (fun hne=>?_) (fun heq=>?_)
  ·have hne:Lib.compareBytes s s'≠0:=by simpa using hne
   have:=H _ E
   rw [cOr,if_neg hne] at this
   exact KG this
  have heq:Lib.compareBytes s s'=0:=by simpa using heq
  rw [cOr,if_pos heq] at H
  refine M.loop_inv (fun (t:Int) h'=>Ext h2 h'∧∃ i:Nat,t=(i:Int)∧i≤l.length∧i≤l'.length∧Xi (l.drop i) (l'.drop i)=Xi l l') (fun t _=>((l.length:Int) - t).toNat) ?_ ⟨Ext.refl h2,0,rfl,Nat.zero_le _,Nat.zero_le _,by simp⟩
  rintro t h' ⟨E',i,rfl,hi,hi',hd⟩ self hself
  have f1:=E'.blk g1'
  have f2:=E'.blk g2
  have c3:KN h' ((⟨h.size,0,none⟩:Addr).add 3)=some xs.v:=by rw [Kt f1]; rfl
  have d3:KN h' ((⟨h1.size,0,none⟩:Addr).add 3)=some ys.v:=by rw [Kt f2]; rfl
  have EE:=E.trans E'
  have fin:¬ (i < l.length∧i < l'.length)→(ldL ((⟨h.size,0,none⟩:Addr).add 3)>>=fun Xx48=>ldL ((⟨h1.size,0,none⟩:Addr).add 3)>>=fun Xx49=>ZY (Xx48.len:Int) (Xx49.len:Int)>>=fun Xx50=>M.pure Xx50).wp h' Q:=fun hno=>by
   refine Jp (n:=xs) c3 (Jp (n:=ys) d3 (KJ (Nq (KG ?_))))
   have:cmpI (xs.len:Int) (ys.len:Int)=Xi l l':=by
    rw [← hd,hxl,hyl]
    unfold cmpI
    rcases Nat.lt_or_ge i l.length with h1 | h1
    ·have h2:i=l'.length:=by omega
     subst h2
     rw [List.drop_eq_getElem_cons h1,List.drop_length,Xi,if_neg (by omega),if_pos (by omega)]
    ·have h2:i=l.length:=by omega
     subst h2
     rw [List.drop_length]
     rcases Nat.lt_or_ge l.length l'.length with h3 | h3
     ·rw [List.drop_eq_getElem_cons h3,Xi,if_pos (by omega)]
     ·have:l'.length=l.length:=by omega
      rw [← this,List.drop_length,Xi,if_neg (by omega),if_neg (by omega)]
   rw [this]
   exact H _ EE
  unfold Uy
  refine Jp (n:=xs) c3 (KJ (Kc (fun h3=>?_) (fun h3=>?_)))
  ·have h3:i < l.length:=by have:=of_decide_eq_true h3; omega
   refine Jp (n:=ys) d3 (KG (Kc (fun h4=>?_) (fun h4=>?_)))
   ·have h4:i < l'.length:=by have:=of_decide_eq_true h4; omega
    rw [List.drop_eq_getElem_cons h3,List.drop_eq_getElem_cons h4,Xi] at hd
    refine Jp (n:=xs) c3 (KBe (r1.ext EE) h3 rfl (fun a c hs hcs hv=>UW hs hcs (Jp (n:=ys) d3 (KBe (r2.ext EE) h4 rfl (fun a' c' hs' hcs' hv'=>UW hs' hcs' ?_)))))
    refine KJ (NR (YR _ _) (ih _ _ ?_ hv hv' (fun h5 e5=>?_)))
    ·have:=List.sizeOf_lt_of_mem (List.getElem_mem h3)
     omega
    refine Kc (fun hne=>?_) (fun heq=>?_)
    ·have hne:cmpV l[i] l'[i]≠0:=by simpa using hne
     rw [cOr,if_neg hne] at hd
     rw [hd]
     exact KG (H _ (EE.trans e5))
    ·have heq:cmpV l[i] l'[i]=0:=by simpa using heq
     rw [cOr,if_pos heq] at hd
     rw [w64 (by omega) (by omega)]
     exact hself _ _ ⟨E'.trans e5,i+1,by simp,by omega,by omega,hd⟩ (by omega)
   ·have h4:¬ i < l'.length:=by have:=of_decide_eq_false h4; omega
    exact fin (fun h=>h4 h.2)
  ·have h3:¬ i < l.length:=by have:=of_decide_eq_false h3; omega
   exact KG (iteF rfl (fin (fun h=>h3 h.1)))
theorem KEZ {a b:Vl} {h:Heap} {Q:Int→Heap→Prop} {x y:Array Value} (hx:VRep h a x) (hy:VRep h b y) (H:∀ h',Ext h h'→Q (cmpV a b) h'):(JI x y).wp h Q:=KFV _ a b (Nat.lt_succ_self _) hx hy H
theorem zE {β:Type} {h:Heap} {Q:β→Heap→Prop} {b:Nat} {t:TypeId} {z:Nat × Nat} {v:Vl} {cs:Array Value} {f:Array Value→M β} (hb:h[b]?=some (.cells cs t z)) (hv:cs.size=4) (H:(f cs).wp h Q):(ldG 4 ⟨b,0,none⟩>>=f).wp h Q :=
 UW hv (fun i _=>by rw [Kt hb]) H
theorem KDe {a b:Vl} {h:Heap} {Q:Bool→Heap→Prop} {x y:Array Value} (hx:VRep h a x) (hy:VRep h b y) (H:∀ h',Ext h h'→Q (decide (cmpV a b=0)) h'):(GS x y).wp h Q:=by
 unfold GS
 refine ZW (fun h1 e1 z1 g1=>ZW (fun h2 e2 z2 g2=>?_))
 have E:=e1.trans e2
 refine zE (v:=a) (e2.blk g1) hx.size (zE (v:=b) g2 hy.size (KJ (XH (hx.ext E) (hy.ext E) (fun h3 e3=>KG ?_))))
 have:=H _ (E.trans e3)
 rwa [show (cmpV a b == 0)=decide (cmpV a b=0) from rfl]
theorem KDf {a b:Vl} {h:Heap} {Q:Bool→Heap→Prop} {x y:Array Value} (hx:VRep h a x) (hy:VRep h b y) (H:∀ h',Ext h h'→Q (decide (cmpV a b=0)) h'):(J6 x y).wp h Q:=by
 unfold J6
 refine ZW (fun h1 e1 z1 g1=>ZW (fun h2 e2 z2 g2=>?_))
 have E:=e1.trans e2
 refine zE (v:=a) (e2.blk g1) hx.size (zE (v:=b) g2 hy.size (KJ (KEZ (hx.ext E) (hy.ext E) (fun h3 e3=>KG ?_))))
 have:=H _ (E.trans e3)
 rwa [show (cmpV a b == 0)=decide (cmpV a b=0) from rfl]
end Gx
namespace Gx
open Go
set_option linter.unusedVariables false
set_option linter.unusedSimpArgs false
def KAP:List Vl→Bool
 | a::_::c::r=>decide (cmpV a c < 0) && KAP (c::r)
 | _=>true
def KEa (s:List UInt8) (l:List Vl):Bool:=decide (s=[]) && l.isEmpty
def mayV:Nat→Vl→Bool
 | 0,_=>false
 | d+1,.mk k n s l =>
  if k=1 then KEa s l
  else if k=3 then KEa s l && (decide (n=0) || decide (n=1))
  else if k=6∨k=7 then KEa s l && decide (1≤n) && decide (n≤281474976710656)
  else if k=2 then decide (n=0) && l.isEmpty && decide (s.length≤128)
  else if k=4 then decide (l.length≤256) && (decide (n=0) && decide (s=[]) && l.all (mayV d))
  else if k=5 then decide (l.length≤512) && decide (l.length % 2=0) && KAP l && (decide (n=0) && decide (s=[]) && l.all (mayV d))
  else false
theorem Nr {β:Type} {h:Heap} {Q:β→Heap→Prop} {b c:Bool} {m:M Bool} {f:Bool→M β} (hm:b=true→∀ Q':Bool→Heap→Prop,Q' c h→m.wp h Q') (H:(f (b && c)).wp h Q):(M.ite b m (M.pure false)>>=f).wp h Q:=by
 cases b with
 | true=>exact hm rfl _ H
 | false=>exact H
theorem or_b {β:Type} {h:Heap} {Q:β→Heap→Prop} {b c:Bool} {m:M Bool} {f:Bool→M β} (hm:b=false→∀ Q':Bool→Heap→Prop,Q' c h→m.wp h Q') (H:(f (b || c)).wp h Q):(M.ite b (M.pure true) m>>=f).wp h Q:=by
 cases b with
 | true=>exact H
 | false=>exact hm rfl _ H
theorem len0 {n:Nat} {l:List Vl} (h:n=l.length):((n:Int) == 0)=l.isEmpty:=by
 subst h
 cases l with
 | nil=>rfl
 | cons a l=>simp; omega
theorem sEq0 (s:List UInt8):sEq (bs s) ByteArray.empty=decide (s=[]):=by rw [KK6,KBR]
theorem eqI (a b:Int):(a == b)=decide (a=b):=rfl
theorem KDN {h:Heap} {Q:Bool→Heap→Prop} {x:Sl} {l:List Vl} {g:Value} {p:Vl→Bool} (hx:VsRep h x l)
  (hg:∀ j (hj:j < l.length) h1 c (Q1:Bool→Heap→Prop),Ext h h1→VRep h1 l[j] c→(∀ h2,Ext h1 h2→Q1 (p l[j]) h2)→(VD Go.Proofs.Tryz.prog (fun r:Bool=>.bool r) g [.agg c]).wp h1 Q1)
  (H:∀ h',Ext h h'→Q (l.any p) h'):(Kf x g).wp h Q:=by
 unfold Kf ZE
 have hxl:=hx.len
 have hxb:=hx.big
 have hxc:=hx.cap
 refine KJ (M.loop_inv (fun (t:Int) h'=>Ext h h'∧∃ i:Nat,t=(i:Int)∧i≤l.length∧(l.drop i).any p=l.any p) (fun t _=>((l.length:Int) - t).toNat) ?_ ⟨Ext.refl h,0,rfl,Nat.zero_le _,by simp⟩)
 rintro t h' ⟨E,i,rfl,hi,hd⟩ self hself
 unfold ZV
 refine Kc (fun hc=>?_) (fun hc=>?_)
 ·have hlt:i < l.length:=by have:=of_decide_eq_true hc; omega
  rw [List.drop_eq_getElem_cons hlt,List.any_cons] at hd
  refine KBe (hx.ext E) hlt rfl (fun a c hs hcs hv=>UW hs hcs (KJ (hg i hlt h' c _ E hv (fun h2 e2=>?_))))
  refine Kc (fun ht=>KG (KG ?_)) (fun hf=>?_)
  ·rw [ht] at hd
   rw [show decide ((i:Int) ≥ 0)=l.any p by rw [← hd]; simp]
   exact H _ (E.trans e2)
  ·rw [hf,Bool.false_or] at hd
   rw [w64 (by omega) (by omega)]
   exact hself _ _ ⟨E.trans e2,i+1,by simp,by omega,hd⟩ (by omega)
 ·have hge:i=l.length:=by have:=of_decide_eq_false hc; omega
  subst hge
  rw [List.drop_length] at hd
  refine KG (KG ?_)
  rw [show decide ((-1:Int) ≥ 0)=l.any p by rw [← hd]; rfl]
  exact H _ E
theorem KH7 {l:List Vl} {i:Nat} (h2:2≤i) (hi:i < l.length):KAP (l.drop (i - 2))=(decide (cmpV (l[i - 2]'(by omega)) l[i] < 0) && KAP (l.drop i)):=by
 rw [List.drop_eq_getElem_cons (show i - 2 < l.length by omega),List.drop_eq_getElem_cons (show i - 2+1 < l.length by omega)]
 have e:i - 2+1+1=i:=by omega
 simp only [e]
 rw [List.drop_eq_getElem_cons hi,KAP]
theorem KJN {l:List Vl} {i:Nat} (h2:2≤i) (hi:l.length≤i):KAP (l.drop (i - 2))=true:=by
 have hl:(l.drop (i - 2)).length≤2:=by rw [List.length_drop]; omega
 match h:l.drop (i - 2),hl with
 | [],_=>rfl
 | [_],_=>rfl
 | [_,_],_=>rfl
theorem KM7 (l:List Vl) (p:Vl→Bool):(!l.any fun x=>!p x)=l.all p:=by
 induction l with
 | nil=>rfl
 | cons a l ih=>simp [List.any_cons,List.all_cons,← ih]
theorem KJO:∀ (d:Nat) (v:Vl) {h:Heap} {Q:Bool→Heap→Prop} {x:Array Value},d≤8→VRep h v x→(∀ h',Ext h h'→Q (mayV d v) h')→(Xa x ((9 - d:Nat):Int)).wp h Q:=by
 intro d
 induction d with
 | zero =>
  rintro v h Q x _ hx H
  unfold Xa
  refine ZW (fun h1 e1 z1 g1=>ZW (fun h2 e2 z2 g2=>?_))
  refine Jc (n:=((9 - 0:Nat):Int)) (by rw [show (⟨h1.size,0,none⟩:Addr)=(⟨h1.size,0,none⟩:Addr).add 0 from rfl,Kt g2]; rfl) (iteT rfl (KG (H _ (e1.trans e2))))
 | succ d ih =>
  rintro ⟨k,n,s,l⟩ h Q x hd hx H
  obtain ⟨xs,rfl,k1,n1,s1,r1⟩:=VRep.eq.1 hx
  have hxl:=r1.len
  have hxb:=r1.big
  have hxc:=r1.cap
  unfold Xa
  refine ZW (fun h1 e1 z1 g1=>ZW (fun h2 e2 z2 g2=>?_))
  have g1':=e2.blk g1
  have E:=e1.trans e2
  have c0:KN h2 ((⟨h.size,0,none⟩:Addr).add 0)=some (.int .i64 k):=by rw [Kt g1']; rfl
  have c1:KN h2 ((⟨h.size,0,none⟩:Addr).add 1)=some (.int .i64 n):=by rw [Kt g1']; rfl
  have c2:KN h2 ((⟨h.size,0,none⟩:Addr).add 2)=some (.string (bs s)):=by rw [Kt g1']; rfl
  have c3:KN h2 ((⟨h.size,0,none⟩:Addr).add 3)=some xs.v:=by rw [Kt g1']; rfl
  have cd:KN h2 ⟨h1.size,0,none⟩=some (.int .i64 ((9 - (d+1):Nat):Int)):=by rw [show (⟨h1.size,0,none⟩:Addr)=(⟨h1.size,0,none⟩:Addr).add 0 from rfl,Kt g2]; rfl
  have H2:Q (mayV (d+1) (.mk k n s l)) h2:=H _ E
  unfold mayV at H H2
  refine Jc cd (iteF (by simp; omega) (Gg c2 (Nr (c:=l.isEmpty) (fun _ Q' hq=>Jp c3 (KG (by rw [len0 hxl]; exact hq))) ?_)))
  rw [sEq0]
  have hb:(decide (s=[]) && l.isEmpty)=KEa s l:=rfl
  rw [hb]
  have tail:(∀ h',Ext h h'→Q (decide (n=0) && decide (s=[]) && l.all (mayV d)) h')→∀ h3,Ext h2 h3→(YP ⟨h.size,0,none⟩ ⟨h1.size,0,none⟩).wp h3 Q:=fun HT h3 e3=>by
   unfold YP
   refine Jc (e3.cell c1) (Nr (c:=decide (s=[])) (fun _ Q' hq=>Gg (e3.cell c2) (KG (by rw [sEq0]; exact hq))) ?_)
   rw [eqI]
   cases hns:(decide (n=0) && decide (s=[])) with
   | false =>
    have:=HT h3 (E.trans e3)
    rw [hns] at this
    exact Jy (KG this)
   | true =>
    rw [hns] at HT
    refine KJ (iteT rfl (Jp (e3.cell c3) (KJ (KDN (p:=fun x=>!mayV d x) (r1.ext (E.trans e3)) (fun j hj h4 c Q1 e4 hv hq=>?_) (fun h4 e4=>KG (KG ?_))))))
    ·refine XM KDC (KEU _ _) ?_
     unfold KCO
     refine ZW (fun h5 e5 z5 g5=>zE (v:=l[j]) g5 hv.size (Jc (e5.cell (e4.cell (e3.cell cd))) ?_))
     rw [show IntKind.wrap .i64 (((9 - (d+1):Nat):Int)+1)=((9 - d:Nat):Int) by rw [w64 (by omega) (by omega)]; omega]
     exact KJ (ih _ (by omega) (hv.ext e5) (fun h6 e6=>KG (hq _ (e5.trans e6))))
    ·rw [KM7]
     exact HT _ ((E.trans e3).trans e4)
  refine Jc c0 (Kc (fun h1k=>?_) (fun h1k=>?_))
  ·have h1k:k=1:=by simpa using h1k
   rw [if_pos h1k] at H2
   exact KG H2
  have h1k:¬ k=1:=by simpa using h1k
  rw [if_neg h1k] at H2
  simp only [if_neg h1k] at H
  refine Kc (fun h3k=>?_) (fun h3k=>?_)
  ·have h3k:k=3:=by simpa using h3k
   rw [if_pos h3k] at H2
   refine Nr (c:=(decide (n=0) || decide (n=1))) (fun _ Q' hq=>Jc c1 (or_b (c:=decide (n=1)) (fun _ Q'' hq'=>Jc c1 (KG hq')) (KG hq))) (KG H2)
  have h3k:¬ k=3:=by simpa using h3k
  rw [if_neg h3k] at H2
  simp only [if_neg h3k] at H
  have j2:(YQ ⟨h.size,0,none⟩ ⟨h1.size,0,none⟩ (KEa s l) k (decide (k=6∨k=7))).wp h2 Q:=by
   unfold YQ
   refine Kc (fun h67=>?_) (fun h67=>?_)
   ·rw [if_pos (of_decide_eq_true h67)] at H2
    refine Nr (c:=decide (1≤n)) (fun _ Q' hq=>Jc c1 (KG hq)) (Nr (c:=decide (n≤281474976710656)) (fun _ Q' hq=>Jc c1 (KG hq)) (KG H2))
   rw [if_neg (of_decide_eq_false h67)] at H2
   simp only [if_neg (of_decide_eq_false h67)] at H
   refine Kc (fun h2k=>?_) (fun h2k=>?_)
   ·have h2k:k=2:=by simpa using h2k
    rw [if_pos h2k] at H2
    refine Jc c1 (Nr (c:=l.isEmpty) (fun _ Q' hq=>Jp c3 (KG (by rw [len0 hxl]; exact hq))) (Nr (c:=decide (s.length≤128)) (fun _ Q' hq=>Gg c2 (KG (by rw [show decide (((bs s).size:Int)≤128)=decide (s.length≤128) by rw [JD,Bool.eq_iff_iff]; simp only [decide_eq_true_eq]; omega]; exact hq))) (KG ?_)))
    exact H2
   have h2k:¬ k=2:=by simpa using h2k
   rw [if_neg h2k] at H2
   simp only [if_neg h2k] at H
   refine Kc (fun h4k=>?_) (fun h4k=>?_)
   ·have h4k:k=4:=by simpa using h4k
    rw [if_pos h4k] at H2
    simp only [if_pos h4k] at H
    refine Jp c3 (Kc (fun hbig=>?_) (fun hsm=>?_))
    ·have:¬ l.length≤256:=by have:=of_decide_eq_true hbig; omega
     rw [decide_eq_false this,Bool.false_and] at H2
     exact KG H2
    ·have:l.length≤256:=by have:=of_decide_eq_false hsm; omega
     simp only [decide_eq_true this,Bool.true_and] at H
     exact tail H h2 (Ext.refl _)
   have h4k:¬ k=4:=by simpa using h4k
   rw [if_neg h4k] at H2
   simp only [if_neg h4k] at H
   refine Kc (fun h5k=>?_) (fun h5k=>?_)
   ·have h5k:k=5:=by simpa using h5k
    rw [if_pos h5k] at H2
    simp only [if_pos h5k] at H
    have hodd:((Int.tmod (xs.len:Int) 2) == 1)=!decide (l.length % 2=0):=by
     rw [hxl,Int.tmod_eq_emod_of_nonneg (by omega),Bool.eq_iff_iff]
     simp
     omega
    refine Jp c3 (or_b (c:=!decide (l.length % 2=0)) (fun _ Q' hq=>Jp c3 (KG (by rw [hodd]; exact hq))) ?_)
    have hbig:decide ((xs.len:Int) > 512)=!decide (l.length≤512):=by
     rw [hxl,Bool.eq_iff_iff]; simp; omega
    rw [hbig]
    cases h512:decide (l.length≤512) with
    | false=>rw [h512] at H2; exact iteT rfl (KG (by simpa using H2))
    | true =>
     cases heven:decide (l.length % 2=0) with
     | false=>rw [h512,heven] at H2; exact iteT rfl (KG (by simpa using H2))
     | true =>
      simp only [h512,heven,Bool.true_and] at H
      refine iteF rfl ?_
      refine M.loop_inv (fun (t:Int) h'=>Ext h2 h'∧∃ i:Nat,t=(i:Int)∧2≤i∧i≤l.length+2∧KAP (l.drop (i - 2))=KAP l) (fun t _=>((l.length:Int)+2 - t).toNat) ?_ ⟨Ext.refl h2,2,rfl,Nat.le_refl _,by omega,by simp⟩
      rintro t h' ⟨E',i,rfl,hi2,hi,hd'⟩ self hself
      unfold Ni
      have hl512:=of_decide_eq_true h512
      refine Jp (E'.cell c3) (Kc (fun hc=>?_) (fun hc=>?_))
      ·have hlt:i < l.length:=by have:=of_decide_eq_true hc; omega
       rw [KH7 hi2 hlt] at hd'
       have EE:=E.trans E'
       refine Jp (E'.cell c3) (KBe (i:=i - 2) (r1.ext EE) (by omega) (by rw [w64 (by omega) (by omega)]; omega) (fun a c hs hcs hv=>UW hs hcs (Jp (E'.cell c3) (KBe (r1.ext EE) hlt rfl (fun a' c' hs' hcs' hv'=>UW hs' hcs' ?_)))))
       refine KJ (XH hv hv' (fun h3 e3=>?_))
       refine Kc (fun hge=>?_) (fun hlt'=>?_)
       ·have hge:¬ cmpV (l[i - 2]'(by omega)) l[i] < 0:=by have:=of_decide_eq_true hge; omega
        rw [decide_eq_false hge,Bool.false_and] at hd'
        have:=H _ (EE.trans e3)
        rw [← hd',Bool.false_and] at this
        exact KG this
       ·have hlt':cmpV (l[i - 2]'(by omega)) l[i] < 0:=by have:=of_decide_eq_false hlt'; omega
        rw [decide_eq_true hlt',Bool.true_and] at hd'
        rw [w64 (by omega) (by omega)]
        exact hself _ _ ⟨E'.trans e3,i+2,by simp,by omega,by omega,by simpa using hd'⟩ (by omega)
      ·have hge:l.length≤i:=by have:=of_decide_eq_false hc; omega
       rw [KJN hi2 hge] at hd'
       refine tail (fun h3 e3=>?_) h' E'
       have:=H h3 e3
       rw [← hd',Bool.true_and] at this
       exact this
   ·have h5k:¬ k=5:=by simpa using h5k
    rw [if_neg h5k] at H2
    exact KG H2
  refine Kc (fun h6k=>?_) (fun h6k=>?_)
  ·have h6k:k=6:=by simpa using h6k
   have e:(k == 6)=decide (k=6∨k=7):=by subst h6k; rfl
   rw [e]
   exact j2
  ·have h6k:¬ k=6:=by simpa using h6k
   have e:(k == 7)=decide (k=6∨k=7):=by rw [eqI,Bool.eq_iff_iff]; simp [h6k]
   rw [e]
   exact j2
def ND (v:Vl):Int:=if mayV 8 v=true then 0 else 20
theorem zG {v:Vl} {h:Heap} {Q:Int→Heap→Prop} {x:Array Value} (hx:VRep h v x) (H:∀ h',Ext h h'→Q (ND v) h'):(Vn x).wp h Q:=by
 unfold Vn
 refine ZW (fun h1 e1 z1 g1=>zE (v:=v) g1 hx.size (KJ (KJO 8 v (Nat.le_refl _) (hx.ext e1) (fun h2 e2=>?_))))
 have:=H _ (e1.trans e2)
 unfold ND at this
 cases hm:mayV 8 v with
 | true=>rw [hm,if_pos rfl] at this; exact iteF rfl (KG this)
 | false=>rw [hm,if_neg (by simp)] at this; exact iteT rfl (KG this)
end Gx
namespace Gx
open Go
set_option linter.unusedVariables false
set_option linter.unusedSimpArgs false
def Zr:List Vl→Int
 | []=>0
 | v::l=>if ND v≠0 then ND v else Zr l
theorem KCS {l:List Vl} {h:Heap} {Q:Int→Heap→Prop} {x:Sl} (hx:VsRep h x l) (H:∀ h',Ext h h'→Q (Zr l) h'):(Vv x).wp h Q:=by
 unfold Vv
 have hxl:=hx.len
 have hxb:=hx.big
 have hxc:=hx.cap
 refine M.loop_inv (fun (t:Int) h'=>Ext h h'∧∃ i:Nat,t=(i:Int)∧i≤l.length∧Zr (l.drop i)=Zr l) (fun t _=>((l.length:Int) - t).toNat) ?_ ⟨Ext.refl h,0,rfl,Nat.zero_le _,by simp⟩
 rintro t h' ⟨E,i,rfl,hi,hd⟩ self hself
 unfold Xb
 refine Kc (fun hc=>?_) (fun hc=>?_)
 ·have hlt:i < l.length:=by have:=of_decide_eq_true hc; omega
  rw [List.drop_eq_getElem_cons hlt,Zr] at hd
  refine KBe (hx.ext E) hlt rfl (fun a c hs hcs hv=>UW hs hcs (ZW (fun h1 e1 z1 g1=>JA hs (stR (vs:=c) g1 (by rw [hs]; decide) hv.one (fun h2 u2 g2=>?_)))))
  rw [ZD (by rw [Array.length_toList,hs]; rfl),Array.toArray_toList] at g2
  have E2:Ext h' h2:=e1.upd u2 (Nat.le_refl _)
  refine zE (v:=l[i]) g2 hs (KJ (zG (hv.ext E2) (fun h3 e3=>?_)))
  refine Kc (fun hne=>?_) (fun heq=>?_)
  ·have hne:ND l[i]≠0:=by simpa using hne
   rw [if_pos hne] at hd
   rw [hd]
   exact KG (H _ ((E.trans E2).trans e3))
  ·have heq:ND l[i]=0:=by simpa using heq
   rw [if_neg (by simpa using heq)] at hd
   rw [w64 (by omega) (by omega)]
   exact hself _ _ ⟨(E.trans E2).trans e3,i+1,by simp,by omega,hd⟩ (by omega)
 ·have hge:i=l.length:=by have:=of_decide_eq_false hc; omega
  subst hge
  rw [List.drop_length] at hd
  have:=H _ E
  rw [← hd] at this
  exact KG this
end Gx
namespace Gx
open Go
set_option linter.unusedVariables false
set_option linter.unusedSimpArgs false
mutual
def ZK (S:Nat→Prop) (h:Heap):Vl→Array Value→Prop
 | .mk k n s l,cs=>∃ x:Sl,cs=Jv k n s x∧I64 k∧I64 n∧s.length≤9223372036854775807∧(x.len=l.length∧x.len≤x.cap∧x.len≤9223372036854775807∧Vr S h l x.base 0)
def Vr (S:Nat→Prop) (h:Heap):List Vl→Option Addr→Nat→Prop
 | [],_,_=>True
 | v::l,b,i=>(∃ a cs,b=some a∧S a.block∧cs.size=4∧(∀ j,j < 4→KN h (a.add (i * 4+j))=cs[j]?)∧ZK S h v cs)∧Vr S h l b (i+1)
end
structure VsRepS (S:Nat→Prop) (h:Heap) (x:Sl) (l:List Vl):Prop where
 len:x.len=l.length
 cap:x.len≤x.cap
 big:x.len≤9223372036854775807
 at_:Vr S h l x.base 0
theorem ZK.eq {S:Nat→Prop} {h:Heap} {k n:Int} {s:List UInt8} {l:List Vl} {cs:Array Value}:ZK S h (.mk k n s l) cs↔∃ x:Sl,cs=Jv k n s x∧I64 k∧I64 n∧s.length≤9223372036854775807∧VsRepS S h x l:=by
 rw [ZK]
 constructor
 ·rintro ⟨x,h1,h2,h3,h4,h5,h6,h7,h8⟩; exact ⟨x,h1,h2,h3,h4,h5,h6,h7,h8⟩
 ·rintro ⟨x,h1,h2,h3,h4,h5,h6,h7,h8⟩; exact ⟨x,h1,h2,h3,h4,h5,h6,h7,h8⟩
theorem Vr.get {S:Nat→Prop} {h:Heap}:∀ {l:List Vl} {b:Option Addr} {i:Nat},Vr S h l b i→∀ {j:Nat} (hj:j < l.length),∃ a cs,b=some a∧S a.block∧cs.size=4∧(∀ m,m < 4→KN h (a.add ((i+j) * 4+m))=cs[m]?)∧ZK S h l[j] cs
 | [],_,_,_,j,hj=>by simp at hj
 | v::l,b,i,H,0,hj=>by rw [Vr] at H; exact H.1
 | v::l,b,i,H,j+1,hj=>by
  rw [Vr] at H
  have:=Vr.get H.2 (j:=j) (by simpa using hj)
  rw [show i+(j+1)=i+1+j by omega]
  exact this
theorem Vr.of {S:Nat→Prop} {h:Heap}:∀ {l:List Vl} {b:Option Addr} {i:Nat},(∀ j (hj:j < l.length),∃ a cs,b=some a∧S a.block∧cs.size=4∧(∀ m,m < 4→KN h (a.add ((i+j) * 4+m))=cs[m]?)∧ZK S h l[j] cs)→Vr S h l b i
 | [],_,_,_=>by rw [Vr]; trivial
 | v::l,b,i,H=>by
  rw [Vr]
  refine ⟨H 0 (by simp),Vr.of (fun j hj=>?_)⟩
  have:=H (j+1) (by simpa using hj)
  rw [show i+1+j=i+(j+1) by omega]
  exact this
theorem VsRepS.get {S:Nat→Prop} {h:Heap} {x:Sl} {l:List Vl} (H:VsRepS S h x l) {j:Nat} (hj:j < l.length):∃ a cs,x.base=some a∧S a.block∧cs.size=4∧(∀ m,m < 4→KN h (a.add (j * 4+m))=cs[m]?)∧ZK S h l[j] cs:=by
 have:=H.at_.get hj
 rw [Nat.zero_add] at this
 exact this
theorem KJP {k n:Int} {s:List UInt8} {l:List Vl} {m j:Nat} (hm:sizeOf (Vl.mk k n s l) < m+1) (hj:j < l.length):sizeOf l[j] < m:=by
 have:=List.sizeOf_lt_of_mem (List.getElem_mem hj)
 simp only [Vl.mk.sizeOf_spec] at hm
 omega
theorem KA5 {S T:Nat→Prop} {h h':Heap} (e:∀ b,S b→h'[b]?=h[b]?) (hT:∀ b,S b→T b):∀ (m:Nat) (v:Vl) (cs:Array Value),sizeOf v < m→ZK S h v cs→ZK T h' v cs:=by
 intro m
 induction m with
 | zero=>intro v cs hm; omega
 | succ m ih =>
  rintro ⟨k,n,s,l⟩ cs hm H
  obtain ⟨x,h1,h2,h3,h4,h5⟩:=ZK.eq.1 H
  refine ZK.eq.2 ⟨x,h1,h2,h3,h4,h5.len,h5.cap,h5.big,Vr.of (fun j hj=>?_)⟩
  obtain ⟨a,cs',ha,hS,hs,hc,hv⟩:=h5.at_.get hj
  refine ⟨a,cs',ha,hT _ hS,hs,fun i hi=>?_,ih _ _ (KJP hm hj) hv⟩
  rw [← hc i hi]
  unfold KN
  rw [YH,e _ hS]
theorem ZK.same {S:Nat→Prop} {h h':Heap} {v:Vl} {cs:Array Value} (H:ZK S h v cs) (e:∀ b,S b→h'[b]?=h[b]?):ZK S h' v cs:=KA5 e (fun _ h=>h) _ v cs (Nat.lt_succ_self _) H
theorem ZK.mono {S T:Nat→Prop} {h:Heap} {v:Vl} {cs:Array Value} (H:ZK S h v cs) (e:∀ b,S b→T b):ZK T h v cs:=KA5 (fun _ _=>rfl) e _ v cs (Nat.lt_succ_self _) H
theorem KK7 {S:Nat→Prop} {h:Heap}:∀ (m:Nat) (v:Vl) (cs:Array Value),sizeOf v < m→ZK S h v cs→VRep h v cs:=by
 intro m
 induction m with
 | zero=>intro v cs hm; omega
 | succ m ih =>
  rintro ⟨k,n,s,l⟩ cs hm H
  obtain ⟨x,h1,h2,h3,h4,h5⟩:=ZK.eq.1 H
  refine VRep.eq.2 ⟨x,h1,h2,h3,h4,h5.len,h5.cap,h5.big,VsAt.of (fun j hj=>?_)⟩
  obtain ⟨a,cs',ha,hS,hs,hc,hv⟩:=h5.at_.get hj
  exact ⟨a,cs',ha,hs,hc,ih _ _ (KJP hm hj) hv⟩
theorem ZK.to {S:Nat→Prop} {h:Heap} {v:Vl} {cs:Array Value} (H:ZK S h v cs):VRep h v cs:=KK7 _ v cs (Nat.lt_succ_self _) H
theorem N3 {h:Heap} {a:Addr} {v:Value} (H:KN h a=some v):a.block < h.size:=by
 rcases Nat.lt_or_ge a.block h.size with h1 | h1
 ·exact h1
 ·unfold KN at H
  rw [Array.getElem?_eq_none h1] at H
  cases H
theorem KM8 {h:Heap}:∀ (m:Nat) (v:Vl) (cs:Array Value),sizeOf v < m→VRep h v cs→ZK (· < h.size) h v cs:=by
 intro m
 induction m with
 | zero=>intro v cs hm; omega
 | succ m ih =>
  rintro ⟨k,n,s,l⟩ cs hm H
  obtain ⟨x,h1,h2,h3,h4,h5⟩:=VRep.eq.1 H
  refine ZK.eq.2 ⟨x,h1,h2,h3,h4,h5.len,h5.cap,h5.big,Vr.of (fun j hj=>?_)⟩
  obtain ⟨a,cs',ha,hs,hc,hv⟩:=h5.at_.get hj
  refine ⟨a,cs',ha,?_,hs,hc,ih _ _ (KJP hm hj) hv⟩
  have h0:=hc 0 (by decide)
  rw [Array.getElem?_eq_getElem (by omega)] at h0
  have:=N3 h0
  rwa [YH] at this
theorem VRep.lt {h:Heap} {v:Vl} {cs:Array Value} (H:VRep h v cs):ZK (· < h.size) h v cs:=KM8 _ v cs (Nat.lt_succ_self _) H
theorem VsRepS.to {S:Nat→Prop} {h:Heap} {x:Sl} {l:List Vl} (H:VsRepS S h x l):VsRep h x l :=
 ⟨H.len,H.cap,H.big,VsAt.of (fun j hj=>by obtain ⟨a,cs,h1,h2,h3,h4,h5⟩:=H.at_.get hj; exact ⟨a,cs,h1,h3,h4,h5.to⟩)⟩
theorem VsRepS.same {S T:Nat→Prop} {h h':Heap} {x:Sl} {l:List Vl} (H:VsRepS S h x l) (e:∀ b,S b→h'[b]?=h[b]?) (hT:∀ b,S b→T b):VsRepS T h' x l :=
 ⟨H.len,H.cap,H.big,Vr.of (fun j hj=>by
  obtain ⟨a,cs,h1,h2,h3,h4,h5⟩:=H.at_.get hj
  refine ⟨a,cs,h1,hT _ h2,h3,fun i hi=>?_,KA5 e hT _ _ _ (Nat.lt_succ_self _) h5⟩
  rw [← h4 i hi]
  unfold KN
  rw [YH,e _ h2])⟩
theorem VsRep.lt {h:Heap} {x:Sl} {l:List Vl} (H:VsRep h x l):VsRepS (· < h.size) h x l :=
 ⟨H.len,H.cap,H.big,Vr.of (fun j hj=>by
  obtain ⟨a,cs,h1,h3,h4,h5⟩:=H.at_.get hj
  refine ⟨a,cs,h1,?_,h3,h4,h5.lt⟩
  have h0:=h4 0 (by decide)
  rw [Array.getElem?_eq_getElem (by omega)] at h0
  have:=N3 h0
  rwa [YH] at this)⟩
theorem ZK.size {S:Nat→Prop} {h:Heap} {v:Vl} {cs:Array Value} (H:ZK S h v cs):cs.size=4:=H.to.size
def wt:Vl→Nat
 | .mk _ _ s l=>1+s.length+wts l
where wts:List Vl→Nat
 | []=>0
 | v::l=>wt v+wts l
theorem KJQ (v:Vl):1≤wt v:=by cases v; rw [wt]; omega
theorem Ns:∀ l:List Vl,l.length≤wt.wts l
 | []=>by simp
 | v::l=>by have:=Ns l; have:=KJQ v; rw [wt.wts,List.length_cons]; omega
theorem zH {l:List Vl} {v:Vl} (h:v ∈ l):wt v≤wt.wts l:=by
 induction l with
 | nil=>cases h
 | cons x l ih =>
  rw [wt.wts]
  rcases List.mem_cons.1 h with rfl | h
  ·omega
  ·have:=ih h; omega
end Gx
namespace Gx
open Go
set_option linter.unusedVariables false
set_option linter.unusedSimpArgs false
def Zx (css:List (Array Value)):List Value:=css.flatMap Array.toList
def W4 (css:List (Array Value)):Prop:=∀ c ∈ css,c.size=4∧∀ u ∈ c.toList,one u=true
theorem Um:∀ {css:List (Array Value)},W4 css→(Zx css).length=css.length * 4
 | [],_=>rfl
 | c::r,h=>by
  have:=Um (css:=r) (fun x hx=>h x (List.mem_cons_of_mem _ hx))
  have hc:=(h c (by simp)).1
  unfold Zx at this ⊢
  rw [List.flatMap_cons,List.length_append,this,Array.length_toList,hc,List.length_cons]; omega
theorem Nt:∀ {css:List (Array Value)},W4 css→∀ (i j:Nat),j < 4→(Zx css)[i * 4+j]?=(css[i]?).bind (fun c=>c[j]?)
 | [],_,i,j,_=>by simp [Zx]
 | c::r,h,i,j,hj=>by
  have hc:=(h c (by simp)).1
  unfold Zx
  rw [List.flatMap_cons]
  cases i with
  | zero=>rw [List.getElem?_append_left (by rw [Array.length_toList]; omega)]; simp
  | succ i =>
   rw [List.getElem?_append_right (by rw [Array.length_toList]; omega),Array.length_toList,hc,show (i+1) * 4+j - 4=i * 4+j by omega]
   have:=Nt (css:=r) (fun x hx=>h x (List.mem_cons_of_mem _ hx)) i j hj
   unfold Zx at this
   rw [this]; simp
theorem KJR {css:List (Array Value)} (h:W4 css):∀ v ∈ Zx css,one v=true:=fun v hv=>by
 obtain ⟨c,hc,hv⟩:=List.mem_flatMap.1 hv
 exact (h c hc).2 v hv
theorem W4.append {a b:List (Array Value)} (ha:W4 a) (hb:W4 b):W4 (a++b):=fun c hc=>(List.mem_append.1 hc).elim (ha c) (hb c)
theorem W4.set {a:List (Array Value)} (ha:W4 a) {i:Nat} {c:Array Value} (hc:c.size=4) (h1:∀ u ∈ c.toList,one u=true):W4 (a.set i c):=fun x hx=>by
 rcases List.mem_or_eq_of_mem_set hx with h | rfl
 ·exact ha x h
 ·exact ⟨hc,h1⟩
theorem KFW:∀ {css:List (Array Value)},W4 css→∀ (i:Nat) (c:Array Value),c.size=4→i < css.length→Zx (css.set i c)=(Zx css).take (i * 4)++c.toList++(Zx css).drop (i * 4+4)
 | [],_,i,c,_,hi=>by simp at hi
 | x::r,h,0,c,hc,_=>by
  have hx:=(h x (by simp)).1
  simp only [Zx,List.set_cons_zero,List.flatMap_cons]
  rw [show (0 * 4+4)=x.toList.length by rw [Array.length_toList,hx]]
  simp
 | x::r,h,i+1,c,hc,hi=>by
  have hx:=(h x (by simp)).1
  have ih:=KFW (css:=r) (fun y hy=>h y (List.mem_cons_of_mem _ hy)) i c hc (by simpa using hi)
  simp only [Zx,List.set_cons_succ,List.flatMap_cons] at ih ⊢
  rw [ih]
  have e1:(i+1) * 4=x.toList.length+i * 4:=by rw [Array.length_toList,hx]; omega
  rw [e1,List.take_length_add_append,show x.toList.length+i * 4+4=x.toList.length+(i * 4+4) by omega,List.drop_length_add_append]
  simp
theorem Gw.row4 {lo:Nat} {h:Heap} {r:Sl} {css:List (Array Value)} (G:Gw lo h r 4 (Zx css)) (hw:W4 css) {i:Nat} (hi:i < css.length):∃ b,r.base=some ⟨b,0,none⟩∧Sl.on r b∧∀ j,j < 4→KN h ((⟨b,0,none⟩:Addr).add (i * 4+j))=css[i][j]?:=by
 have hl:=Um hw
 rcases G with ⟨rfl,he⟩ | ⟨b,ty,cells,R⟩
 ·rw [he] at hl; simp at hl; omega
 ·refine ⟨b,R.base,⟨_,R.base,rfl⟩,fun j hj=>?_⟩
  rw [Kg,Nat.zero_add,KS R.blk]
  have h1:=Nt hw i j hj
  rw [List.getElem?_eq_getElem hi] at h1
  have hc:=(hw _ (List.getElem_mem hi)).1
  have h2:css[i][j]?=some (css[i][j]'(by omega)):=Array.getElem?_eq_getElem (by omega)
  rw [h2]
  refine R.get _ _ ?_
  rw [h1]
  exact h2
theorem Gw.len4 {lo:Nat} {h:Heap} {r:Sl} {css:List (Array Value)} (G:Gw lo h r 4 (Zx css)) (hw:W4 css):r.len=css.length:=by
 have:=G.len
 rw [Um hw] at this
 omega
theorem KHH {β:Type} {lo:Nat} {h:Heap} {Q:β→Heap→Prop} {r:Sl} {css:List (Array Value)} {i:Nat} {t:Int} {c:Array Value} {f:Unit→M β} (G:Gw lo h r 4 (Zx css)) (hw:W4 css) (hi:i < css.length) (ht:t=(i:Int)) (hc:c.size=4) (h1:∀ u ∈ c.toList,one u=true)
  (H:∀ b h',r.base=some ⟨b,0,none⟩→Upd b h h'→Gw lo h' r 4 (Zx (css.set i c))→(f ()).wp h' Q):(ixL r t 4>>=fun a=>M.need (c.size=4)>>=fun _=>stG a c>>=f).wp h Q:=by
 subst ht
 have hl:=G.len4 hw
 obtain ⟨b0,hb0,_,_⟩:=G.row4 hw hi
 rcases G with ⟨rfl,he⟩ | ⟨b,ty,cells,R⟩
 ·cases hb0
 ·have hsz:=R.size
  have hcap:=R.cap
  refine Xl (by omega) (by omega) R.base (JA hc ?_)
  rw [Kg,show 0+(i:Int).toNat * 4=i * 4 by omega]
  refine stR (vs:=c) R.blk (by omega) h1 (fun h' u g=>H b h' R.base u (.inr ⟨b,ty,_,R.base,R.lo,g,by rw [Yw]; exact R.size,R.cap,?_,fun j v hj=>?_⟩))
  ·rw [Um (hw.set hc h1),List.length_set,hl]
  ·rw [KFW hw i c hc hi] at hj
   have hfl:=Um hw
   rw [← Array.getElem?_toList,Uo _ _ _ (by rw [Array.length_toList]; omega),Array.length_toList,hc]
   have hlen1:((Zx css).take (i * 4)).length=i * 4:=by rw [List.length_take]; omega
   have hlen2:(cells.toList.take (i * 4)).length=i * 4:=by rw [List.length_take,Array.length_toList]; omega
   by_cases h1:j < i * 4
   ·rw [List.append_assoc,List.getElem?_append_left (by omega),List.getElem?_take,if_pos h1] at hj
    rw [List.append_assoc,List.getElem?_append_left (by omega),List.getElem?_take,if_pos h1,Array.getElem?_toList]
    exact R.get j v hj
   ·by_cases h2:j < i * 4+4
    ·rw [List.append_assoc,List.getElem?_append_right (by omega),hlen1,List.getElem?_append_left (by rw [Array.length_toList,hc]; omega)] at hj
     rw [List.append_assoc,List.getElem?_append_right (by omega),hlen2,List.getElem?_append_left (by rw [Array.length_toList,hc]; omega)]
     exact hj
    ·rw [List.getElem?_append_right (by rw [List.length_append,hlen1,Array.length_toList,hc]; omega),List.length_append,hlen1,Array.length_toList,hc,List.getElem?_drop] at hj
     rw [List.getElem?_append_right (by rw [List.length_append,hlen2,Array.length_toList,hc]; omega),List.length_append,hlen2,Array.length_toList,hc,List.getElem?_drop,Array.getElem?_toList]
     exact R.get _ v hj
structure VGw (lo:Nat) (S:Nat→Prop) (h:Heap) (r:Sl) (css:List (Array Value)) (l:List Vl):Prop where
 gw:Gw lo h r 4 (Zx css)
 w4:W4 css
 len:css.length=l.length
 rep:∀ j (h1:j < l.length) (h2:j < css.length),ZK S h l[j] css[j]
theorem VGw.nil (lo:Nat) (S:Nat→Prop) (h:Heap):VGw lo S h Sl.nil [] []:=⟨Gw.nil _ _ _,fun c hc=>(by cases hc),rfl,fun j h1=>(by cases h1)⟩
theorem VGw.rep_ {lo:Nat} {S:Nat→Prop} {h:Heap} {r:Sl} {css:List (Array Value)} {l:List Vl} (G:VGw lo S h r css l) (hl:l.length≤9223372036854775807):VsRepS (fun b=>S b∨Sl.on r b) h r l :=
 ⟨by rw [G.gw.len4 G.w4,G.len],G.gw.cap,by rw [G.gw.len4 G.w4,G.len]; exact hl,Vr.of (fun j hj=>by
  obtain ⟨b,hb,hon,hc⟩:=G.gw.row4 G.w4 (i:=j) (by rw [G.len]; exact hj)
  exact ⟨_,css[j]'(by rw [G.len]; exact hj),hb,.inr hon,(G.w4 _ (List.getElem_mem _)).1,fun m hm=>by rw [Nat.zero_add]; exact hc m hm,(G.rep j hj (by rw [G.len]; exact hj)).mono (fun b hb=>.inl hb)⟩)⟩
theorem VGw.same {lo:Nat} {S:Nat→Prop} {h h':Heap} {r:Sl} {css:List (Array Value)} {l:List Vl} (G:VGw lo S h r css l) (e1:∀ b,Sl.on r b→h'[b]?=h[b]?) (e2:∀ b,S b→h'[b]?=h[b]?):VGw lo S h' r css l :=
 ⟨G.gw.same e1,G.w4,G.len,fun j h1 h2=>(G.rep j h1 h2).same e2⟩
theorem VGw.mono {lo:Nat} {S T:Nat→Prop} {h:Heap} {r:Sl} {css:List (Array Value)} {l:List Vl} (G:VGw lo S h r css l) (e:∀ b,S b→T b):VGw lo T h r css l :=
 ⟨G.gw,G.w4,G.len,fun j h1 h2=>(G.rep j h1 h2).mono e⟩
theorem KBm {lo:Nat} {S:Nat→Prop} {h:Heap} {Q:Sl→Heap→Prop} {r x:Sl} {css css':List (Array Value)} {l l':List Vl} (G:VGw lo S h r css l) (hlo:lo≤h.size) (hS:∀ b,S b→b < h.size∧¬ Sl.on r b) (hw:W4 css') (hl':css'.length=l'.length) (hx:x.len=l'.length) (hr:NV h x.base (Zx css')) (hv:∀ j (h1:j < l'.length) (h2:j < css'.length),ZK S h l'[j] css'[j])
  (hm:l.length+l'.length≤2199023255552)
  (hq:∀ h' r',VGw lo S h' r' (css++css') (l++l')→h.size≤h'.size→(∀ i,i < h.size→¬ Sl.on r i→h'[i]?=h[i]?)→(∀ i,Sl.on r' i→Sl.on r i∨h.size≤i)→Q r' h'):(apL KB 4 56 (#[.int .i64 0,.int .i64 0,.string ByteArray.empty,.slice none 0 0]:Array Value) r x).wp h Q:=by
 have hrl:=G.gw.len4 G.w4
 have hgl:=G.len
 refine KD6 (vs:=Zx css) (news:=Zx css') rfl G.gw (by rw [Um hw,hl',hx]) hr (KJR hw) (by omega) (by omega) hlo (fun h' r' G' hlen hs same on_=>?_)
 have he:∀ b,S b→h'[b]?=h[b]?:=fun b hb=>same b (hS b hb).1 (hS b hb).2
 refine hq h' r' ⟨?_,G.w4.append hw,by rw [List.length_append,List.length_append,G.len,hl'],fun j h1 h2=>?_⟩ hs same on_
 ·unfold Zx at G' ⊢
  rw [List.flatMap_append]
  exact G'
 ·by_cases hj:j < l.length
  ·rw [List.getElem_append_left hj,List.getElem_append_left (by rw [G.len]; exact hj)]
   exact (G.rep j hj _).same he
  ·rw [List.getElem_append_right (by omega),List.getElem_append_right (by omega)]
   have h3:css.length=l.length:=G.len
   simp only [h3]
   exact (hv _ (by rw [List.length_append] at h1; omega) _).same he
end Gx
namespace Gx
open Go
set_option linter.unusedVariables false
set_option linter.unusedSimpArgs false
theorem Vr.css {S:Nat→Prop} {h:Heap}:∀ {l:List Vl} {b:Option Addr} {i:Nat},Vr S h l b i→∃ css:List (Array Value),W4 css∧css.length=l.length∧(∀ j (h1:j < l.length) (h2:j < css.length),ZK S h l[j] css[j])∧(∀ j (h2:j < css.length),∃ a,b=some a∧∀ m,m < 4→KN h (a.add ((i+j) * 4+m))=css[j][m]?)
 | [],_,_,_=>⟨[],fun c hc=>(by cases hc),rfl,fun j h1=>(by cases h1),fun j h1=>(by cases h1)⟩
 | v::l,b,i,H=>by
  rw [Vr] at H
  obtain ⟨⟨a,cs,ha,hS,hs,hc,hv⟩,H2⟩:=H
  obtain ⟨css,h1,h2,h3,h4⟩:=Vr.css H2
  refine ⟨cs::css,?_,by simp [h2],?_,?_⟩
  ·intro c hc
   rcases List.mem_cons.1 hc with rfl | hc
   ·exact ⟨hs,hv.to.one⟩
   ·exact h1 c hc
  ·intro j j1 j2
   cases j with
   | zero=>exact hv
   | succ j=>exact h3 j (by simpa using j1) (by simpa using j2)
  ·intro j j2
   cases j with
   | zero=>exact ⟨a,ha,hc⟩
   | succ j =>
    obtain ⟨a',ha',h5⟩:=h4 j (by simpa using j2)
    refine ⟨a',ha',fun m hm=>?_⟩
    rw [show i+(j+1)=i+1+j by omega]
    exact h5 m hm
theorem VsRepS.css {S:Nat→Prop} {h:Heap} {x:Sl} {l:List Vl} (H:VsRepS S h x l):∃ css:List (Array Value),W4 css∧css.length=l.length∧(∀ j (h1:j < l.length) (h2:j < css.length),ZK S h l[j] css[j])∧NV h x.base (Zx css):=by
 obtain ⟨css,h1,h2,h3,h4⟩:=H.at_.css
 refine ⟨css,h1,h2,h3,?_⟩
 cases hc:css with
 | nil=>exact .inl rfl
 | cons c r =>
  rw [← hc]
  obtain ⟨a,ha,_⟩:=h4 0 (by rw [hc]; simp)
  refine .inr ⟨a,ha,fun n v hn=>?_⟩
  have hlt:=(List.getElem?_eq_some_iff.1 hn).1
  rw [Um h1] at hlt
  have hj:n / 4 < css.length:=by omega
  obtain ⟨a',ha',h5⟩:=h4 (n / 4) hj
  rw [ha] at ha'; cases ha'
  have h6:=Nt h1 (n / 4) (n % 4) (by omega)
  rw [show n / 4 * 4+n % 4=n by omega,hn,List.getElem?_eq_getElem hj] at h6
  have h7:=h5 (n % 4) (by omega)
  rw [show (0+n / 4) * 4+n % 4=n by omega] at h7
  rw [h7]
  exact h6.symm
theorem KK8 {S:Nat→Prop} {h:Heap}:∀ (m:Nat) (v:Vl) (cs:Array Value),sizeOf v < m→ZK S h v cs→ZK (fun b=>S b∧b < h.size) h v cs:=by
 intro m
 induction m with
 | zero=>intro v cs hm; omega
 | succ m ih =>
  rintro ⟨k,n,s,l⟩ cs hm H
  obtain ⟨x,h1,h2,h3,h4,h5⟩:=ZK.eq.1 H
  refine ZK.eq.2 ⟨x,h1,h2,h3,h4,h5.len,h5.cap,h5.big,Vr.of (fun j hj=>?_)⟩
  obtain ⟨a,cs',ha,hS,hs,hc,hv⟩:=h5.at_.get hj
  refine ⟨a,cs',ha,⟨hS,?_⟩,hs,hc,ih _ _ (KJP hm hj) hv⟩
  have h0:=hc 0 (by decide)
  rw [Array.getElem?_eq_getElem (by omega)] at h0
  have:=N3 h0
  rwa [YH] at this
theorem ZK.lt2 {S:Nat→Prop} {h:Heap} {v:Vl} {cs:Array Value} (H:ZK S h v cs):ZK (fun b=>S b∧b < h.size) h v cs:=KK8 _ v cs (Nat.lt_succ_self _) H
theorem UV (k n:Int) (s:List UInt8) (x:Sl):∀ v ∈ (Jv k n s x).toList,one v=true:=fun v hv=>by
 simp only [Jv,List.mem_cons,List.not_mem_nil,or_false] at hv
 rcases hv with rfl | rfl | rfl | rfl <;> first | rfl | exact KAg _
theorem KGT {S:Nat→Prop} {h:Heap} {Q:Sl→Heap→Prop} {x:Sl} {l:List Vl} (hx:VsRepS S h x l) (hS:∀ b,S b→b < h.size) (hm:l.length≤1099511627776)
  (H:∀ h' r css,Ext h h'→VGw h.size S h' r css l→Q r h'):(K0 x).wp h Q:=by
 unfold K0
 refine Kc (fun hn=>?_) (fun hn=>?_)
 ·have hb:x.base=none:=by simpa using hn
  have hl:l=[]:=by
   cases hl:l with
   | nil=>rfl
   | cons v r =>
    obtain ⟨a,cs,ha,_⟩:=hx.get (j:=0) (by rw [hl]; simp)
    rw [hb] at ha; cases ha
  subst hl
  exact KG (H _ _ _ (Ext.refl _) (VGw.nil _ _ _))
 ·refine ⟨zRow (#[.int .i64 0,.int .i64 0,.string ByteArray.empty,.slice none 0 0]:Array Value) 0,rfl,KAf ?_⟩
  have e1:=Ext.push h (.cells (zRow (#[.int .i64 0,.int .i64 0,.string ByteArray.empty,.slice none 0 0]:Array Value) 0) KB)
  have g1:(h.push (.cells (zRow (#[.int .i64 0,.int .i64 0,.string ByteArray.empty,.slice none 0 0]:Array Value) 0) KB))[h.size]?=some (.cells (zRow (#[.int .i64 0,.int .i64 0,.string ByteArray.empty,.slice none 0 0]:Array Value) 0) KB (0,0)):=Ko
  have hs1:(h.push (.cells (zRow (#[.int .i64 0,.int .i64 0,.string ByteArray.empty,.slice none 0 0]:Array Value) 0) KB)).size=h.size+1:=by simp
  generalize h.push (.cells (zRow (#[.int .i64 0,.int .i64 0,.string ByteArray.empty,.slice none 0 0]:Array Value) 0) KB)=h1 at e1 g1 hs1 ⊢
  obtain ⟨css,w4,hcl,hrep,hrd⟩:=hx.css
  have G1:VGw h.size S h1 ⟨some ⟨h.size,0,none⟩,0,0⟩ [] []:=⟨.inr ⟨h.size,_,_,rfl,Nat.le_refl _,g1,NY _ _,Nat.le_refl _,rfl,fun j v hj=>(by cases hj)⟩,fun c hc=>(by cases hc),rfl,fun j h1=>(by cases h1)⟩
  refine KJ (KBm (l':=l) (css':=css) G1 e1.size (fun b hb=>⟨by have:=hS b hb; omega,fun ⟨a,ha,hab⟩=>by cases ha; have:h.size=b:=hab; have:=hS b hb; omega⟩) w4 hcl hx.len (e1.reads hrd) (fun j h1' h2=>(hrep j h1' h2).same (fun b hb=>e1.same b (hS b hb))) (by simp; omega) (fun h2 r G2 hs same on_=>KG (H h2 r css ?_ (by simpa using G2))))
  exact ⟨Nat.le_trans e1.size hs,fun i hi=>(same i (Nat.lt_of_lt_of_le hi e1.size) (fun ⟨a,ha,hab⟩=>by cases ha; have:h.size=i:=hab; omega)).trans (e1.same i hi)⟩
theorem KH8 {h:Heap} {b:Nat} {k n:Int} {s:List UInt8} {x y:Sl} {t:TypeId} (hb:h[b]?=some (.cells (Jv k n s x) t (0,0))):(hset h ⟨b,3,none⟩ y.v)[b]?=some (.cells (Jv k n s y) t (0,0)):=by
 rw [V5 hb]; rfl
theorem KGU:∀ (m:Nat) (v:Vl) {h:Heap} {Q:Array Value→Heap→Prop} {x:Array Value},sizeOf v < m→VRep h v x→wt v≤1099511627776→(∀ h' c,Ext h h'→ZK (h.size≤·) h' v c→Q c h')→(Xc x).wp h Q:=by
 intro m
 induction m with
 | zero=>intro v h Q x hm; omega
 | succ m ih =>
  rintro ⟨k,n,s,l⟩ h Q x hm hx hw H
  obtain ⟨xs,rfl,k1,n1,s1,r1⟩:=VRep.eq.1 hx
  rw [wt] at hw
  have hcnt:=Ns l
  unfold Xc
  refine ZW (fun h1 e1 z1 g1=>ZW (fun h2 e2 z2 g2=>?_))
  have E2:=e1.trans e2
  have g1':=e2.blk g1
  have c3:KN h2 ((⟨h.size,0,none⟩:Addr).add 3)=some xs.v:=by rw [Kt g1']; rfl
  have rS:VsRepS (· < h.size) h2 xs l:=r1.lt.same (fun b hb=>E2.same b hb) (fun _ h=>h)
  refine Jp c3 (KJ (KGT rS (fun b hb=>Nat.lt_of_lt_of_le hb E2.size) (by omega) (fun h3 y css e3 G3=>?_)))
  have g1'':=e3.blk g1'
  have g2'':=e3.blk g2
  refine Vj (x:=xs.v) (e3.cell c3) (by rw [Kg,KV g1'']) (KAg _) ?_
  rw [Kg,Nat.zero_add]
  have u4:=Upd.hset h3 h.size 3 y.v
  have g4:=KH8 (y:=y) g1''
  generalize hset h3 ⟨h.size,3,none⟩ y.v=h4 at u4 g4 ⊢
  have yon:∀ b,Sl.on y b→h2.size≤b∧b < h3.size:=fun b hb=>⟨(G3.gw.lt hb).2,(G3.gw.lt hb).1⟩
  have hs1:h1.size=h.size+1:=z1
  have hs2:h2.size=h1.size+1:=z2
  have hs3:=e3.size
  have E4:Ext h h4:=(E2.trans e3).upd u4 (Nat.le_refl _)
  have g24:h4[h1.size]?=_:=(u4.ne _ (by omega)).trans g2''
  have cy:∀ {hh:Heap},hh[h.size]?=some (.cells (Jv k n s y) KB (0,0))→KN hh ((⟨h.size,0,none⟩:Addr).add 3)=some y.v:=fun hb=>by rw [Kt hb]; rfl
  refine Jp (cy g4) ?_
  have hyl:y.len=l.length:=by rw [G3.gw.len4 G3.w4,G3.len]
  rw [hyl]
  refine M.loop_inv (fun (t:Int) hh=>∃ (i:Nat) (css:List (Array Value)),t=(i:Int)∧i≤l.length∧Gw h2.size hh y 4 (Zx css)∧W4 css∧css.length=l.length∧(∀ j (j1:j < l.length) (j2:j < css.length),j < i→ZK (h3.size≤·) hh l[j] css[j])∧(∀ j (j1:j < l.length) (j2:j < css.length),i≤j→ZK (· < h.size) hh l[j] css[j])∧Ext h hh∧h3.size≤hh.size∧hh[h.size]?=some (.cells (Jv k n s y) KB (0,0))∧hh[h1.size]?=h4[h1.size]?) (fun t _=>((l.length:Int) - t).toNat) ?_
   ⟨0,css,rfl,Nat.zero_le _,G3.gw.same (fun b hb=>u4.ne b (by have:=(yon b hb).1; omega)),G3.w4,G3.len,fun j j1 j2 h0=>by omega,fun j j1 j2 _=>(G3.rep j j1 j2).same (fun b hb=>u4.ne b (by omega)),E4,by rw [u4.size]; exact Nat.le_refl _,g4,rfl⟩
  rintro t hh ⟨i,css,rfl,hi,G,w4,hcl,hnew,hold,E,hsz,gb,gz⟩ self hself
  unfold GC
  refine Kc (fun hc=>?_) (fun hc=>?_)
  ·have hlt:i < l.length:=by have:=of_decide_eq_true hc; omega
   have hlc:i < css.length:=by omega
   refine Jp (cy gb) (Jp (cy gb) ?_)
   obtain ⟨b,hb,hon,hrow⟩:=G.row4 w4 hlc
   have hv:=hold i hlt hlc (Nat.le_refl _)
   have hi4:(i:Int).toNat * 4=i * 4:=by omega
   refine Xl (by omega) (by omega) hb (UW hv.size (fun j hj=>by rw [Addr.add_add,hi4]; exact hrow j hj) ?_)
   have hwi:=zH (List.getElem_mem hlt)
   refine KJ (NR (KAJ _) (ih l[i] (KJP hm hlt) hv.to (by omega) (fun h5 c e5 hc5=>?_)))
   have hcell5:∀ j,j < 4→KN h5 (((⟨b,0,none⟩:Addr).add ((i:Int).toNat * 4)).add j)=css[i][j]?:=fun j hj=>by
    rw [Addr.add_add,hi4]
    have h6:=hrow j hj
    have h7:css[i][j]?=some (css[i][j]'(by rw [hv.size]; exact hj)):=Array.getElem?_eq_getElem _
    rw [h7] at h6 ⊢
    exact e5.cell h6
   have G5:=G.ext e5
   refine KCy ⟨e5.cell (cy gb),e5.cell (cy gb),hv.size,hcell5⟩ ?_
   refine KHH G5 w4 hlc rfl hc5.size hc5.to.one (fun b' h6 hb' u6 G6=>?_)
   rw [hb] at hb'; cases hb'
   have hbl:=yon b hon
   have hcs:∀ j (j1:j < (css.set i c).length) (j2:j < css.length),i≠j→(css.set i c)[j]=css[j]:=fun j j1 j2 hne=>List.getElem_set_ne hne _
   have hs5:=e5.size
   rw [w64 (by omega) (by omega)]
   refine hself _ _ ⟨i+1,css.set i c,by simp,by omega,G6,w4.set hc5.size hc5.to.one,by rw [List.length_set]; exact hcl,fun j j1 j2 hj=>?_,fun j j1 j2 hj=>?_,(E.trans e5).upd u6 (by omega),by rw [u6.size]; omega,?_,?_⟩ (by omega)
   ·by_cases hji:i=j
    ·subst hji
     rw [List.getElem_set_self]
     exact (hc5.same (fun b1 hb1=>u6.ne b1 (by omega))).mono (fun b1 hb1=>by omega)
    ·rw [hcs j j2 (by rw [hcl]; exact j1) hji]
     have:=hnew j j1 (by rw [hcl]; exact j1) (by omega)
     exact (this.lt2.same (fun b1 hb1=>(u6.ne b1 (by omega)).trans (e5.same b1 hb1.2))).mono (fun b1 hb1=>hb1.1)
   ·rw [hcs j j2 (by rw [hcl]; exact j1) (by omega)]
    exact (hold j j1 (by rw [hcl]; exact j1) (by omega)).same (fun b1 hb1=>(u6.ne b1 (by omega)).trans (e5.same b1 (by have:=E.size; omega)))
   ·rw [u6.ne _ (by omega)]; exact e5.blk gb
   ·rw [u6.ne _ (by omega),← gz]
    exact e5.same _ (by omega)
  ·have hge:i=l.length:=by have:=of_decide_eq_false hc; omega
   subst hge
   refine UW (cs:=Jv k n s y) rfl (fun j hj=>by rw [Kt gb]) (JA rfl ?_)
   rw [g24] at gz
   refine stR (vs:=Jv k n s y) (off:=0) gz (Nat.le_refl 4) (UV k n s y) (fun h7 u7 g7=>?_)
   rw [ZD (by rfl),Array.toArray_toList] at g7
   refine UW (cs:=Jv k n s y) rfl (fun j hj=>by rw [Kt g7]) (KG (H _ _ (E.upd u7 (by omega)) ?_))
   have hG:VGw h2.size (h3.size≤·) h7 y css l:=⟨G.same (fun b hb=>u7.ne b (by have:=(yon b hb).1; omega)),w4,hcl,fun j j1 j2=>(hnew j j1 j2 j1).same (fun b hb=>u7.ne b (by omega))⟩
   exact ZK.eq.2 ⟨y,rfl,k1,n1,s1,(hG.rep_ (by omega)).same (fun _ _=>rfl) (fun b hb=>hb.elim (fun hb=>by omega) (fun hb=>by have:=(yon b hb).1; omega))⟩
def getV (key:Vl):List Vl→Option Vl
 | []=>none
 | [_]=>none
 | a::b::r=>if cmpV a key=0 then some b else getV key r
def getM (m key:Vl):Option Vl:=if m.k=5 then getV key m.l else none
theorem KJS {k n:Int} {s:List UInt8} {l:List Vl} {key:Vl} (h:¬ k=5):getM (.mk k n s l) key=none:=if_neg h
theorem KJT {k n:Int} {s:List UInt8} {l:List Vl} {key:Vl} (h:k=5):getM (.mk k n s l) key=getV key l:=if_pos h
def vl0:Vl:=.mk 0 0 [] []
theorem zI (S:Nat→Prop) (h:Heap):ZK S h vl0 (#[.int .i64 0,.int .i64 0,.string ByteArray.empty,.slice none 0 0]:Array Value) :=
 ZK.eq.2 ⟨Sl.nil,rfl,⟨by decide,by decide⟩,⟨by decide,by decide⟩,by decide,rfl,Nat.le_refl _,by decide,by rw [Vr]; trivial⟩
def optV (o:Option Vl):Vl:=o.getD vl0
theorem KJU {key:Vl} {l:List Vl} {i:Nat} (hi:i+1 < l.length):getV key (l.drop i)=if cmpV (l[i]'(by omega)) key=0 then some l[i+1] else getV key (l.drop (i+2)):=by
 rw [List.drop_eq_getElem_cons (show i < l.length by omega),List.drop_eq_getElem_cons hi,getV]
theorem KK9 {key:Vl} {l:List Vl} {i:Nat} (hi:l.length≤i+1):getV key (l.drop i)=none:=by
 have:(l.drop i).length≤1:=by rw [List.length_drop]; omega
 match h:l.drop i with
 | []=>rfl
 | [_]=>rfl
 | _::_::_=>rw [h] at this; simp at this
theorem KJV {m key:Vl} {h:Heap} {Q:Array Value × Bool→Heap→Prop} {x y:Array Value} (hx:VRep h m x) (hy:VRep h key y) (hw:wt m≤1099511627776) (H:∀ h' c,Ext h h'→VRep h' (optV (getM m key)) c→Q (c,(getM m key).isSome) h'):(No x y).wp h Q:=by
 obtain ⟨k,n,s,l⟩:=m
 obtain ⟨xs,rfl,k1,n1,s1,r1⟩:=VRep.eq.1 hx
 unfold No
 refine ZW (fun h1 e1 z1 g1=>ZW (fun h2 e2 z2 g2=>ZW (fun h3 e3 z3 g3=>?_)))
 have E:=(e1.trans e2).trans e3
 have g1':=(e2.trans e3).blk g1
 have g2':=e3.blk g2
 have c0:KN h3 ((⟨h.size,0,none⟩:Addr).add 0)=some (.int .i64 k):=by rw [Kt g1']; rfl
 have c3:KN h3 ((⟨h.size,0,none⟩:Addr).add 3)=some xs.v:=by rw [Kt g1']; rfl
 have hlast:∀ {hh:Heap} {c:Array Value} {b:Bool} {v:Vl},Ext h3 hh→ZK (·≠h2.size) hh v c→v=optV (getM (.mk k n s l) key)→b=(getM (.mk k n s l) key).isSome→(M.need (c.size=4)>>=fun _=>stG ⟨h2.size,0,none⟩ c>>=fun _=>ldG 4 ⟨h2.size,0,none⟩>>=fun r=>M.pure (r,b)).wp hh Q:=fun {hh c b v} e4 hc hv hb=>by
  subst hv; subst hb
  refine JA hc.size (stR (vs:=c) (e4.blk g3) (by rw [hc.size]; decide) hc.to.one (fun h5 u5 g5=>?_))
  rw [ZD (by rw [Array.length_toList,hc.size]; rfl),Array.toArray_toList] at g5
  have E5:Ext h h5:=(E.trans e4).upd u5 (by have:=(e1.trans e2).size; omega)
  exact ldR g5 hc.size (KG (H _ _ E5 (hc.same (fun b hb=>u5.ne b hb)).to))
 refine Jc c0 (Kc (fun hk=>?_) (fun hk=>?_))
 ·have hk:¬ k=5:=by simpa using hk
  exact hlast (Ext.refl _) (zI _ _) (by rw [KJS hk]; rfl) (by rw [KJS hk]; rfl)
 have hk:k=5:=by simpa using hk
 have hM:getM (.mk k n s l) key=getV key l:=KJT hk
 rw [hM] at hlast
 rw [wt] at hw
 have hcnt:=Ns l
 have hxl:=r1.len
 refine M.loop_inv (fun (t:Int) hh=>Ext h3 hh∧∃ i:Nat,t=(i:Int)∧i≤l.length+1∧getV key (l.drop i)=getV key l) (fun t _=>((l.length:Int)+1 - t).toNat) ?_ ⟨Ext.refl _,0,rfl,Nat.zero_le _,rfl⟩
 rintro t hh ⟨e4,i,rfl,hi,hd⟩ self hself
 unfold Nn
 have cc:=e4.cell c3
 refine Jp cc ?_
 rw [hxl]
 have hw1:IntKind.wrap .i64 ((i:Int)+1)=((i+1:Nat):Int):=by rw [w64 (by omega) (by omega)]; simp
 rw [hw1]
 refine Kc (fun hc=>?_) (fun hc=>?_)
 ·have hlt:i+1 < l.length:=by have:=of_decide_eq_true hc; omega
  rw [KJU hlt] at hd
  have rr:=(r1.ext E).ext e4
  refine Jp cc (KBe rr (i:=i) (by omega) rfl (fun a c hs hcs hv=>UW hs hcs (zE (v:=key) (e4.blk g2') hy.size ?_)))
  refine KJ (KDe hv ((hy.ext E).ext e4) (fun h5 e5=>?_))
  refine Kc (fun hs0=>?_) (fun hs0=>?_)
  ·have hs0:cmpV l[i] key=0:=of_decide_eq_true hs0
   rw [if_pos hs0] at hd
   refine Jp (e5.cell cc) (KBe (rr.ext e5) (i:=i+1) hlt rfl (fun a' c' hs' hcs' hv'=>UW hs' hcs' ?_))
   have:=zH (List.getElem_mem hlt)
   refine KJ (KGU _ l[i+1] (Nat.lt_succ_self _) hv' (by omega) (fun h6 c6 e6 hc6=>?_))
   refine hlast ((e4.trans e5).trans e6) (hc6.mono (fun b hb=>by have:=e3.size; have:=(e4.trans e5).size; omega)) (by rw [← hd]; rfl) (by rw [← hd]; rfl)
  ·have hs0:¬ cmpV l[i] key=0:=of_decide_eq_false hs0
   rw [if_neg hs0] at hd
   rw [w64 (by omega) (by omega)]
   exact hself _ _ ⟨e4.trans e5,i+2,by simp,by omega,hd⟩ (by omega)
 ·have hge:l.length≤i+1:=by have:=of_decide_eq_false hc; omega
  rw [KK9 hge] at hd
  exact hlast e4 (zI _ _) (by rw [← hd]; rfl) (by rw [← hd]; rfl)
end Gx
namespace Go.Proofs.YthelieedlghccaaGreatDoor
open Go Go.RowKit Gx
set_option linter.unusedVariables false
set_option maxRecDepth 100000
theorem c24:Tryz.prog.cellsOf 24=4:=by kernel_rfl
theorem c3:Tryz.prog.cellsOf 3=1:=by kernel_rfl
theorem c2:Tryz.prog.cellsOf 2=1:=by kernel_rfl
theorem c9:Tryz.prog.cellsOf 9=1:=by kernel_rfl
theorem c22:Tryz.prog.cellsOf 22=1:=by kernel_rfl
theorem KHI {H:Type}:∀ (l:List Vl) (es:List (DataW H)),l.length=es.length→(∀ i (h1:i < l.length) (h2:i < es.length),wt l[i]≤Rows.uptoBulk es[i])→wt.wts l≤Rows.uptoBulkAll es
 | [],[],_,_=>by simp [wt.wts]
 | [],_::_,h,_=>by simp at h
 | _::_,[],h,_=>by simp at h
 | v::l,d::es,h,hk=>by
  have h0:=hk 0 (by simp) (by simp)
  have:=KHI l es (by simpa using h) (fun i h1 h2=>by
   have:=hk (i+1) (by simpa using h1) (by simpa using h2)
   simpa using this)
  simp only [List.getElem_cons_zero] at h0
  rw [wt.wts]
  simp only [Rows.uptoBulkAll]
  omega
section
variable {H:Type} {enc:TypeId × Value→H}
theorem KEb {W:World} {t:TypeId} {n:Nat} {c:Value} {x:DataW H × List MemPlace} {sp:Nat→Bool} {held:Bool} {base:Nat} (ht:Tryz.prog.underlying t=some (.int .i64)) (h:DataW.trod enc Tryz.prog W base sp held n t [c]=some x):∃ z,c=.int .i64 z∧I64 z∧Rows.uptoBulk x.1=1:=by
 cases n with
 | zero=>simp [DataW.trod] at h
 | succ n =>
  unfold DataW.trod at h
  rw [ht] at h
  cases c with
  | int k z =>
   simp only at h
   split at h
   ·rename_i hk
    obtain ⟨rfl,hw⟩:=hk
    cases h
    refine ⟨z,rfl,?_,by simp [Rows.uptoBulk]⟩
    have:-9223372036854775808≤z∧z≤9223372036854775807:=by simpa [Lit.wf,IntKind.min,IntKind.max,IntKind.signed,IntKind.bits] using hw
    exact this
   ·cases h
  | _=>simp at h
theorem KHJ {W:World} {t:TypeId} {n:Nat} {c:Value} {x:DataW H × List MemPlace} {sp:Nat→Bool} {held:Bool} {base:Nat} (ht:Tryz.prog.underlying t=some .string) (h:DataW.trod enc Tryz.prog W base sp held n t [c]=some x):∃ s:ByteArray,c=.string s∧s.size≤maxLen∧Rows.uptoBulk x.1=s.data.toList.length+1:=by
 cases n with
 | zero=>simp [DataW.trod] at h
 | succ n =>
  unfold DataW.trod at h
  rw [ht] at h
  cases c with
  | string s =>
   simp only at h
   split at h
   ·rename_i hk
    cases h
    exact ⟨s,rfl,hk,by simp [Rows.uptoBulk]⟩
   ·cases h
  | _=>simp at h
theorem KFX {W:World} {sp:Nat→Bool} {held:Bool} {base:Nat}:∀ (m:Nat),
  (∀ (cs:List Value) (x:DataW H × List MemPlace),DataW.trod enc Tryz.prog W base sp held m 24 cs=some x→∃ v,VRep W.heap v cs.toArray∧wt v≤Rows.uptoBulk x.1) ∧
  (∀ (v:Value) (x:DataW H × List MemPlace),DataW.trod enc Tryz.prog W base sp held m 22 [v]=some x→∃ (s:Sl) (l:List Vl),v=s.v∧VsRep W.heap s l∧wt.wts l+1≤Rows.uptoBulk x.1):=by
 intro m
 induction m with
 | zero=>exact ⟨fun cs x h=>by simp [DataW.trod] at h,fun v x h=>by simp [DataW.trod] at h⟩
 | succ m ih =>
  refine ⟨fun cs x h=>?_,fun v x h=>?_⟩
  ·obtain ⟨xs,n,hn,hx,hcl,hxl,hf⟩:=DataW.trod_struct Tryz.underlying24 h
   obtain rfl:m=n:=by omega
   rw [c24] at hcl
   have hxl:xs.length=4:=hxl
   match cs,hcl with
   | [a0,a1,a2,a3],_ =>
   match xs,hxl with
   | [y0,y1,y2,y3],_ =>
   have f0:DataW.trod enc Tryz.prog W base sp held m 3 (([a0,a1,a2,a3].drop 0).take (Tryz.prog.cellsOf 3))=some y0:=hf 0 _ rfl
   have f1:DataW.trod enc Tryz.prog W base sp held m 2 (([a0,a1,a2,a3].drop 1).take (Tryz.prog.cellsOf 2))=some y1:=hf 1 _ rfl
   have f2:DataW.trod enc Tryz.prog W base sp held m 9 (([a0,a1,a2,a3].drop 2).take (Tryz.prog.cellsOf 9))=some y2:=hf 2 _ rfl
   have f3:DataW.trod enc Tryz.prog W base sp held m 22 (([a0,a1,a2,a3].drop 3).take (Tryz.prog.cellsOf 22))=some y3:=hf 3 _ rfl
   rw [c3] at f0
   rw [c2] at f1
   rw [c9] at f2
   rw [c22] at f3
   obtain ⟨k,rfl,hk,b0⟩:=KEb Tryz.underlying3 f0
   obtain ⟨nn,rfl,hnn,b1⟩:=KEb Tryz.underlying2 f1
   obtain ⟨s,rfl,hs,b2⟩:=KHJ Tryz.underlying9 f2
   obtain ⟨sl,l,rfl,hl,b3⟩:=ih.2 _ _ f3
   have hsb:bs s.data.toList=s:=by simp [bs]
   refine ⟨.mk k nn s.data.toList l,VRep.eq.2 ⟨sl,by unfold Jv; rw [hsb],hk,hnn,?_,hl⟩,?_⟩
   ·have:s.data.toList.length=s.size:=Array.length_toList
    rw [this]; unfold maxLen at hs; omega
   ·rw [wt,hx]
    simp only [List.map_cons,List.map_nil,Rows.uptoBulk,Rows.uptoBulkAll]
    omega
  ·rcases DataW.trod_slice Tryz.underlying22 h with ⟨h0,hx⟩ | ⟨a,len,cap,elems,rest,n,hn,h1,hx,_,hle,hm,hlen,hel,_,_⟩
   ·cases h0
    refine ⟨Sl.nil,[],rfl,VsRep.nil _,?_⟩
    rw [hx]; simp [wt.wts,Rows.uptoBulk]
   ·cases h1
    obtain rfl:m=n:=by omega
    rw [c24] at hel
    have key:∀ i,i < len→∃ (v:Vl) (cs:Array Value),cs.size=4∧(∀ j,j < 4→KN W.heap (a.add (i * 4+j))=cs[j]?)∧VRep W.heap v cs∧∀ (h:i < elems.length),wt v≤Rows.uptoBulk (elems[i]).1:=fun i hi=>by
     have h2:=hel i hi
     rw [List.getElem?_eq_getElem (by omega),Option.bind_eq_some_iff] at h2
     obtain ⟨cs,hcs,ht⟩:=h2
     obtain ⟨_,hl1,hc⟩:=World.cells?_some hcs
     obtain ⟨v,hv,hw⟩:=ih.1 _ _ ht
     refine ⟨v,cs.toArray,by simpa using hl1,fun j hj=>?_,hv,fun _=>hw⟩
     have:=hc j hj
     rw [Addr.add_add] at this
     rw [KBH] at this
     rw [this]; simp
    let l:=List.ofFn (fun i:Fin len=>Classical.choose (key i i.2))
    have hL:l.length=len:=by simp [l]
    have hget:∀ i (h:i < l.length),∃ cs:Array Value,cs.size=4∧(∀ j,j < 4→KN W.heap (a.add (i * 4+j))=cs[j]?)∧VRep W.heap l[i] cs∧∀ (h:i < elems.length),wt l[i]≤Rows.uptoBulk (elems[i]).1:=fun i h=>by
     have:=Classical.choose_spec (key i (by omega))
     simpa [l] using this
    have hmx:len≤9223372036854775807:=by unfold maxLen at hm; omega
    refine ⟨⟨some a,len,cap⟩,l,rfl,⟨hL.symm,hle,hmx,VsAt.of (fun j hj=>?_)⟩,?_⟩
    ·obtain ⟨cs,h1,h2,h3,_⟩:=hget j hj
     exact ⟨a,cs,rfl,h1,fun i hi=>by rw [Nat.zero_add]; exact h2 i hi,h3⟩
    ·rw [hx]
     have:=KHI l (elems.map (·.1)) (by rw [hL,List.length_map,hlen]) (fun i h1 h2=>by
      obtain ⟨_,_,_,_,h4⟩:=hget i h1
      rw [List.getElem_map]
      exact h4 (by simpa using h2))
     simp only [Rows.uptoBulk]
     omega
end
end Go.Proofs.YthelieedlghccaaGreatDoor
namespace Gx
open Go Go.Proofs Go.Shelf Go.RowKit Go.Lib
set_option linter.unusedVariables false
set_option linter.unusedSimpArgs false
set_option maxRecDepth 100000
theorem KM9 {s:List UInt8} {a b:Nat}:(bs s).extract a b=bs ((s.drop a).take (b - a)):=by
 apply ByteArray.ext
 simp [bs,ByteArray.extract,ByteArray.copySlice]
theorem KH9 (l:List UInt8):Z3 (bs l)=l.map bv:=rfl
theorem KMA {β:Type} {h:Heap} {Q:β→Heap→Prop} {s:List UInt8} {a b:Nat} {lo hi:Int} {f:ByteArray→M β} (hl:lo=(a:Int)) (hh:hi=(b:Int)) (h1:a≤b) (h2:b≤s.length) (H:(f (bs ((s.drop a).take (b - a)))).wp h Q):(slS (bs s) lo hi>>=f).wp h Q:=by
 subst hl; subst hh
 refine ⟨_,⟨by omega,by omega,by rw [JD]; omega,rfl⟩,?_⟩
 rw [Int.toNat_natCast,Int.toNat_natCast,KM9]
 exact H
theorem KDO {h:Heap} {Q:Bool→Heap→Prop} {x:Sl} {l:List UInt8} {g:Value} {p:UInt8→Bool} (hx:Bys h x l) (hl:l.length≤4611686018427387904)
  (hg:∀ (c:UInt8) (Q1:Bool→Heap→Prop),Q1 (p c) h→(VD Go.Proofs.Tryz.prog (fun r:Bool=>.bool r) g [.int .u8 (c.toNat:Int)]).wp h Q1)
  (H:Q (l.any p) h):(ZI x g).wp h Q:=by
 unfold ZI Zt
 have hxl:=hx.len
 refine KJ (M.loop_inv (fun (t:Int) h'=>h'=h∧∃ i:Nat,t=(i:Int)∧i≤l.length∧(l.drop i).any p=l.any p) (fun t _=>((l.length:Int) - t).toNat) ?_ ⟨rfl,0,rfl,Nat.zero_le _,by simp⟩)
 rintro t h' ⟨rfl,i,rfl,hi,hd⟩ self hself
 unfold JJ
 refine Kc (fun hc=>?_) (fun hc=>?_)
 ·have hlt:i < l.length:=by have:=of_decide_eq_true hc; omega
  rw [List.drop_eq_getElem_cons hlt,List.any_cons] at hd
  obtain ⟨b,hb,KN⟩:=hx.get hlt
  refine Xl (by omega) (by omega) hb (Jc (n:=(l[i].toNat:Int)) ?_ (KJ (hg l[i] _ ?_)))
  ·rw [show (i:Int).toNat * 1=i by omega]; exact KN
  refine Kc (fun ht=>KG (KG ?_)) (fun hf=>?_)
  ·rw [ht] at hd
   rw [show decide ((i:Int) ≥ 0)=l.any p by rw [← hd]; simp]
   exact H
  ·rw [hf,Bool.false_or] at hd
   rw [w64 (by omega) (by omega)]
   exact hself _ _ ⟨rfl,i+1,by simp,by omega,hd⟩ (by omega)
 ·have hge:i=l.length:=by have:=of_decide_eq_false hc; omega
  subst hge
  rw [List.drop_length] at hd
  refine KG (KG ?_)
  rw [show decide ((-1:Int) ≥ 0)=l.any p by rw [← hd]; rfl]
  exact H
def digB (c:UInt8):Bool:=decide (48≤c.toNat) && decide (c.toNat≤57)
theorem KIA {c:UInt8} {h:Heap} {Q:Bool→Heap→Prop} (H:Q (!digB c) h):(zB (c.toNat:Int)).wp h Q:=by
 unfold zB
 refine or_b (c:=decide ((c.toNat:Int) > 57)) (fun _ Q' hq=>KG hq) (KG ?_)
 rw [show (decide ((c.toNat:Int) < 48) || decide ((c.toNat:Int) > 57))=!digB c by
  unfold digB
  by_cases h1:c.toNat < 48
  ·simp [show ((c.toNat:Int) < 48) by omega,show ¬ 48≤c.toNat by omega]
  ·by_cases h2:c.toNat > 57
   ·simp [show ((c.toNat:Int) > 57) by omega,show ¬ c.toNat≤57 by omega]
   ·simp [show ¬ ((c.toNat:Int) < 48) by omega,show ¬ ((c.toNat:Int) > 57) by omega,show 48≤c.toNat by omega,show c.toNat≤57 by omega]]
 exact H
def ErrV (h:Heap):Prop:=∃ t p,KN h ⟨5,0,none⟩=some (.iface t p)
theorem ErrV.ext {h h':Heap} (H:ErrV h) (e:Ext h h'):ErrV h':=by obtain ⟨t,p,hc⟩:=H; exact ⟨t,p,e.cell hc⟩
theorem KIB {t:List UInt8} {h:Heap} {Q:ByteArray→Heap→Prop} (ht:t.length≤281474976710656) (H:∀ h',Ext h h'→Q (bs t) h'):(Zc (bs t)).wp h Q:=by
 unfold Zc
 rw [JD]
 refine Kc (fun h0=>?_) (fun h0=>?_)
 ·have:t=[]:=by have:=eq_of_beq h0; exact List.length_eq_zero_iff.1 (by omega)
  subst this
  exact KG (H _ (Ext.refl _))
 ·have hne:t≠[]:=fun e=>by subst e; exact absurd h0 (by decide)
  have hpos:0 < t.length:=List.length_pos_iff.2 hne
  refine ⟨by omega,by omega,by omega,by omega,?_⟩
  rw [Int.toNat_natCast,Nat.mul_one]
  have e1:=Ext.push h (.cells (zRow #[.int .u8 0] t.length) K9)
  have g1:(h.push (.cells (zRow #[.int .u8 0] t.length) K9))[h.size]?=some (.cells (zRow #[.int .u8 0] t.length) K9 (0,0)):=Ko
  have s1:(h.push (.cells (zRow #[.int .u8 0] t.length) K9)).size=h.size+1:=Array.size_push _
  generalize h.push (.cells (zRow #[.int .u8 0] t.length) K9)=h1 at e1 g1 s1 ⊢
  have hz:(zRow #[.int .u8 0] t.length).size=t.length:=NY _ _
  refine ⟨by rw [JD]; exact Nat.le_refl _,?_,?_⟩
  ·intro a ha j hj
   cases ha
   rw [JD] at hj
   rw [Kg,Nat.zero_add]
   refine ⟨⟨(zRow #[.int .u8 0] t.length)[j]'(by omega),?_⟩,KV g1⟩
   rw [KS g1]; exact Array.getElem?_eq_getElem (by omega)
  show M.wp _ (hsetL h1 ((⟨h.size,0,none⟩:Addr).add 0) (Z3 (bs t)) 0) Q
  rw [Kg,Nat.zero_add]
  have g2:=N0 (o:=0) (Z3 (bs t)) h1 0 _ g1
  have e2:Ext h (hsetL h1 ⟨h.size,0,none⟩ (Z3 (bs t)) 0):=e1.hsetL (Nat.le_refl _)
  have s2:=XI (a:=⟨h.size,0,none⟩) (Z3 (bs t)) h1 0
  have hlen:(Z3 (bs t)).length=(zRow #[.int .u8 0] t.length).size:=by rw [hz]; simp [Z3,bs]
  rw [Nat.add_zero,ZD hlen] at g2
  generalize hsetL h1 ⟨h.size,0,none⟩ (Z3 (bs t)) 0=h2 at g2 e2 s2 ⊢
  refine Xl (b:=⟨h.size,0,none⟩) (by decide) (by show (0:Int) < ((t.length:Nat):Int); omega) rfl (.inr ⟨h.size,_,_,t,?_,rfl,hne,?_,by omega,g2,?_,?_⟩)
  ·rw [Kg]; rfl
  ·rw [List.size_toArray,hlen,hz]; exact Nat.le_refl _
  ·intro j x hx
   rw [List.getElem?_toArray]
   simp [Z3,bs,hx]
  ·intro h3 hs3 same3
   refine KG (H _ ⟨by have:=e2.size; omega,fun i hi=>?_⟩)
   rw [same3 i (by omega)]
   exact e2.same i hi
theorem KEc {fn t:List UInt8} {h:Heap} {Q:Option Addr→Heap→Prop} (ht:t.length≤281474976710656) (hv:ErrV h) (H:∀ h' a,Ext h h'→Q (some a) h'):(UD (bs fn) (bs t)).wp h Q:=by
 obtain ⟨ty,p,hc⟩:=hv
 unfold UD
 refine ⟨_,hc,KJ (KIB ht (fun h1 e1=>KCy (e1.cell hc) ?_))⟩
 refine ⟨_,rfl,KMo (KG (H _ _ (e1.pushed _)))⟩
theorem KIC {fn t:List UInt8} {h:Heap} {Q:Value→Heap→Prop} (ht:t.length≤281474976710656) (hv:ErrV h) (H:∀ h' u x,Ext h h'→Q (.iface u x) h'):(VM (bs fn) (bs t) 10 64 (.iface Kj (.int .i64 1))).wp h Q:=by
 unfold VM
 refine ⟨false,⟨_,_,_,rfl,rfl,rfl⟩,iteF rfl ⟨true,⟨_,_,_,rfl,rfl,rfl⟩,iteT rfl (KJ (KEc ht hv (fun h1 a e1=>KG (H _ _ _ e1))))⟩⟩
def numD (t:List UInt8):List UInt8:=if t.head?=some 45 then t.tail else t
def numP (t:List UInt8):Int × Int :=
 if numD t=[] then (0,10) else if (numD t).all digB=false then (0,10) else if (numD t).head?=some 48∧t≠[48] then (0,10)
 else match Lib.parseIntB 64 t with | .ok n=>(n,0) | _=>(0,7)
def KOV {α:Type}:Lib.NumEnd α→Bool
 | .ok _=>true
 | .range=>true
 | _=>false
theorem KDg (M:Nat):∀ (r:List UInt8) (acc:Nat),r.all digB=true→KOV (parseUintM M acc r)=true
 | [],acc,_=>by rw [parseUintM]; rfl
 | c::r,acc,h=>by
  rw [List.all_cons,Bool.and_eq_true] at h
  have h1:=h.1
  unfold digB at h1
  rw [Bool.and_eq_true,decide_eq_true_iff,decide_eq_true_iff] at h1
  rw [parseUintM,if_pos h1]
  split
  ·rfl
  ·split
   ·rfl
   ·exact KDg M r _ h.2
theorem KNA {c:UInt8}:((c.toNat:Int) == 45)=decide (some c=some (45:UInt8)):=by
 rw [eqI]
 refine decide_eq_decide.2 ⟨fun h=>?_,fun h=>by cases h; rfl⟩
 have:c=45:=UInt8.toNat_inj.1 (by show c.toNat=45; omega)
 rw [this]
theorem KOW {c:UInt8}:((c.toNat:Int) == 48)=decide (some c=some (48:UInt8)):=by
 rw [eqI]
 refine decide_eq_decide.2 ⟨fun h=>?_,fun h=>by cases h; rfl⟩
 have:c=48:=UInt8.toNat_inj.1 (by show c.toNat=48; omega)
 rw [this]
theorem KID {t:List UInt8} (h1:numD t≠[]) (h2:(numD t).all digB=true):KOV (Lib.parseIntB 64 t)=true:=by
 cases t with
 | nil=>exact absurd rfl h1
 | cons c r =>
  have hd:numD (c::r)=(if c.toNat=43∨c.toNat=45 then r else c::r):=by
   unfold numD
   rw [List.head?_cons,List.tail_cons]
   by_cases h45:c=45
   ·subst h45; rfl
   ·have hn:c.toNat≠45:=fun e=>h45 (UInt8.toNat_inj.1 (by rw [e]; rfl))
    rw [if_neg (by simpa using h45)]
    by_cases h43:c.toNat=43
    ·exfalso
     unfold numD at h2
     rw [List.head?_cons,if_neg (by simpa using h45),List.all_cons,Bool.and_eq_true] at h2
     have:=h2.1
     unfold digB at this
     rw [Bool.and_eq_true,decide_eq_true_iff,decide_eq_true_iff] at this
     omega
    ·rw [if_neg (by omega)]
  rw [hd] at h1 h2
  unfold parseIntB
  dsimp only
  unfold parseUintB
  rw [if_neg h1]
  have:=KDg (2 ^ 64 - 1) _ 0 h2
  split
  ·rename_i hh; rw [hh] at this; cases this
  ·rfl
  ·split
   ·rfl
   ·split <;> rfl
theorem KCT {t:List UInt8} {h:Heap} {Q:Int × Int→Heap→Prop} (ht:t.length≤281474976710656) (hv:ErrV h) (H:∀ h',Ext h h'→Q (numP t) h'):(YU (bs t) (bs (numD t))).wp h Q:=by
 have hdl:(numD t).length≤t.length:=by unfold numD; split <;> simp
 have hdl2:t.length≤(numD t).length+1:=by unfold numD; split <;> simp <;> omega
 unfold YU
 refine Jb ?_
 have fin:∀ (b:Bool) (h1:Heap),Ext h h1→b=(decide (numD t=[]) || !(numD t).all digB)→(M.wp (M.ite b (M.pure true) (do
  let Xx11←ixS (bs (numD t)) 0
  let Xx12←M.ite (Xx11 == 48) (do
   M.pure (!(sEq (bs t) (⟨#[48]⟩:ByteArray)))
   ) (do
   M.pure false
   )
  M.pure Xx12
  )>>=fun Xx10=>M.ite Xx10 (do
  M.pure (0,10)
  ) (do
  let Xx15←Uk (bs t) 10 64
  let Xx17←isNI Xx15.2
  let Xx18←N2 Xx15.1 Xx17
  M.pure (Xx18.1,Xx18.2)
  )) h1 Q):=by
  intro b h1 e1 hb
  refine KMn (fun hbt=>?_) (fun hbf=>?_)
  ·refine Jy (iteT rfl (KG ?_))
   have:numP t=(0,10):=by
    unfold numP
    rw [hb,Bool.or_eq_true,decide_eq_true_iff,Bool.not_eq_true'] at hbt
    by_cases h0:numD t=[]
    ·rw [if_pos h0]
    ·rw [if_neg h0,if_pos (hbt.resolve_left h0)]
   rw [← this]
   exact H _ e1
  ·rw [hb,Bool.or_eq_false_iff,decide_eq_false_iff_not,Bool.not_eq_false'] at hbf
   obtain ⟨hd0,hda⟩:=hbf
   have hpos:0 < (numD t).length:=List.length_pos_iff.2 hd0
   refine KDM (i:=0) rfl hpos ?_
   have hhead:(numD t).head?=some ((numD t)[0]'hpos):=by rw [List.head?_eq_getElem?]; exact List.getElem?_eq_getElem hpos
   refine Jb (Nr (c:=decide (t≠[48])) (fun _ Q' hq=>KG ?_) (Jy ?_))
   ·rw [show (⟨#[48]⟩:ByteArray)=bs [48] from rfl,KBR]
    rw [show (!decide (t=[48]))=decide (t≠[48]) by simp]
    exact hq
   rw [KOW]
   have hnp:∀ X,numP t=(if (numD t).head?=some 48∧t≠[48] then (0,10) else X)↔numP t=(if (numD t).head?=some 48∧t≠[48] then (0,10) else X):=fun _=>Iff.rfl
   refine Kc (fun hz=>KG ?_) (fun hz=>?_)
   ·rw [Bool.and_eq_true,decide_eq_true_iff,decide_eq_true_iff,← hhead] at hz
    have:numP t=(0,10):=by
     unfold numP
     rw [if_neg hd0,if_neg (by rw [hda]; decide),if_pos hz]
    rw [← this]
    exact H _ e1
   ·have hz':¬ ((numD t).head?=some 48∧t≠[48]):=fun hh=>by
     rw [hhead] at hh
     rw [decide_eq_true hh.1,decide_eq_true hh.2] at hz
     cases hz
    have hres:numP t=(match Lib.parseIntB 64 t with | .ok n=>(n,0) | _=>(0,7)):=by
     unfold numP
     rw [if_neg hd0,if_neg (by rw [hda]; decide),if_neg hz']
    have hns:=KID hd0 hda
    refine KJ ?_
    unfold Uk
    refine KJ ⟨rfl,rfl,by rw [JD]; omega,fun h2 s2 same2=>?_⟩
    have e2:Ext h h2:=e1.trans ⟨s2,same2⟩
    rw [show (bs t).data.toList=t from rfl]
    cases hp:Lib.parseIntB 64 t with
    | ok n =>
     rw [hp] at hres
     refine ⟨true,.inl ⟨rfl,rfl⟩,iteF rfl (KG ⟨true,.inl ⟨rfl,rfl⟩,KJ ?_⟩)⟩
     unfold N2
     refine iteF rfl (KG (KG ?_))
     show Q (n,0) h2
     rw [show (n,(0:Int))=numP t from hres.symm]
     exact H _ e2
    | range =>
     rw [hp] at hres
     refine ⟨false,.inr ⟨⟨_,_,rfl⟩,rfl⟩,iteT rfl (KJ (KIC (fn:=[80,97,114,115,101,73,110,116]) ht (hv.ext e2) (fun h3 u x e3=>KG ⟨false,.inr ⟨⟨_,_,rfl⟩,rfl⟩,KJ ?_⟩)))⟩
     unfold N2
     refine iteT rfl (KG (KG ?_))
     show Q (0,7) h3
     rw [show ((0:Int),(7:Int))=numP t from hres.symm]
     exact H _ (e2.trans e3)
    | _=>rw [hp] at hns; cases hns
 refine KMn (fun h0=>Jy ?_) (fun h0=>?_)
 ·rw [sEq0] at h0
  exact fin _ _ (Ext.refl _) (by rw [h0]; rfl)
 ·rw [sEq0] at h0
  refine fun cap hcap mk hmk=>?_
  refine KJ (KDO (l:=numD t) (p:=fun c=>!digB c) ⟨?_,.inr ⟨_,rfl,fun j v hj=>?_⟩⟩ (by omega) (fun c Q1 hq=>XM (KC7) (KEX _) (KIA hq)) (Jy ?_))
  ·show (numD t).length=(bs (numD t)).size
   rw [JD]
  ·rw [Kg,Nat.zero_add,KS Ko]
   rw [List.getElem?_map] at hj
   have hjl:j < (numD t).length:=by
    by_cases hh:j < (numD t).length
    ·exact hh
    ·rw [List.getElem?_eq_none (by omega)] at hj; cases hj
   rw [Array.getElem?_append_left (by simp [Z3,bs]; exact hjl)]
   rw [List.getElem?_toArray,KH9,List.getElem?_map]
   exact hj
  ·refine fin _ _ (Ext.push _ _) ?_
   rw [h0,Bool.false_or]
   rw [List.any_eq_not_all_not]
   simp
theorem qW {t:List UInt8} {h:Heap} {Q:Int × Int→Heap→Prop} (ht:t.length≤281474976710656) (hv:ErrV h) (H:∀ h',Ext h h'→Q (numP t) h'):(KCM (bs t)).wp h Q:=by
 unfold KCM
 cases t with
 | nil =>
  refine Nr (c:=false) (fun hb _ _=>?_) ?_
  ·rw [sEq0] at hb; exact absurd hb (by decide)
  ·rw [Bool.and_false]
   exact iteF rfl (KCT ht hv H)
 | cons c r =>
  refine Nr (c:=decide (some c=some (45:UInt8))) (fun hb Q' hq=>?_) ?_
  ·refine KDM (i:=0) rfl (by simp) (KG ?_)
   rw [List.getElem_cons_zero,KNA]
   exact hq
  ·rw [sEq0]
   refine Kc (fun hb=>?_) (fun hb=>?_)
   ·rw [Bool.and_eq_true,decide_eq_true_iff (p:=some c=some 45)] at hb
    refine KMA (a:=1) (b:=(c::r).length) rfl (by rw [JD]) (by simp) (Nat.le_refl _) ?_
    have:(((c::r).drop 1).take ((c::r).length - 1))=numD (c::r):=by
     unfold numD
     rw [List.head?_cons,if_pos hb.2]
     simp
    rw [this]
    exact KCT ht hv H
   ·have:numD (c::r)=c::r:=by
     unfold numD
     rw [List.head?_cons,if_neg]
     intro hc
     rw [decide_eq_true hc] at hb
     simp at hb
    have h2:=KCT ht hv H
    rw [this] at h2
    exact h2
end Gx
namespace Gx
open Go Go.Proofs Go.Shelf Go.RowKit Go.Lib Gx.Last
set_option linter.unusedVariables false
set_option linter.unusedSimpArgs false
set_option maxRecDepth 100000
abbrev vz:Array Value:=#[.int .i64 0,.int .i64 0,.string ByteArray.empty,.slice none 0 0]
def KHK (x0 x1 x2 x4:Addr):M Unit:=do
 let Xx2←ldI .i64 ((x4).add 0)
 M.need (vz.size=4)
 stG x0 vz
 chk (fun h:Heap=>(KN h ((x4).add 0)=some (.int .i64 Xx2)))
 stV x1 (.int .i64 Xx2)
 stV x2 (.bool false)
 M.pure ()
def G0 (p2 p3 p4:Addr):M (Array Value × Int × Bool):=do
 let c←ldG 4 p2
 let i←ldI .i64 p3
 let b←ldB p4
 M.pure (c,i,b)
def GX (p2 p3 p4:Addr) (u:Value):M Unit:=do
 let i←M.get (fun _ i=>u=.iface Z0 (.agg #[.int .i64 i]))
 let q←mkB Z0 (#[.int .i64 0]:Array Value)
 M.need ((#[.int .i64 i]:Array Value).size=1)
 stG q (#[.int .i64 i]:Array Value)
 KHK p2 p3 p4 q
def KEd (p2 p3 p4:Addr):M (Array Value × Int × Bool):=do
 let x←ldG 4 p2
 M.need (x.size=4)
 stG p2 x
 stV p3 (.int .i64 0)
 stV p4 (.bool true)
 G0 p2 p3 p4
def KNB (x0:ByteArray):M (Array Value × Int × Bool):=do
 let p2←mkB KB vz
 let p3←mkB WB (#[.int .i64 0]:Array Value)
 let p4←mkB KCB (#[.bool false]:Array Value)
 let r←mkB XQ (#[.string x0,.int .i64 0]:Array Value)
 let v←JZ (some r) 1
 match v with
 | .inl u=>GX p2 p3 p4 u>>=fun _=>G0 p2 p3 p4
 | .inr cs=>do
  M.need (cs.size=4)
  stG p2 cs
  let i←ldI .i64 (r.add 1)
  M.ite (decide (i < (x0.size:Int))) (do
   let v←Kp (some r)
   match v with
   | .inl u=>GX p2 p3 p4 u>>=fun _=>G0 p2 p3 p4
   | .inr _=>M.fail) (KEd p2 p3 p4)
def KCU (r:Array Value × Int × Bool):Value:=.tuple #[.agg r.1,.int .i64 r.2.1,.bool r.2.2]
theorem KLA:KDv Go.Proofs.Tryz.prog 142 0=some 0:=by kernel_rfl
theorem KOX:szB Go.Proofs.Tryz.prog 142 1=true:=by kernel_rfl
theorem zr4':((Go.Proofs.Tryz.prog.info? 4).bind (·.zero))=some (.bool false):=by kernel_rfl
theorem sz4':szB Go.Proofs.Tryz.prog 4 1=true:=by kernel_rfl
theorem sc4':scB Go.Proofs.Tryz.prog 4=true:=by kernel_rfl
theorem KMB:ifB Go.Proofs.Tryz.prog 20=true:=by kernel_rfl
theorem KOY:((Go.Proofs.Tryz.prog.info? 146).bind (·.zero))=some (.agg (#[.string ByteArray.empty,.int .i64 0]:Array Value)):=by kernel_rfl
theorem KOZ:Xx Go.Proofs.Tryz.prog 146=some [(0,1),(1,1)]:=by kernel_rfl
theorem KLB:KDv Go.Proofs.Tryz.prog 146 1=some 1:=by kernel_rfl
theorem un9':Go.Proofs.Tryz.prog.underlying 9=some .string:=Tryz.underlying9
theorem KNC:KDy Go.Proofs.Tryz.f130 5 [[],[],[1],[0,0],[2,3,0,1,2,3],[4,0,1,2,3,4]] [[],[],[1],[0],[2],[]] [[],[],[1],[0],[0,1,2,3],[0,1,2,3,4]]=true:=by kernel_rfl
theorem KHL {c:Code} {P:Program} {N:Act→World→Prop} {R:Act→World→Prop} {Q:Exit→Act→List Frame→World→Prop} {a:Act} {cs:List Frame} {w:World} (h:c.wpIn (Fw none) 1 P (Ps N X0 R) a w)
  (hn:∀ a w,N a w→Q .normal a cs w) (hr:∀ a w,R a w→Q .ret a cs w):c.wpS P Q a cs w:=by
 refine wpS_of_wp (wp_mono (wpIn_wide.1 h) ?_)
 intro e a w hh
 cases e with
 | normal=>exact hn _ _ hh
 | ret=>exact hr _ _ hh
 | exit i=>exact hh.2.elim
 | goto l=>exact hh.elim
 | panic c=>obtain ⟨_,_,hh⟩:=hh; exact hh.elim
 | outgrown=>exact hh.elim
theorem KCV {dst:Option Tmp} {ty:TypeId} {pos:String} {aft:Array Edge} {ρ:Operand→Value} {P:Program} {w:World}:(execOp ρ ⟨dst,.call { callee:=.builtin .recover,args:=#[],argTypes:=#[] },ty,pos,aft,none⟩).run P w=.ok .recover w:=by
 simp [execOp,resolve,invoke,builtin]
theorem qX {P:Program} {Q:Exit→Act→List Frame→World→Prop} {a:Act} {cs cs':List Frame} {w:World} {id d1 d2:Nat} {ty1 ty2:TypeId} {pos1 pos2:String} {aft1 aft2:Array Edge} {n:Frm} {l:List (Nat × Value)} {v:Value}
  (hE:Env n a l) (hn1:Nat.blt d1 n.size=true) (hn2:Nat.blt d2 n.size=true) (hv:recoverD cs=some (v,cs')∨(recoverD cs=none∧v=.nilIface∧cs'=cs))
  (h:∀ a',Env n a' ((d2,v)::(d1,v)::l)→Q .normal a' cs' w) :
  (Code.region id #[⟨some d1,.call { callee:=.builtin .recover,args:=#[],argTypes:=#[] },ty1,pos1,aft1,none⟩,⟨some d2,.assign (.tmp d1),ty2,pos2,aft2,none⟩] false).wpS P Q a cs w:=by
 refine wpS_region ?_
 have e1:=hE.put d1 v hn1
 have hr2:(execOp (a.put (some d1) v).eval ⟨some d2,.assign (.tmp d1),ty2,pos2,aft2,none⟩).run P w=.ok (.value v) w:=KZ e1 (by simp [opv,look])
 have hf:=h _ (e1.put d2 v hn2)
 show wpOpsS P _ Q [0,1] a cs w
 rcases hv with hv | ⟨hv,rfl,rfl⟩
 ·simp [wpOpsS,Region.wanted,KCV,hv,hr2]
  exact hf
 ·simp [wpOpsS,Region.wanted,KCV,hv,hr2]
  exact hf
abbrev a130 (p2 p3 p4:Addr):Act:={ tmps:=#[.pointer (some p2),.pointer (some p3),.pointer (some p4)]++Array.replicate (20 - 3) undef,defers:=[] }
theorem KHM (p2 p3 p4:Addr):Env ⟨20,[]⟩ (a130 p2 p3 p4) [(0,.pointer (some p2)),(1,.pointer (some p3)),(2,.pointer (some p4))] :=
 Env.enter (n:=20) #[.pointer (some p2),.pointer (some p3),.pointer (some p4)] _ (Nat.le_of_ble_eq_true rfl) (Vz ⟨rfl,rfl,rfl,trivial⟩)
theorem KJW {p2 p3 p4:Addr} {w:World} {R:Ending→FrameMode→World→Prop} (h:R (.returned (.tuple #[])) .returning w):CallsD Go.Proofs.Tryz.prog 130 #[.pointer (some p2),.pointer (some p3),.pointer (some p4)] .returning w R:=by
 refine callsD_of_wpS Go.Proofs.Tryz.func130 rfl (fun c₀ cs hu=>?_)
 refine wpS_seq (qX (v:=.nilIface) (cs':=c₀::cs) (KHM p2 p3 p4) rfl rfl (.inr ⟨by simp [recoverD,hu],rfl,rfl⟩) (fun a hE=>?_))
 refine KHL (N:=fun _ _=>False) (R:=fun a w'=>w'=w∧Env ⟨20,[]⟩ a [(0,.pointer (some p2))]) ?_ (fun _ _ h=>h.elim) (fun a w' hh=>?_)
 ·refine KW (fun K hK_1=>?_)
  refine KW (fun K hK_2=>?_)
  refine KD ?_
  refine KE (v:=.nilIface) rfl rfl hE rfl (KH hE rfl) (fun a hE=>?_)
  refine KE (v:=.bool true) rfl rfl hE rfl (ZL hE rfl rfl (g_ni (b:=true) (.inl ⟨rfl,rfl⟩)) (KIz KMB (.inl ⟨rfl,rfl⟩))) (fun a hE=>?_)
  refine KU ?_
  refine hK_2 _ _ ?_
  refine JE true hE rfl (fun _=>?_) (fun hb=>by cases hb)
  exact WZ ⟨rfl,hE.cut (.cons rfl Subs.nil)⟩
 ·obtain ⟨rfl,hE⟩:=hh
  refine ⟨hE.defers,.returning,by rw [← hu],_,Z2 (rs:=[]) (vs:=[]) hE rfl RV.nil,h⟩
theorem KJX {n:Frm} {a:Act} {w:World} {l:List (Nat × Value)} {P:Program} {dst:Option Tmp} {ty xt t:TypeId} {pos:String} {aft:Array Edge} {g:Option (Nat × Bool)} {x:Operand} {v:Value} {fs:Array Field} (hE:Env n a l) (hx:opv l x=some (.iface t v)) (ht:P.underlying t=some (.struct fs)) :
  (execOp a.eval ⟨dst,.typeAssert x xt t true,ty,pos,aft,g⟩).run P w=.ok (.value (.tuple #[v,.bool true])) w:=by
 simp [execOp,hE.opv hx,Instr.typeAssert,run_underlying ht]
theorem KJY {p2 p3 p4:Addr} {w:World} {u:Value} {Q:Unit→Heap→Prop} {R:Ending→FrameMode→World→Prop} (H:(GX p2 p3 p4 u).wp w.heap Q)
  (h:∀ w',Rest w w'→Q () w'.heap→R (.returned (.tuple #[])) (.panicking [{ v:=u,recovered:=true }]) w'):CallsD Go.Proofs.Tryz.prog 130 #[.pointer (some p2),.pointer (some p3),.pointer (some p4)] (.panicking [{ v:=u,recovered:=false }]) w R:=by
 refine callsD_of_wpS Go.Proofs.Tryz.func130 rfl (fun c₀ cs hu=>?_)
 obtain ⟨i,hi,H⟩:=H
 subst hi
 refine wpS_seq (qX (v:=.iface Z0 (.agg #[.int .i64 i])) (cs':={ c₀ with mode:=.panicking [{ v:=.iface Z0 (.agg #[.int .i64 i]),recovered:=true }] }::cs) (KHM p2 p3 p4) rfl rfl (.inl (by simp [recoverD,hu])) (fun a hE=>?_))
 have hR:Rest w w:=Rest.refl w
 refine KHL (N:=fun a w'=>Rest w w'∧Q () w'.heap∧Env ⟨20,[]⟩ a [(0,.pointer (some p2))]) (R:=fun _ _=>False) ?_ (fun a w' hh=>?_) (fun _ _ h=>h.elim)
 ·refine KW (fun K hK_1=>?_)
  refine KW (fun K hK_2=>?_)
  refine KD ?_
  refine KE (v:=.iface Z0 (.agg #[.int .i64 i])) rfl rfl hE rfl (KH hE rfl) (fun a hE=>?_)
  refine KE (v:=.bool false) rfl rfl hE rfl (ZL hE rfl rfl (g_ni (b:=false) (.inr ⟨⟨_,_,rfl⟩,rfl⟩)) (KIz KMB (.inr ⟨⟨_,_,rfl⟩,rfl⟩))) (fun a hE=>?_)
  refine KU ?_
  refine hK_2 _ _ ?_
  refine JE false hE rfl (fun hb=>by cases hb) (fun _=>?_)
  refine J7 ?_
  refine hK_1 _ _ ?_
  refine KW (fun K hK_3=>?_)
  refine KD ?_
  refine KE (v:=.iface Z0 (.agg #[.int .i64 i])) rfl rfl hE rfl (KH hE rfl) (fun a hE=>?_)
  refine KE (v:=.tuple #[.agg #[.int .i64 i],.bool true]) rfl rfl hE rfl (KJX hE rfl Tryz.underlying142) (fun a hE=>?_)
  refine KE (v:=.tuple #[.agg #[.int .i64 i],.bool true]) rfl rfl hE rfl (KH hE rfl) (fun a hE=>?_)
  refine KE (v:=.agg #[.int .i64 i]) rfl rfl hE rfl (VA hE rfl rfl) (fun a hE=>?_)
  refine KE (v:=.bool true) rfl rfl hE rfl (VA hE rfl rfl) (fun a hE=>?_)
  obtain ⟨q,hq,H⟩:=H
  refine Wi (v:=.pointer (some q)) rfl rfl hE rfl hR (Uv KOT hq) (fun a w hE hR hh=>?_)
  replace H:=M.at hh H; clear hh
  obtain ⟨qz,H⟩:=H
  obtain ⟨u_3,qu_3,H⟩:=H
  refine UF rfl rfl hE hR (Z1 hE rfl rfl KOX qz qu_3) (fun a w hE hR hh=>?_)
  replace H:=M.at hh H; clear hh
  refine KE (v:=.bool true) rfl rfl hE rfl (KZ hE rfl) (fun a hE=>?_)
  refine KU ?_
  refine hK_3 _ _ ?_
  refine KW (fun K hK_4=>?_)
  refine KW (fun K hK_5=>?_)
  refine KD ?_
  refine KE (v:=.bool true) rfl rfl hE rfl (KH hE rfl) (fun a hE=>?_)
  refine KE (v:=.bool false) rfl rfl hE rfl (r_un hE rfl KIa) (fun a hE=>?_)
  refine KU ?_
  refine hK_5 _ _ ?_
  refine JE false hE rfl (fun hb=>by cases hb) (fun _=>?_)
  refine J7 ?_
  refine hK_4 _ _ ?_
  replace hE:Env ⟨20,[]⟩ a [(0,.pointer (some p2)),(1,.pointer (some p3)),(2,.pointer (some p4)),(4,.pointer (some q))]:=hE.cut (.cons rfl (.cons rfl (.cons rfl (.cons rfl Subs.nil))))
  obtain ⟨Xx2,qXx2,H⟩:=H
  have hT:=Xv KNC rfl rfl
  refine Vi (fun w:World=>(fun h:Heap=>(KN h ((q).add 0)=some (.int .i64 Xx2))) w.heap) [4,5] #[false,false,false,false,false,false] mo hR rfl rfl (fun w' e=>by rw [e]; exact qXx2) (fun w hh hR hs=>?_)
  replace H:=M.at hh H; clear hh
  refine KC (i:=0) (v:=.agg vz) #[true,false,false,false,false,false] rfl rfl hT (by kernel_rfl) hE rfl (KA rfl) (fun w=>KG2 bd24) (fun a hE=>?_)
  refine KC (i:=1) (v:=.pointer (some ((q).add 0))) #[true,true,false,false,false,false] rfl rfl hT (by kernel_rfl) hE rfl (KA rfl) (fun w=>KL hE rfl KLA) (fun a hE=>?_)
  refine UA (i:=2) (v:=.int .i64 Xx2) #[true,true,true,false,false,false] rfl rfl hT (by kernel_rfl) hE rfl (KA rfl) hs (fun w s=>ZR hE rfl sc3 s) (fun a hE=>?_)
  obtain ⟨qz,H⟩:=H
  obtain ⟨u_3,qu_3,H⟩:=H
  obtain ⟨_,sA,H⟩:=H
  refine KO7 (i:=3) #[true,true,true,true,false,false] rfl rfl hT (by kernel_rfl) rfl hE hR (KA rfl) (Z1 hE rfl rfl sz24 qz qu_3)  (fun w' e=>by rw [e]; exact sA) (fun a w hE hR hh hs=>?_)
  replace H:=M.at hh H; clear hh
  obtain ⟨u_4,qu_4,H⟩:=H
  refine KDW (i:=4) #[true,true,true,true,true,false] rfl rfl hT (by kernel_rfl) rfl hE hR (KA rfl) (ZT hE rfl rfl sz3 qu_4)  (fun a w hE hR hh=>?_)
  replace H:=M.at hh H; clear hh
  obtain ⟨u_5,qu_5,H⟩:=H
  refine KDW (i:=5) #[true,true,true,true,true,true] rfl rfl hT (by kernel_rfl) rfl hE hR (KA rfl) (ZT hE rfl rfl sz4' qu_5)  (fun a w hE hR hh=>?_)
  replace H:=M.at hh H; clear hh
  refine XL hT (by kernel_rfl) ?_
  exact ⟨hR,H,hE.cut (.cons rfl Subs.nil)⟩
 ·obtain ⟨hR,hq,hE⟩:=hh
  exact ⟨hE.defers,_,rfl,_,Z2 (rs:=[]) (vs:=[]) hE rfl RV.nil,h _ hR hq⟩
theorem KDh {Q:Array Value × Int × Bool→Heap→Prop} {w0 w:World} {a:Act} {l:List (Nat × Value)} {p2 p3 p4:Addr} {l0:List Deferred} (hE:EnvD l0 22 a l) (h2:look l 2=some (.pointer (some p2))) (h3:look l 3=some (.pointer (some p3))) (h4:look l 4=some (.pointer (some p4))) (hR:Rest w0 w) (H:(G0 p2 p3 p4).wp w.heap Q) :
  ∃ v,(results Tryz.f75 a.tmps).run Tryz.prog w=.ok v w∧∃ r,Ending.returned v=.returned (KCU r)∧Q r w.heap∧Rest w0 w:=by
 obtain ⟨c,qc,H⟩:=H
 obtain ⟨i,qi,H⟩:=H
 obtain ⟨b,qb,H⟩:=H
 exact ⟨_,Z2 (a:={ tmps:=a.tmps,defers:=[] }) (rs:=[.cell 2 24,.cell 3 3,.cell 4 4]) hE.env rfl (RV.cellG h2 ag24 qc (RV.cell h3 sc3 qi (RV.cell h4 sc4' qb RV.nil))),(c,i,b),rfl,H,hR⟩
abbrev dfr (p2 p3 p4:Addr):Deferred:={ target:=.fn (.func 130) #[.pointer (some p2),.pointer (some p3),.pointer (some p4)],args:=#[] }
theorem KFY {p2 p3 p4:Addr} {w:World}:(invoke (.fn (.func 130) #[.pointer (some p2),.pointer (some p3),.pointer (some p4)]) #[]).run Tryz.prog w=.ok (.enter 130 #[.pointer (some p2),.pointer (some p3),.pointer (some p4)]) w:=by
 have h:=KF Tryz.func130 (by kernel_rfl) rfl #[.pointer (some p2),.pointer (some p3),.pointer (some p4)] w
 simp [invoke,h]
theorem KLC {Q:Array Value × Int × Bool→Heap→Prop} {w0 w:World} {a:Act} {l:List (Nat × Value)} {p2 p3 p4:Addr} (hE:EnvD [dfr p2 p3 p4] 22 a l) (h2:look l 2=some (.pointer (some p2))) (h3:look l 3=some (.pointer (some p3))) (h4:look l 4=some (.pointer (some p4))) (hR:Rest w0 w) (H:(G0 p2 p3 p4).wp w.heap Q) :
  Leaves Tryz.prog Tryz.f75 a.tmps (fun e w'=>∃ r,e=.returned (KCU r)∧Q r w'.heap∧Rest w0 w') a.defers .returning w:=by
 rw [hE.def_]
 refine leaves_cons (by simp) KFY (KJW ?_)
 exact KDh hE h2 h3 h4 hR H
theorem KHN {Q:Array Value × Int × Bool→Heap→Prop} {w0 w:World} {a:Act} {l:List (Nat × Value)} {p2 p3 p4:Addr} {u:Value} (hE:EnvD [dfr p2 p3 p4] 22 a l) (h2:look l 2=some (.pointer (some p2))) (h3:look l 3=some (.pointer (some p3))) (h4:look l 4=some (.pointer (some p4))) (hR:Rest w0 w) (H:(GX p2 p3 p4 u>>=fun _=>G0 p2 p3 p4).wp w.heap Q) :
  Leaves Tryz.prog Tryz.f75 a.tmps (fun e w'=>∃ r,e=.returned (KCU r)∧Q r w'.heap∧Rest w0 w') a.defers (.panicking [{ v:=u,recovered:=false }]) w:=by
 rw [hE.def_]
 refine leaves_cons (by simp) KFY (KJY (M.unbind H) (fun w' hR' H'=>?_))
 show Leaves _ _ _ _ [] (settle (.panicking [{ v:=u,recovered:=true }])) w'
 exact KDh hE h2 h3 h4 (hR.trans hR') H'
theorem KOa (x0:ByteArray):Kn Go.Proofs.Tryz.prog Y2 #[.string x0] KCU (KNB x0):=by
 intro W0 Q H
 refine calls_of_wp_defers Go.Proofs.Tryz.func75 rfl ?_
 refine (fun hs=>wpIn_wide.1 hs) (?_:Code.wpIn (Fw none) 1 _ _ _ _ _)
 have hE0:Env ⟨22,[]⟩ { tmps:=#[.string x0]++Array.replicate (22 - 1) undef,defers:=[] } [(0,.string x0)]:=Env.enter (n:=22) #[.string x0] _ (Nat.le_of_ble_eq_true rfl) (Vz ⟨rfl,trivial⟩)
 have hE:EnvD [] 22 { tmps:=#[.string x0]++Array.replicate (22 - 1) undef,defers:=[] } [(0,.string x0)]:=⟨hE0,rfl⟩
 have hR:Rest W0 W0:=Rest.refl W0
 obtain ⟨p2,q2,H⟩:=H
 refine wpIn_seq (Gh ?_)
 refine KHB (v:=.pointer (some p2)) rfl rfl hE rfl hR (fun b hE=>Uv zr24 q2) (fun a w1 hE hR hh=>?_)
 replace H:=M.at hh H; clear hh
 obtain ⟨p3,q3,H⟩:=H
 refine KHB (v:=.pointer (some p3)) rfl rfl hE rfl hR (fun b hE=>Uv zr3 q3) (fun a w1 hE hR hh=>?_)
 replace H:=M.at hh H; clear hh
 obtain ⟨p4,q4,H⟩:=H
 refine KHB (v:=.pointer (some p4)) rfl rfl hE rfl hR (fun b hE=>Uv zr4' q4) (fun a w1 hE hR hh=>?_)
 replace H:=M.at hh H; clear hh
 refine KH2 ?_
 refine wpIn_seq (Gh ?_)
 refine za (v:=.func (.func 130) #[] #[.pointer (some p2),.pointer (some p3),.pointer (some p4)]) rfl rfl hE rfl (fun b hE=>Nz hE rfl) (fun a hE=>?_)
 refine KM3 hE rfl (fun a hE=>?_)
 replace hE:EnvD [dfr p2 p3 p4] 22 a [(0,.string x0),(2,.pointer (some p2)),(3,.pointer (some p3)),(4,.pointer (some p4))]:=⟨hE.env.cut (.cons rfl (.cons rfl (.cons rfl (.cons rfl Subs.nil)))),hE.def_⟩
 refine KH2 ?_
 refine wpIn_seq (Gh ?_)
 refine za (v:=.string x0) rfl rfl hE rfl (fun b hE=>KH hE rfl) (fun a hE=>?_)
 refine za (v:=.agg (#[.string x0,.int .i64 0]:Array Value)) rfl rfl hE rfl (fun b hE=>NW hE rfl KOY KOZ (by rfl)) (fun a hE=>?_)
 obtain ⟨r,qr,H⟩:=H
 refine KHB (v:=.pointer (some r)) rfl rfl hE rfl hR (fun b hE=>KMK hE rfl qr) (fun a w1 hE hR hh=>?_)
 replace H:=M.at hh H; clear hh
 refine za (v:=.pointer (some r)) rfl rfl hE rfl (fun b hE=>KZ hE rfl) (fun a hE=>?_)
 replace hE:EnvD [dfr p2 p3 p4] 22 a [(0,.string x0),(2,.pointer (some p2)),(3,.pointer (some p3)),(4,.pointer (some p4)),(5,.pointer (some r))]:=⟨hE.env.cut (.cons rfl (.cons rfl (.cons rfl (.cons rfl (.cons rfl Subs.nil))))),hE.def_⟩
 refine KH2 ?_
 refine wpIn_seq (Gh ?_)
 refine za (v:=.pointer (some r)) rfl rfl hE rfl (fun b hE=>KH hE rfl) (fun a hE=>?_)
 refine KI9 hE hR VH rfl (Yt (some r) 1) (M.unbind H) (fun u w1 hR H=>?_) (fun cs a1 w1 ea hR H=>?_)
 ·exact KHN hE rfl rfl rfl hR H
 replace hE:EnvD [dfr p2 p3 p4] 22 a1 _:=ea ▸ hE.put 11 (.agg cs) rfl
 obtain ⟨qz,H⟩:=H
 obtain ⟨u_6,qu_6,H⟩:=H
 refine KK2 rfl rfl hE hR (fun b hE=>Z1 hE rfl rfl sz24 qz qu_6) (fun a w hE hR hh=>?_)
 replace H:=M.at hh H; clear hh
 replace hE:EnvD [dfr p2 p3 p4] 22 a [(0,.string x0),(2,.pointer (some p2)),(3,.pointer (some p3)),(4,.pointer (some p4)),(5,.pointer (some r))]:=⟨hE.env.cut (.cons rfl (.cons rfl (.cons rfl (.cons rfl (.cons rfl Subs.nil))))),hE.def_⟩
 refine KH2 ?_
 obtain ⟨i,qi,H⟩:=H
 refine wpIn_seq (wpIn_mono (Q:=Exit.then (fun a w1=>EnvD [dfr p2 p3 p4] 22 a [(0,.string x0),(2,.pointer (some p2)),(3,.pointer (some p3)),(4,.pointer (some p4)),(5,.pointer (some r))]∧Rest W0 w1∧(KEd p2 p3 p4).wp w1.heap Q)
  (bodyPostD Tryz.prog Tryz.f75 (fun e w'=>∃ r,e=.returned (KCU r)∧Q r w'.heap∧Rest W0 w'))) ?_ ?_)
 ·refine wpIn_seq (Gh ?_)
  refine za (v:=.pointer (some r)) rfl rfl hE rfl (fun b hE=>KH hE rfl) (fun a hE=>?_)
  refine za (v:=.pointer (some r)) rfl rfl hE rfl (fun b hE=>KO hE rfl) (fun a hE=>?_)
  refine za (v:=.pointer (some (r.add 1))) rfl rfl hE rfl (fun b hE=>KL hE rfl KLB) (fun a hE=>?_)
  refine za (v:=.int .i64 i) rfl rfl hE rfl (fun b hE=>ZR hE rfl sc3 qi) (fun a hE=>?_)
  refine za (v:=.string x0) rfl rfl hE rfl (fun b hE=>KH hE rfl) (fun a hE=>?_)
  refine za (v:=.int .i64 (x0.size:Int)) rfl rfl hE rfl (fun b hE=>GK hE rfl un9') (fun a hE=>?_)
  refine za (v:=.bool (decide (i < (x0.size:Int)))) rfl rfl hE rfl (fun b hE=>ZL hE rfl rfl ZF zP) (fun a hE=>?_)
  refine KH2 ?_
  refine KOS (decide (i < (x0.size:Int))) hE rfl (fun hb=>?_) (fun hb=>?_)
  ·replace H:=M.ite_t hb H
   refine Gh ?_
   refine za (v:=.pointer (some r)) rfl rfl hE rfl (fun b hE=>KH hE rfl) (fun a hE=>?_)
   refine KI9 hE hR Kz rfl (ZC (some r)) (M.unbind H) (fun u w1 hR H=>?_) (fun cs a1 w1 ea hR H=>H.elim)
   exact KHN hE rfl rfl rfl hR H
  ·replace H:=M.ite_f hb H
   refine wpIn_skip ?_
   exact ⟨⟨hE.env.cut (.cons rfl (.cons rfl (.cons rfl (.cons rfl (.cons rfl Subs.nil))))),hE.def_⟩,hR,H⟩
 ·intro e a w hh
  cases e with
  | normal =>
   obtain ⟨hE,hR,H⟩:=hh
   obtain ⟨x,qx,H⟩:=H
   obtain ⟨qz,H⟩:=H
   obtain ⟨u_6,qu_6,H⟩:=H
   refine wpIn_seq (Gh ?_)
   refine za (v:=.agg x) rfl rfl hE rfl (fun b hE=>qZ hE rfl ag24 qx) (fun a hE=>?_)
   refine KK2 rfl rfl hE hR (fun b hE=>Z1 hE rfl rfl sz24 qz qu_6) (fun a w hE hR hh=>?_)
   replace H:=M.at hh H; clear hh
   obtain ⟨u_7,qu_7,H⟩:=H
   refine KK2 rfl rfl hE hR (fun b hE=>ZT hE rfl rfl sz3 qu_7) (fun a w hE hR hh=>?_)
   replace H:=M.at hh H; clear hh
   obtain ⟨u_8,qu_8,H⟩:=H
   refine KK2 rfl rfl hE hR (fun b hE=>ZT hE rfl rfl sz4' qu_8) (fun a w hE hR hh=>?_)
   replace H:=M.at hh H; clear hh
   refine KH2 ?_
   refine wpIn_ret ?_
   exact KLC hE rfl rfl rfl hR H
  | exit i=>exact hh
  | ret=>exact hh
  | goto l=>exact hh
  | panic c=>exact hh
  | outgrown=>exact hh
end Gx
namespace Gx
open Go Go.Proofs Go.Shelf Go.RowKit Go.Lib
set_option linter.unusedVariables false
set_option linter.unusedSimpArgs false
set_option maxRecDepth 100000
structure Rd (h:Heap) (b:Nat) (s:List UInt8) (i:Nat):Prop where
 blk:h[b]?=some (.cells #[.string (bs s),.int .i64 (i:Int)] XQ (0,0))
 le:i≤s.length
 small:s.length≤1099511627776
def KR (s:List UInt8) (i:Nat):UInt8:=(s[i]?).getD 0
def Nu (e:Nat):Value:=.iface Z0 (.agg #[.int .i64 (e:Int)])
abbrev Kb (b:Nat):Heap→Heap→Prop:=Km (fun k=>k=b)
theorem Rd.ext {h h':Heap} {b:Nat} {s:List UInt8} {i:Nat} (R:Rd h b s i) (e:Ext h h'):Rd h' b s i:=⟨e.blk R.blk,R.le,R.small⟩
theorem Rd.lt {h:Heap} {b:Nat} {s:List UInt8} {i:Nat} (R:Rd h b s i):b < h.size:=JX R.blk
theorem ErrV.km {h h':Heap} {b:Nat} (H:ErrV h) (k:Kb b h h') (hb:b≠5):ErrV h':=by
 obtain ⟨t,p,hc⟩:=H
 refine ⟨t,p,?_⟩
 have h5:5 < h.size:=N3 hc
 have:=k.same 5 h5 (fun e=>hb e.symm)
 unfold KN at hc ⊢
 rw [this]
 exact hc
theorem U2 {s:List UInt8} {i:Nat} (h:KR s i≠0):i < s.length:=by
 by_cases hi:i < s.length
 ·exact hi
 ·unfold KR at h
  rw [List.getElem?_eq_none (by omega)] at h
  exact absurd rfl h
theorem X3 {s:List UInt8} {i:Nat} (hi:i < s.length):KR s i=s[i]:=by unfold KR; rw [List.getElem?_eq_getElem hi]; rfl
section
variable {β:Type} {h:Heap} {Q:β→Heap→Prop} {b i:Nat} {s:List UInt8}
theorem KGV {f:ByteArray→M β} (R:Rd h b s i) (H:(f (bs s)).wp h Q):(ldS ((⟨b,0,none⟩:Addr).add 0)>>=f).wp h Q:=Gg (by rw [Kg,KS R.blk]; rfl) H
theorem KBf {f:Int→M β} (R:Rd h b s i) (H:(f (i:Int)).wp h Q):(ldI .i64 ((⟨b,0,none⟩:Addr).add 1)>>=f).wp h Q:=Jc (by rw [Kg,KS R.blk]; rfl) H
theorem KPV {f:Unit→M β} (R:Rd h b s i) (hi:i < s.length) (H:∀ h',Upd b h h'→Rd h' b s (i+1)→(f ()).wp h' Q):(stV ((⟨b,0,none⟩:Addr).add 1) (.int .i64 (IntKind.wrap .i64 ((i:Int)+1)))>>=f).wp h Q:=by
 have hsm:=R.small
 rw [w64 (by omega) (by omega)]
 refine Vj (x:=.int .i64 (i:Int)) (by rw [Kg,KS R.blk]; rfl) (by rw [Kg]; exact KV R.blk) rfl ?_
 rw [Kg]
 exact H _ (Upd.hset _ _ _ _) ⟨V5 R.blk,hi,hsm⟩
theorem KCW {f:Unit→M β} (R:Rd h b s i) (hi:i < s.length) (H:∀ h',Upd b h h'→Rd h' b s (i+1)→(f ()).wp h' Q) :
  (nilP (some ⟨b,0,none⟩)>>=fun x=>ldI .i64 (x.add 1)>>=fun y=>nilP (some ⟨b,0,none⟩)>>=fun z=>stV (z.add 1) (.int .i64 (IntKind.wrap .i64 (y+1)))>>=f).wp h Q :=
 Jq (KBf R (Jq (KPV R hi H)))
end
theorem Un {h:Heap} {Q:Int→Heap→Prop} {b i:Nat} {s:List UInt8} (R:Rd h b s i) (H:Q ((KR s i).toNat:Int) h):(Kh (some ⟨b,0,none⟩)).wp h Q:=by
 unfold Kh
 refine Jq (Jq (KBf R (KGV R ?_)))
 rw [JD]
 refine Kc (fun hc=>?_) (fun hc=>KG ?_)
 ·have hi:i < s.length:=by have:=of_decide_eq_true hc; omega
  refine Jq (Jq (KGV R (KBf R (KDM rfl hi (KG ?_)))))
  rw [← X3 hi]
  exact H
 ·have hi:¬ i < s.length:=by have:=of_decide_eq_false hc; omega
  unfold KR at H
  rw [List.getElem?_eq_none (by omega)] at H
  exact H
theorem Vd {h:Heap} {Q:Value ⊕ Unit→Heap→Prop} {b i:Nat} {s:List UInt8} (R:Rd h b s i) (H:Q (.inl (Nu i)) h):(Kp (some ⟨b,0,none⟩)).wp h Q:=by
 unfold Kp
 exact Jq (KBf R (KG H))
theorem KA6 {c:UInt8} {h:Heap} {Q:Bool→Heap→Prop} (H:Q (digB c) h):(Wy (c.toNat:Int)).wp h Q:=by
 unfold Wy
 refine Nr (c:=decide ((c.toNat:Int)≤57)) (fun _ Q' hq=>KG hq) (KG ?_)
 rw [show (decide ((c.toNat:Int) ≥ 48) && decide ((c.toNat:Int)≤57))=digB c by
  unfold digB
  congr 1
  ·exact decide_eq_decide.2 (by omega)
  ·exact decide_eq_decide.2 (by omega)]
 exact H
def GH (s:List UInt8):List UInt8→Nat→Except Nat Nat
 | [],i=>.ok i
 | c::r,i=>if s[i]?=some c then GH s r (i+1) else .error i
theorem U4 {s:List UInt8}:∀ {lit:List UInt8} {i j:Nat},GH s lit i=.ok j→j=i+lit.length∧(lit≠[]→j≤s.length)∧(s.drop i).take lit.length=lit
 | [],i,j,h=>by cases h; exact ⟨rfl,fun h=>absurd rfl h,by simp⟩
 | c::r,i,j,h=>by
  unfold GH at h
  split at h
  ·rename_i hc
   obtain ⟨h1,h2,h3⟩:=U4 h
   have hi:i < s.length:=(List.getElem?_eq_some_iff.1 hc).1
   refine ⟨by rw [h1,List.length_cons]; omega,fun _=>?_,?_⟩
   ·by_cases hr:r=[]
    ·subst hr; rw [h1]; exact hi
    ·exact h2 hr
   ·rw [List.drop_eq_getElem_cons hi,List.length_cons,List.take_succ_cons,h3]
    rw [(List.getElem?_eq_some_iff.1 hc).2]
  ·cases h
theorem YW {h:Heap} {Q:Value ⊕ Unit→Heap→Prop} {b i:Nat} {s lit:List UInt8} (R:Rd h b s i) (hl:lit.length≤1000)
  (H1:∀ j h',GH s lit i=.ok j→Kb b h h'→Rd h' b s j→Q (.inr ()) h') (H2:∀ e h',GH s lit i=.error e→Kb b h h'→Q (.inl (Nu e)) h'):(ZB (some ⟨b,0,none⟩) (bs lit)).wp h Q:=by
 unfold ZB
 rw [JD]
 refine M.loop_inv (fun (x:Int) hh=>∃ k i':Nat,x=(k:Int)∧k≤lit.length∧Kb b h hh∧Rd hh b s i'∧GH s (lit.drop k) i'=GH s lit i) (fun x _=>((lit.length:Int) - x).toNat) ?_ ⟨0,i,rfl,Nat.zero_le _,Km.refl _ _,R,rfl⟩
 rintro x hh ⟨k,i',rfl,hk,K,R',hm⟩ self hself
 unfold UK
 refine Kc (fun hc=>?_) (fun hc=>?_)
 ·have hkl:k < lit.length:=by have:=of_decide_eq_true hc; omega
  rw [List.drop_eq_getElem_cons hkl,GH] at hm
  refine Jq (Jq (KBf R' (KGV R' ?_)))
  rw [JD]
  have hfail:s[i']?≠some lit[k]→(Zd self (some ⟨b,0,none⟩) (k:Int) true).wp hh Q:=fun hne=>by
   unfold Zd
   refine iteT rfl (Vd R' ?_)
   rw [if_neg hne] at hm
   exact H2 _ _ hm.symm K
  refine Kc (fun hge=>?_) (fun hlt=>?_)
  ·refine hfail ?_
   have:=of_decide_eq_true hge
   rw [List.getElem?_eq_none (by omega)]
   intro h; cases h
  ·have hil:i' < s.length:=by have:=of_decide_eq_false hlt; omega
   refine Jq (Jq (KDM rfl hkl (KGV R' (KBf R' (KDM rfl hil ?_)))))
   by_cases he:s[i']=lit[k]
   ·rw [show (((s[i']).toNat:Int) != ((lit[k]).toNat:Int))=false by rw [he]; simp]
    unfold Zd Jh
    refine iteF rfl (KCW R' hil (fun h2 u R2=>?_))
    rw [w64 (by omega) (by omega)]
    rw [if_pos (by rw [List.getElem?_eq_getElem hil,he])] at hm
    exact hself _ _ ⟨k+1,i'+1,by omega,by omega,K.trans (Km.upd u rfl),R2,hm⟩ (by omega)
   ·rw [show (((s[i']).toNat:Int) != ((lit[k]).toNat:Int))=true by
     rw [bne_iff_ne]
     intro h
     exact he (UInt8.toNat_inj.1 (by omega))]
    refine hfail ?_
    rw [List.getElem?_eq_getElem hil]
    intro h
    exact he (Option.some.inj h)
 ·have hkl:k=lit.length:=by have:=of_decide_eq_false hc; omega
  subst hkl
  rw [List.drop_length,GH] at hm
  exact KG (H1 _ _ hm.symm K R')
def numL (s:List UInt8) (fr:Nat):Nat→Nat→Int→Except Nat (Int × Nat)
 | 0,i,n=>.ok (n,i)
 | f+1,i,n=>if digB (KR s i)=true then
   (if (numP ((s.drop fr).take (i+1 - fr))).2=7 then .error i else if (numP ((s.drop fr).take (i+1 - fr))).2≠0 then .ok (n,i) else numL s fr f (i+1) (numP ((s.drop fr).take (i+1 - fr))).1)
  else .ok (n,i)
def numJ (s:List UInt8) (i:Nat):Nat:=if KR s i=45 then i+1 else i
def numF (s:List UInt8) (i:Nat):Except Nat (Int × Nat) :=
 if digB (KR s (numJ s i))=false∨(i < numJ s i∧KR s (numJ s i)=48) then .error (numJ s i) else numL s i (s.length - numJ s i) (numJ s i) 0
theorem KHO {s:List UInt8} {i:Nat} (h:digB (KR s i)=true):i < s.length:=by
 refine U2 (fun e=>?_)
 rw [e] at h
 exact absurd h (by decide)
theorem KJZ {h:Heap} {Q:Value ⊕ Int→Heap→Prop} {b i fr:Nat} {s:List UInt8} (R:Rd h b s i) (he:ErrV h) (hb:b≠5) (hfr:fr≤i)
  (H1:∀ n j h',numL s fr (s.length - i) i 0=.ok (n,j)→Kb b h h'→Rd h' b s j→Q (.inr n) h') (H2:∀ e h',numL s fr (s.length - i) i 0=.error e→Kb b h h'→Q (.inl (Nu e)) h'):(Zk (some ⟨b,0,none⟩) (fr:Int)).wp h Q:=by
 unfold Zk
 refine M.loop_inv (fun (x:Int) hh=>∃ i':Nat,fr≤i'∧Kb b h hh∧Rd hh b s i'∧(∃ hx:hh[b]?=some (.cells #[.string (bs s),.int .i64 (i':Int)] XQ (0,0)),True)∧numL s fr (s.length - i') i' x=numL s fr (s.length - i) i 0)
  (fun x hh=>match hh[b]? with | some (.cells #[_,.int _ z] _ _)=>s.length - z.toNat | _=>0) ?_ ⟨i,hfr,Km.refl _ _,R,⟨R.blk,trivial⟩,rfl⟩
 rintro x hh ⟨i',hfi,K,R',⟨hx,_⟩,hm⟩ self hself
 have hsm:=R'.small
 unfold Jx
 refine KJ (Un R' (KJ (KA6 ?_)))
 refine Kc (fun hd=>?_) (fun hd=>?_)
 ·have hil:=KHO hd
  rw [show s.length - i'=(s.length - (i'+1))+1 by omega,numL,if_pos hd] at hm
  refine Jq (Jq (KGV R' (KBf R' ?_)))
  rw [w64 (by omega) (by omega)]
  refine KMA (a:=fr) (b:=i'+1) rfl (by omega) (by omega) (by omega) (KJ (NR (KCN _) (qW ?_ (he.km K hb) (fun h2 e2=>?_))))
  ·rw [List.length_take,List.length_drop]; omega
  have R2:=R'.ext e2
  refine Kc (fun h7=>?_) (fun h7=>?_)
  ·rw [eqI,decide_eq_true_iff] at h7
   rw [if_pos h7] at hm
   exact Vd R2 (H2 _ _ hm.symm (K.trans (Km.ext e2)))
  ·rw [eqI,decide_eq_false_iff_not] at h7
   rw [if_neg h7] at hm
   unfold JG
   refine Kc (fun h0=>?_) (fun h0=>?_)
   ·rw [bne_iff_ne] at h0
    rw [if_pos h0] at hm
    exact KG (H1 _ _ _ hm.symm (K.trans (Km.ext e2)) R2)
   ·have h0:¬ (numP ((s.drop fr).take (i'+1 - fr))).2≠0:=by
     intro hne
     rw [(bne_iff_ne).2 hne] at h0
     cases h0
    rw [if_neg h0] at hm
    refine KCW R2 hil (fun h3 u3 R3=>?_)
    refine hself _ _ ⟨i'+1,by omega,(K.trans (Km.ext e2)).trans (Km.upd u3 rfl),R3,⟨R3.blk,trivial⟩,hm⟩ ?_
    rw [R3.blk,hx]
    show s.length - ((i'+1:Nat):Int).toNat < s.length - ((i':Nat):Int).toNat
    omega
 ·have:numL s fr (s.length - i') i' x=.ok (x,i'):=by
   cases hf:s.length - i' with
   | zero=>rfl
   | succ f=>rw [numL,if_neg (by rw [hd]; decide)]
  rw [this] at hm
  exact KG (H1 _ _ _ hm.symm K R')
theorem KCX {h:Heap} {Q:Value ⊕ Int→Heap→Prop} {b i:Nat} {s:List UInt8} (R:Rd h b s i) (he:ErrV h) (hb:b≠5)
  (H1:∀ n j h',numF s i=.ok (n,j)→Kb b h h'→Rd h' b s j→Q (.inr n) h') (H2:∀ e h',numF s i=.error e→Kb b h h'→Q (.inl (Nu e)) h'):(JK (some ⟨b,0,none⟩)).wp h Q:=by
 unfold JK
 have key:∀ h1,Kb b h h1→Rd h1 b s (numJ s i)→(Zl (some ⟨b,0,none⟩) (i:Int)).wp h1 Q:=by
  intro h1 K1 R1
  unfold Zl
  have hij:i≤numJ s i:=by unfold numJ; split <;> omega
  refine Jq (KBf R1 (KJ (Un R1 (KJ (KA6 ?_)))))
  refine or_b (c:=decide (i < numJ s i) && decide (KR s (numJ s i)=48)) (fun hd Q' hq=>?_) ?_
  ·refine Jb (Nr (c:=decide (KR s (numJ s i)=48)) (fun _ Q2 hq2=>KJ (Un R1 (KG ?_))) (Jy (KG ?_)))
   ·rw [KOW,decide_eq_decide.2 (show some (KR s (numJ s i))=some 48↔KR s (numJ s i)=48 from ⟨Option.some.inj,congrArg _⟩)]
    exact hq2
   ·rw [show decide (((numJ s i:Nat):Int) > (i:Int))=decide (i < numJ s i) from decide_eq_decide.2 (by omega)]
    exact hq
  ·refine Kc (fun hbad=>?_) (fun hok=>?_)
   ·refine Vd R1 (H2 _ _ ?_ K1)
    unfold numF
    rw [if_pos]
    rw [Bool.or_eq_true,Bool.and_eq_true,decide_eq_true_iff,decide_eq_true_iff,Bool.not_eq_true'] at hbad
    exact hbad
   ·have hn:¬ (digB (KR s (numJ s i))=false∨(i < numJ s i∧KR s (numJ s i)=48)):=by
     intro hh
     rw [← Bool.not_eq_true',← decide_eq_true_iff (p:=i < numJ s i),← decide_eq_true_iff (p:=KR s (numJ s i)=48),← Bool.and_eq_true,← Bool.or_eq_true,hok] at hh
     cases hh
    have hF:numF s i=numL s i (s.length - numJ s i) (numJ s i) 0:=by unfold numF; rw [if_neg hn]
    rw [hF] at H1 H2
    exact KJZ R1 (he.km K1 hb) hb hij (fun n j h2 e K2 R2=>H1 n j h2 e (K1.trans K2) R2) (fun e h2 hm K2=>H2 e h2 hm (K1.trans K2))
 refine Jq (KBf R (KJ (Un R ?_)))
 refine Kc (fun hc=>?_) (fun hc=>?_)
 ·have h45:KR s i=45:=by
   rw [KNA,decide_eq_true_iff] at hc
   exact Option.some.inj hc
  refine KCW R (U2 (by rw [h45]; decide)) (fun h1 u1 R1=>key _ (Km.upd u1 rfl) ?_)
  unfold numJ
  rw [if_pos h45]
  exact R1
 ·have h45:¬ KR s i=45:=by
   rw [KNA,decide_eq_false_iff_not] at hc
   exact fun e=>hc (congrArg _ e)
  refine key _ (Km.refl _ _) ?_
  unfold numJ
  rw [if_neg h45]
  exact R
end Gx
namespace Gx
open Go Go.Proofs Go.Shelf Go.RowKit Go.Lib
set_option linter.unusedVariables false
set_option linter.unusedSimpArgs false
set_option maxRecDepth 100000
def hexD:List UInt8:=[48,49,50,51,52,53,54,55,56,57,97,98,99,100,101,102]
def hexN (c:UInt8):Int:=Lib.indexByte hexD c
theorem KBS:∀ (l:List UInt8) (c:UInt8),Lib.indexByte l c+1≤(l.length:Int)
 | [],c=>by simp [Lib.indexByte]
 | b::l,c=>by
  have:=KBS l c
  unfold Lib.indexByte
  rw [List.length_cons]
  split
  ·omega
  ·split <;> omega
theorem KCY (c:UInt8):hexN c≤15:=by
 have:=KBS hexD c
 have h2:(hexD.length:Int)=16:=rfl
 unfold hexN
 omega
theorem KFZ:hexN 0=-1:=by decide +kernel
theorem KLD:∀ a b:Fin 16,IntKind.wrap .u8 (iOr .i64 (iShl .i64 (a.val:Int) 4) (b.val:Int))=((UInt8.ofNat (((a.val:Int) * 16+(b.val:Int)).toNat)).toNat:Int):=by decide +kernel
theorem hexb {x y:Int} (hx:0≤x) (hx2:x≤15) (hy:0≤y) (hy2:y≤15):IntKind.wrap .u8 (iOr .i64 (iShl .i64 x 4) y)=((UInt8.ofNat ((x * 16+y).toNat)).toNat:Int):=by
 have:=KLD ⟨x.toNat,by omega⟩ ⟨y.toNat,by omega⟩
 simp only [Int.toNat_of_nonneg hx,Int.toNat_of_nonneg hy] at this
 exact this
theorem KHP {c:UInt8} {h:Heap} {Q:Int→Heap→Prop} (H:Q (hexN c) h):(UU (⟨#[48,49,50,51,52,53,54,55,56,57,97,98,99,100,101,102]⟩:ByteArray) (c.toNat:Int)).wp h Q:=by
 unfold UU Zf
 refine KJ (KG (KG ?_))
 have:(c.toNat:Int).toNat.toUInt8=c:=by rw [Int.toNat_natCast]; simp
 rw [this]
 exact H
def escP (s:List UInt8) (i:Nat):Except Nat (UInt8 × Nat) :=
 if KR s i=39∨KR s i=92 then .ok (KR s i,i+1)
 else match GH s [120] i with
  | .error e=>.error e
  | .ok j=>if hexN (KR s j) < 0∨(1 < hexN (KR s j)∧hexN (KR s j) < 7) then .error j
   else if hexN (KR s (j+1)) < 0∨(hexN (KR s j)=7∧hexN (KR s (j+1)) < 15) then .error (j+1)
   else .ok (UInt8.ofNat ((hexN (KR s j) * 16+hexN (KR s (j+1))).toNat),j+2)
theorem KJa {s:List UInt8} {i:Nat} (h:0≤hexN (KR s i)):i < s.length:=by
 refine U2 (fun e=>?_)
 rw [e,KFZ] at h
 omega
theorem u8_c {c d:UInt8} {n:Int} (hn:n=(d.toNat:Int)):((c.toNat:Int) == n)=decide (c=d):=by
 subst hn
 rw [eqI]
 refine decide_eq_decide.2 ⟨fun h=>UInt8.toNat_inj.1 (by omega),fun h=>by rw [h]⟩
theorem KLE {h:Heap} {Q:Value ⊕ Int→Heap→Prop} {b i:Nat} {s:List UInt8} (R:Rd h b s i)
  (H1:∀ (c:UInt8) j h',escP s i=.ok (c,j)→Kb b h h'→Rd h' b s j→Q (.inr (c.toNat:Int)) h') (H2:∀ e h',escP s i=.error e→Kb b h h'→Q (.inl (Nu e)) h'):(Ji (some ⟨b,0,none⟩)).wp h Q:=by
 unfold Ji
 refine KJ (Un R ?_)
 rw [u8_c (d:=39) (n:=39) rfl,u8_c (d:=92) (n:=92) rfl]
 refine or_b (c:=decide (KR s i=92)) (fun _ Q' hq=>KG hq) ?_
 refine Kc (fun hc=>?_) (fun hc=>?_)
 ·rw [Bool.or_eq_true,decide_eq_true_iff,decide_eq_true_iff] at hc
  have hi:i < s.length:=U2 (by rcases hc with h | h <;> (rw [h]; decide))
  refine KCW R hi (fun h1 u1 R1=>KG (H1 _ _ _ ?_ (Km.upd u1 rfl) R1))
  unfold escP
  rw [if_pos hc]
 ·have hc':¬ (KR s i=39∨KR s i=92):=by
   intro hh
   rw [← decide_eq_true_iff (p:=KR s i=39),← decide_eq_true_iff (p:=KR s i=92),← Bool.or_eq_true,hc] at hh
   cases hh
  refine Gc (YW (lit:=[120]) R (by decide) (fun j h1 hj K1 R1=>?_) (fun e h1 hj K1=>?_))
  ·have hE:escP s i=if hexN (KR s j) < 0∨(1 < hexN (KR s j)∧hexN (KR s j) < 7) then .error j
     else if hexN (KR s (j+1)) < 0∨(hexN (KR s j)=7∧hexN (KR s (j+1)) < 15) then .error (j+1)
     else .ok (UInt8.ofNat ((hexN (KR s j) * 16+hexN (KR s (j+1))).toNat),j+2):=by
    unfold escP
    rw [if_neg hc',hj]
   refine KJ (Un R1 (KJ (KHP ?_)))
   refine Jq (Jq (KBf R1 (KGV R1 ?_)))
   have hbad:(hexN (KR s j) < 0∨(1 < hexN (KR s j)∧hexN (KR s j) < 7))→(Kl (some ⟨b,0,none⟩) (hexN (KR s j)) true).wp h1 Q:=fun hb=>by
    unfold Kl
    rw [if_pos hb] at hE
    exact iteT rfl (Vd R1 (H2 _ _ hE K1))
   have hgood:¬ (hexN (KR s j) < 0∨(1 < hexN (KR s j)∧hexN (KR s j) < 7))→(Kl (some ⟨b,0,none⟩) (hexN (KR s j)) false).wp h1 Q:=fun hb=>by
    unfold Kl Z5
    rw [if_neg hb] at hE
    have hjl:j < s.length:=KJa (by omega)
    refine iteF rfl (KCW R1 hjl (fun h2 u2 R2=>?_))
    have K2:Kb b h h2:=K1.trans (Km.upd u2 rfl)
    refine KJ (Un R2 (KJ (KHP ?_)))
    refine Jq (Jq (KBf R2 (KGV R2 ?_)))
    have hbad2:(hexN (KR s (j+1)) < 0∨(hexN (KR s j)=7∧hexN (KR s (j+1)) < 15))→(Kk (some ⟨b,0,none⟩) (hexN (KR s j)) (hexN (KR s (j+1))) true).wp h2 Q:=fun hb=>by
     unfold Kk
     rw [if_pos hb] at hE
     exact iteT rfl (Vd R2 (H2 _ _ hE K2))
    have hgood2:¬ (hexN (KR s (j+1)) < 0∨(hexN (KR s j)=7∧hexN (KR s (j+1)) < 15))→(Kk (some ⟨b,0,none⟩) (hexN (KR s j)) (hexN (KR s (j+1))) false).wp h2 Q:=fun hb2=>by
     unfold Kk Z4
     rw [if_neg hb2] at hE
     have hjl2:j+1 < s.length:=KJa (by omega)
     refine iteF rfl (KCW R2 hjl2 (fun h3 u3 R3=>KG ?_))
     rw [hexb (by omega) (KCY _) (by omega) (KCY _)]
     exact H1 _ _ _ hE (K2.trans (Km.upd u3 rfl)) R3
    refine Kc (fun hge=>?_) (fun hlt=>?_)
    ·refine hbad2 (.inl ?_)
     have hge:=of_decide_eq_true hge
     rw [JD] at hge
     have:KR s (j+1)=0:=by unfold KR; rw [List.getElem?_eq_none (by omega)]; rfl
     rw [this,KFZ]; decide
    ·refine Kc (fun hn=>hbad2 (.inl (of_decide_eq_true hn))) (fun hn=>?_)
     have hn:=of_decide_eq_false hn
     refine Kc (fun h7=>?_) (fun h7=>?_)
     ·rw [eqI,decide_eq_true_iff] at h7
      by_cases h15:hexN (KR s (j+1)) < 15
      ·rw [decide_eq_true h15]
       exact hbad2 (.inr ⟨h7,h15⟩)
      ·rw [decide_eq_false h15]
       exact hgood2 (fun hh=>hh.elim hn (fun hh=>h15 hh.2))
     ·rw [eqI,decide_eq_false_iff_not] at h7
      exact hgood2 (fun hh=>hh.elim hn (fun hh=>h7 hh.1))
   refine Kc (fun hge=>?_) (fun hlt=>?_)
   ·refine hbad (.inl ?_)
    have hge:=of_decide_eq_true hge
    rw [JD] at hge
    have:KR s j=0:=by unfold KR; rw [List.getElem?_eq_none (by omega)]; rfl
    rw [this,KFZ]; decide
   ·refine Kc (fun hn=>hbad (.inl (of_decide_eq_true hn))) (fun hn=>?_)
    have hn:=of_decide_eq_false hn
    refine Kc (fun h1'=>?_) (fun h1'=>?_)
    ·have h1':=of_decide_eq_true h1'
     by_cases h7:hexN (KR s j) < 7
     ·rw [decide_eq_true h7]
      exact hbad (.inr ⟨h1',h7⟩)
     ·rw [decide_eq_false h7]
      exact hgood (fun hh=>hh.elim hn (fun hh=>h7 hh.2))
    ·have h1':=of_decide_eq_false h1'
     exact hgood (fun hh=>hh.elim hn (fun hh=>h1' hh.1))
  ·refine H2 e h1 ?_ K1
   unfold escP
   rw [if_neg hc',hj]
theorem KJb {s:List UInt8} {i j:Nat} {c:UInt8} (h:escP s i=.ok (c,j)):i < j∧j≤s.length:=by
 unfold escP at h
 split at h
 ·rename_i hc
  have hi:i < s.length:=U2 (by rcases hc with h | h <;> (rw [h]; decide))
  cases h
  omega
 ·split at h
  ·cases h
  ·rename_i j' hj
   obtain ⟨h1,h2,_⟩:=U4 hj
   split at h
   ·cases h
   ·split at h
    ·cases h
    ·rename_i hn
     have:=KJa (s:=s) (i:=j'+1) (by omega)
     cases h
     have:j'=i+1:=h1
     omega
def strL (s:List UInt8):Nat→Nat→List UInt8→Except Nat (List UInt8 × Nat)
 | 0,i,_=>.error i
 | f+1,i,acc =>
  if KR s i=39 then .ok (acc,i+1)
  else if (KR s i).toNat < 32∨126 < (KR s i).toNat then .error i
  else if KR s i=92 then (match escP s (i+1) with | .error e=>.error e | .ok (d,j)=>strL s f j (acc++[d]))
  else strL s f (i+1) (acc++[KR s i])
def strP (s:List UInt8) (i:Nat):Except Nat (List UInt8 × Nat):=match GH s [39] i with | .error e=>.error e | .ok j=>strL s (s.length+1 - j) j []
theorem KLF {β:Type} {lo:Nat} {h:Heap} {Q:β→Heap→Prop} {r:Sl} {l:List UInt8} {c:UInt8} {f:Sl→M β} (G:Gw lo h r 1 (l.map bv)) (hle:lo≤h.size) (hm:l.length≤1099511627776)
  (H:∀ h' r',Gw lo h' r' 1 ((l++[c]).map bv)→h.size≤h'.size→(∀ j,j < lo→h'[j]?=h[j]?)→(f r').wp h' Q):(bdL K9 1 #[.int .u8 (c.toNat:Int)]>>=fun x=>apL K9 1 1 (#[.int .u8 0]:Array Value) r x>>=f).wp h Q:=by
 refine KAf ?_
 have e6:=Ext.push h (.cells #[.int .u8 (c.toNat:Int)] K9)
 have g6:(h.push (.cells #[.int .u8 (c.toNat:Int)] K9))[h.size]?=some (.cells #[.int .u8 (c.toNat:Int)] K9 (0,0)):=Ko
 generalize h.push (.cells #[.int .u8 (c.toNat:Int)] K9)=h6 at e6 g6 ⊢
 have G6:=G.ext e6
 have hrl:=G6.len
 rw [List.length_map,Nat.mul_one] at hrl
 refine KD6 (vs:=l.map bv) (news:=[bv c]) rfl G6 rfl (.inr ⟨_,rfl,fun j v hj=>?_⟩) (fun v hv=>by simp at hv; subst hv; rfl) (by dsimp only; omega) (by dsimp only; omega) (by have:=e6.size; omega) (fun h7 r7 G7 hlen7 hs7 same7 on7=>?_)
 ·rw [Kg,Nat.zero_add,KS g6]
  rw [show (#[.int .u8 (c.toNat:Int)]:Array Value)=[bv c].toArray from rfl]
  simpa using hj
 ·refine H h7 r7 (by rw [List.map_append]; exact G7) (Nat.le_trans e6.size hs7) (fun j hj=>(same7 j (by have:=e6.size; omega) (fun ho=>by have:=(G6.lt ho).2; omega)).trans (e6.same j (by omega)))
theorem KLG {h:Heap} {Q:Value ⊕ ByteArray→Heap→Prop} {b i:Nat} {s:List UInt8} (R:Rd h b s i)
  (H1:∀ t j h',strP s i=.ok (t,j)→Kb b h h'→Rd h' b s j→Q (.inr (bs t)) h') (H2:∀ e h',strP s i=.error e→Kb b h h'→Q (.inl (Nu e)) h'):(Ul (some ⟨b,0,none⟩)).wp h Q:=by
 unfold Ul
 refine Gc (YW (lit:=[39]) R (by decide) (fun j h1 hj K1 R1=>?_) (fun e h1 hj K1=>?_))
 ·have hP:strP s i=strL s (s.length+1 - j) j []:=by unfold strP; rw [hj]
  rw [hP] at H1 H2
  have hb:=R1.lt
  refine M.loop_inv (fun (x:Sl) hh=>∃ (acc:List UInt8) (f i':Nat),s.length < f+i'∧acc.length≤i'∧Kb b h1 hh∧Rd hh b s i'∧Gw h1.size hh x 1 (acc.map bv)∧strL s f i' acc=strL s (s.length+1 - j) j [])
   (fun x _=>s.length+1 - x.len) ?_ ⟨[],_,j,by have:=R1.le; omega,Nat.zero_le _,Km.refl _ _,R1,Gw.nil _ _ _,rfl⟩
  rintro x hh ⟨acc,f,i',hf,hai,K,R',G,hm⟩ self hself
  have hsm:=R'.small
  have hle:=R'.le
  have hxl:=G.len
  rw [List.length_map,Nat.mul_one] at hxl
  obtain ⟨f,rfl⟩:∃ g,f=g+1:=⟨f - 1,by omega⟩
  rw [strL] at hm
  unfold Ug
  refine KJ (Un R' ?_)
  rw [show (((KR s i').toNat:Int) != 39)=!decide (KR s i'=39) by rw [← u8_c (d:=39) (n:=39) rfl]; rfl]
  refine Kc (fun hne=>?_) (fun heq=>?_)
  ·have hne:KR s i'≠39:=by simpa using hne
   rw [if_neg hne] at hm
   refine KJ (Un R' ?_)
   refine or_b (c:=decide (((KR s i').toNat:Int) > 126)) (fun _ Q' hq=>KG hq) ?_
   refine Kc (fun hbad=>?_) (fun hok=>?_)
   ·rw [Bool.or_eq_true,decide_eq_true_iff,decide_eq_true_iff] at hbad
    rw [if_pos (by omega)] at hm
    exact Vd R' (H2 _ _ hm.symm (K1.trans K))
   ·rw [Bool.or_eq_false_iff,decide_eq_false_iff_not,decide_eq_false_iff_not] at hok
    rw [if_neg (by omega)] at hm
    have hil:i' < s.length:=U2 (fun e=>by rw [e] at hok; exact absurd hok.1 (by decide))
    unfold Ju
    refine KCW R' hil (fun h2 u2 R2=>?_)
    have K2:Kb b h1 h2:=K.trans (Km.upd u2 rfl)
    have G2:Gw h1.size h2 x 1 (acc.map bv):=G.same (fun k hk=>u2.ne k (fun e=>by have:=(G.lt hk).2; omega))
    have hs2:h1.size≤h2.size:=K2.size
    have next:∀ (c:UInt8) (i2:Nat) (h3:Heap),i' < i2→Kb b h1 h3→Rd h3 b s i2→Gw h1.size h3 x 1 (acc.map bv)→strL s f i2 (acc++[c])=strL s (s.length+1 - j) j []→(JL self x (c.toNat:Int)).wp h3 Q:=by
     intro c i2 h3 hi2 K3 R3 G3 hm3
     unfold JL
     refine KLF G3 K3.size (by omega) (fun h4 r4 G4 hs4 same4=>?_)
     have hl4:=G4.len
     rw [List.length_map,List.length_append,List.length_singleton,Nat.mul_one] at hl4
     refine hself _ _ ⟨acc++[c],f,i2,by omega,by rw [List.length_append,List.length_singleton]; omega,⟨Nat.le_trans K3.size hs4,fun k hk hkb=>(same4 k hk).trans (K3.same k hk hkb)⟩,⟨by rw [same4 b hb]; exact R3.blk,R3.le,R3.small⟩,G4,hm3⟩ ?_
     omega
    by_cases h92:KR s i'=92
    ·rw [if_pos h92] at hm
     refine iteT (by rw [u8_c (d:=92) (n:=92) rfl,decide_eq_true h92]) (Gc (KLE R2 (fun c j2 h3 he K3 R3=>?_) (fun e h3 he K3=>?_)))
     ·rw [he] at hm
      exact next c j2 h3 (by have:=KJb he; omega) (K2.trans K3) R3 (G2.same (fun k hk=>K3.same k (G2.lt hk).1 (fun e=>by have:=(G2.lt hk).2; omega))) hm
     ·rw [he] at hm
      exact H2 _ _ hm.symm (K1.trans (K2.trans K3))
    ·rw [if_neg h92] at hm
     refine iteF (by rw [u8_c (d:=92) (n:=92) rfl,decide_eq_false h92]) ?_
     exact next _ (i'+1) h2 (by omega) K2 R2 G2 hm
  ·have heq:KR s i'=39:=by simpa using heq
   rw [if_pos heq] at hm
   have hil:i' < s.length:=U2 (by rw [heq]; decide)
   refine KCW R' hil (fun h2 u2 R2=>?_)
   have G2:Gw h1.size h2 x 1 (acc.map bv):=G.same (fun k hk=>u2.ne k (fun e=>by have:=(G.lt hk).2; omega))
   refine KOC (ns:=acc) hxl G2.reads (KG ?_)
   exact H1 _ _ _ hm.symm (K1.trans (K.trans (Km.upd u2 rfl))) R2
 ·refine H2 e h1 ?_ K1
  unfold strP
  rw [hj]
end Gx
namespace Gx
open Go Go.Proofs Go.Shelf Go.RowKit Go.Lib
set_option linter.unusedVariables false
set_option linter.unusedSimpArgs false
set_option maxRecDepth 100000
def KAQ (k:Int) (s:List UInt8) (i:Nat):Except Nat (Vl × Nat) :=
 match GH s [91] (i+1) with
 | .error e=>.error e
 | .ok j=>match numF s j with
  | .error e=>.error e
  | .ok (n,j2)=>match GH s [93] j2 with
   | .error e=>.error e
   | .ok j3=>.ok (.mk k n [] [],j3)
def Xq (pv:Nat→Except Nat (Vl × Nat)) (two:Bool) (s:List UInt8) (i:Nat):Except Nat (List Vl × Nat) :=
 match pv i with
 | .error e=>.error e
 | .ok (v,j)=>if two=true then (match GH s [58,32] j with
   | .error e=>.error e
   | .ok j2=>match pv j2 with
    | .error e=>.error e
    | .ok (w,j3)=>.ok ([v,w],j3)) else .ok ([v],j)
def sepP (l:List Vl) (s:List UInt8) (i:Nat):Except Nat Nat:=if l.length=0 then .ok i else GH s [44,32] i
def VS (pv:Nat→Except Nat (Vl × Nat)) (en:UInt8) (two:Bool) (s:List UInt8):Nat→List Vl→Nat→Except Nat (List Vl × Nat)
 | 0,_,i=>.error i
 | f+1,l,i=>if KR s i=en then .ok (l,i+1) else
  match sepP l s i with
  | .error e=>.error e
  | .ok i1=>match Xq pv two s i1 with
   | .error e=>.error e
   | .ok (vs,i2)=>if KR s i2≠en∧KR s i2≠44 then .error i2 else VS pv en two s f (l++vs) i2
def pval (s:List UInt8):Nat→Nat→Except Nat (Vl × Nat)
 | 0,i=>.error i
 | d+1,i =>
  if KR s i=45∨digB (KR s i)=true then (match numF s i with | .error e=>.error e | .ok (n,j)=>.ok (.mk 1 n [] [],j))
  else if KR s i=39 then (match strP s i with | .error e=>.error e | .ok (t,j)=>.ok (.mk 2 0 t [],j))
  else if KR s i=116 then (match GH s [116,114,117,101] i with | .error e=>.error e | .ok j=>.ok (.mk 3 1 [] [],j))
  else if KR s i=102 then (match GH s [102,97,108,115,101] i with | .error e=>.error e | .ok j=>.ok (.mk 3 0 [] [],j))
  else if KR s i=118 then KAQ 6 s i
  else if KR s i=101 then KAQ 7 s i
  else if KR s i=91 then (match VS (pval s d) 93 false s (s.length - i) [] (i+1) with | .error e=>.error e | .ok (l,j)=>.ok (.mk 4 0 [] l,j))
  else if KR s i=123 then (match VS (pval s d) 125 true s (s.length - i) [] (i+1) with | .error e=>.error e | .ok (l,j)=>.ok (.mk 5 0 [] l,j))
  else .error i
theorem KIE {t:List UInt8} {n:Int} (h:Lib.parseIntB 64 t=.ok n):I64 n:=by
 unfold parseIntB at h
 split at h
 ·cases h
 ·dsimp only at h
  split at h
  ·cases h
  ·cases h
  ·split at h
   ·cases h
   ·split at h
    ·cases h
    ·rename_i u _ h1 h2
     cases h
     have e63:(2:Nat) ^ (64 - 1)=9223372036854775808:=by decide
     rw [e63] at h1 h2
     unfold I64
     split <;> rename_i h3 <;> (simp only [h3,not_true_eq_false,not_false_eq_true,true_and,false_and] at h1 h2; omega)
theorem KEe {t:List UInt8} (h:(numP t).2=0):I64 (numP t).1:=by
 unfold numP at h ⊢
 split
 ·rename_i h1; rw [if_pos h1] at h; exact absurd h (by decide)
 ·rename_i h1
  rw [if_neg h1] at h
  split
  ·rename_i h2; rw [if_pos h2] at h; exact absurd h (by decide)
  ·rename_i h2
   rw [if_neg h2] at h
   split
   ·rename_i h3; rw [if_pos h3] at h; exact absurd h (by decide)
   ·rename_i h3
    rw [if_neg h3] at h
    split
    ·rename_i n hn; exact KIE hn
    ·rename_i hne
     exfalso
     revert h
     split
     ·rename_i n hn; exact absurd hn (hne n)
     ·decide
theorem KJc {s:List UInt8} {fr:Nat}:∀ {f i:Nat} {n m:Int} {j:Nat},numL s fr f i n=.ok (m,j)→I64 n→i≤s.length→I64 m∧i≤j∧j≤s.length
 | 0,i,n,m,j,h,hn,hi=>by cases h; exact ⟨hn,Nat.le_refl _,hi⟩
 | f+1,i,n,m,j,h,hn,hi=>by
  rw [numL] at h
  split at h
  ·rename_i hd
   have hil:=KHO hd
   split at h
   ·cases h
   ·split at h
    ·cases h; exact ⟨hn,Nat.le_refl _,hi⟩
    ·rename_i h0
     have:=KJc h (KEe (Classical.not_not.1 h0)) (by omega)
     exact ⟨this.1,by omega,this.2.2⟩
  ·cases h; exact ⟨hn,Nat.le_refl _,hi⟩
theorem KJd:∀ n:Fin 256,digB (UInt8.ofNat n.val)=true→(numP [UInt8.ofNat n.val]).2=0∧(UInt8.ofNat n.val≠48→(numP [45,UInt8.ofNat n.val]).2=0):=by decide +kernel
theorem N4 {c:UInt8} (h:digB c=true):(numP [c]).2=0∧(c≠48→(numP [45,c]).2=0):=by
 have:=KJd ⟨c.toNat,c.toNat_lt⟩
 simp only [UInt8.ofNat_toNat] at this
 exact this h
theorem KEf {s:List UInt8} {i j:Nat} {n:Int} (h:numF s i=.ok (n,j)) (hi:i≤s.length):I64 n∧i < j∧j≤s.length:=by
 unfold numF at h
 split at h
 ·cases h
 ·rename_i hb
  have hd:digB (KR s (numJ s i))=true:=by
   cases hh:digB (KR s (numJ s i)) with
   | true=>rfl
   | false=>exact absurd (.inl hh) hb
  have hil:=KHO hd
  have hij:i≤numJ s i:=by unfold numJ; split <;> omega
  rw [show s.length - numJ s i=(s.length - (numJ s i+1))+1 by omega,numL,if_pos hd] at h
  have ht:(numP ((s.drop i).take (numJ s i+1 - i))).2=0:=by
   by_cases h45:KR s i=45
   ·have hJ:numJ s i=i+1:=by unfold numJ; rw [if_pos h45]
    rw [hJ] at hb hd hil ⊢
    have h2:(s.drop i).take (i+1+1 - i)=[45,KR s (i+1)]:=by
     rw [show i+1+1 - i=2 by omega,List.drop_eq_getElem_cons (by omega),List.drop_eq_getElem_cons hil]
     rw [X3 hil,← h45,X3 (by omega)]
     rfl
    rw [h2]
    exact (N4 hd).2 (fun e=>hb (.inr ⟨by omega,e⟩))
   ·have hJ:numJ s i=i:=by unfold numJ; rw [if_neg h45]
    rw [hJ] at hd hil ⊢
    have h2:(s.drop i).take (i+1 - i)=[KR s i]:=by
     rw [show i+1 - i=1 by omega,List.drop_eq_getElem_cons hil,X3 hil]
     rfl
    rw [h2]
    exact (N4 hd).1
  rw [if_neg (by rw [ht]; decide),if_neg (by rw [ht]; exact fun h=>h rfl)] at h
  have:=KJc h (KEe ht) (by omega)
  exact ⟨this.1,by omega,this.2.2⟩
theorem KGW {s:List UInt8}:∀ {f i:Nat} {acc t:List UInt8} {j:Nat},strL s f i acc=.ok (t,j)→i < j∧j≤s.length∧t.length+i≤acc.length+j
 | 0,i,acc,t,j,h=>by cases h
 | f+1,i,acc,t,j,h=>by
  rw [strL] at h
  split at h
  ·rename_i h39
   have:=U2 (s:=s) (i:=i) (by rw [h39]; decide)
   cases h
   omega
  ·split at h
   ·cases h
   ·split at h
    ·split at h
     ·cases h
     ·rename_i d j2 he
      have h1:=KJb he
      have h2:=KGW h
      rw [List.length_append,List.length_singleton] at h2
      omega
    ·have h2:=KGW h
     rw [List.length_append,List.length_singleton] at h2
     omega
theorem KGX {s:List UInt8} {i j:Nat} {t:List UInt8} (h:strP s i=.ok (t,j)):i < j∧j≤s.length∧t.length≤s.length:=by
 unfold strP at h
 split at h
 ·cases h
 ·rename_i j1 hj
  have h1:=(U4 hj).1
  have h2:=KGW h
  rw [List.length_nil] at h2
  omega
theorem KBn {s:List UInt8} {i j:Nat} {k:Int} {v:Vl} (h:KAQ k s i=.ok (v,j)):∃ n,v=.mk k n [] []∧I64 n∧i < j∧j≤s.length:=by
 unfold KAQ at h
 split at h
 ·cases h
 ·rename_i j1 h1
  split at h
  ·cases h
  ·rename_i n j2 h2
   split at h
   ·cases h
   ·rename_i j3 h3
    cases h
    have a1:=U4 h1
    have a2:=KEf h2 (a1.2.1 (by simp))
    have a3:=U4 h3
    have b1:j1=i+1+1:=a1.1
    have b3:j=j2+1:=a3.1
    exact ⟨n,rfl,a2.1,by omega,a3.2.1 (by simp)⟩
def Prog (s:List UInt8) (pv:Nat→Except Nat (Vl × Nat)):Prop:=∀ i v j,pv i=.ok (v,j)→i < j∧j≤s.length
theorem KLH {s:List UInt8} {pv:Nat→Except Nat (Vl × Nat)} (hp:Prog s pv) {two:Bool} {i j:Nat} {vs:List Vl} (h:Xq pv two s i=.ok (vs,j)):i+vs.length≤j∧0 < vs.length∧j≤s.length:=by
 unfold Xq at h
 split at h
 ·cases h
 ·rename_i v j1 h1
  have a1:=hp _ _ _ h1
  split at h
  ·split at h
   ·cases h
   ·rename_i j2 h2
    have a2:j2=j1+2:=(U4 h2).1
    split at h
    ·cases h
    ·rename_i w j3 h3
     have a3:=hp _ _ _ h3
     cases h
     simp only [List.length_cons,List.length_nil]
     omega
  ·cases h
   simp only [List.length_cons,List.length_nil]
   omega
theorem KND {l:List Vl} {s:List UInt8} {i j:Nat} (h:sepP l s i=.ok j):i≤j:=by
 unfold sepP at h
 split at h
 ·cases h; exact Nat.le_refl _
 ·have:j=i+2:=(U4 h).1
  omega
theorem KEg {s:List UInt8} {pv:Nat→Except Nat (Vl × Nat)} (hp:Prog s pv) {en:UInt8} (he:en≠0) {two:Bool}:∀ {f i:Nat} {l t:List Vl} {j:Nat},VS pv en two s f l i=.ok (t,j)→i < j∧j≤s.length∧t.length+i≤l.length+j
 | 0,i,l,t,j,h=>by cases h
 | f+1,i,l,t,j,h=>by
  rw [VS] at h
  split at h
  ·rename_i hh
   have:=U2 (s:=s) (i:=i) (by rw [hh]; exact he)
   cases h
   omega
  ·split at h
   ·cases h
   ·rename_i i1 h1
    have a1:=KND h1
    split at h
    ·cases h
    ·rename_i vs i2 h2
     have a2:=KLH hp h2
     split at h
     ·cases h
     ·have:=KEg hp he h
      rw [List.length_append] at this
      omega
theorem KGY (s:List UInt8):∀ d,Prog s (pval s d)
 | 0=>fun i v j h=>by cases h
 | d+1=>fun i v j h=>by
  have ih:=KGY s d
  rw [pval] at h
  split at h
  ·rename_i hc
   have hi:i < s.length:=U2 (fun e=>by rw [e] at hc; exact absurd hc (by decide))
   split at h
   ·cases h
   ·rename_i n j1 h1
    cases h
    exact (KEf h1 (by omega)).2
  ·split at h
   ·split at h
    ·cases h
    ·rename_i t j1 h1
     cases h
     exact ⟨(KGX h1).1,(KGX h1).2.1⟩
   ·split at h
    ·split at h
     ·cases h
     ·rename_i j1 h1
      cases h
      have a:=U4 h1
      have a1:j=i+4:=a.1
      exact ⟨by omega,a.2.1 (by simp)⟩
    ·split at h
     ·split at h
      ·cases h
      ·rename_i j1 h1
       cases h
       have a:=U4 h1
       have a1:j=i+5:=a.1
       exact ⟨by omega,a.2.1 (by simp)⟩
     ·split at h
      ·obtain ⟨n,_,_,h3⟩:=KBn h
       exact h3
      ·split at h
       ·obtain ⟨n,_,_,h3⟩:=KBn h
        exact h3
       ·split at h
        ·split at h
         ·cases h
         ·rename_i l j1 h1
          have a:=KEg ih (by decide) h1
          cases h
          omega
        ·split at h
         ·split at h
          ·cases h
          ·rename_i l j1 h1
           have a:=KEg ih (by decide) h1
           cases h
           omega
         ·cases h
end Gx
