/- Own proofs: what those Lean programs compute. No condition. -/
import Derived.Test.YthelieedlghccaaGreatDoorP0
import Derived.Test.YthelieedlghccaaGreatDoorP1
import Derived.Test.YthelieedlghccaaGreatDoorP2
import Derived.Test.YthelieedlghccaaGreatDoorP3
import Derived.Test.YthelieedlghccaaGreatDoorP4
import Derived.Test.YthelieedlghccaaGreatDoorP5
import Derived.Test.YthelieedlghccaaGreatDoorTie
import Derived.KernelRfl
import Derived.ChangeArms
import Derived.DataReads
set_option linter.unusedVariables false
set_option linter.unusedSimpArgs false
namespace Gx
open Go
set_option linter.unusedVariables false
set_option linter.unusedSimpArgs false
abbrev bs (l:List UInt8):ByteArray:=⟨l.toArray⟩
inductive Vl where
 | mk (k n:Int) (s:List UInt8) (l:List Vl)
def Vl.k:Vl→Int | .mk k _ _ _=>k
def Vl.n:Vl→Int | .mk _ n _ _=>n
def Vl.s:Vl→List UInt8 | .mk _ _ s _=>s
def Vl.l:Vl→List Vl | .mk _ _ _ l=>l
instance:Inhabited Vl:=⟨.mk 0 0 [] []⟩
def I64 (n:Int):Prop:=-9223372036854775808≤n∧n≤9223372036854775807
def ZT (k n:Int) (s:List UInt8) (x:Sl):Array Value:=#[.int .i64 k,.int .i64 n,.string (bs s),x.v]
mutual
def VRep (h:Heap):Vl→Array Value→Prop
 | .mk k n s l,cs=>∃ x:Sl,cs=ZT k n s x∧I64 k∧I64 n∧s.length≤9223372036854775807∧(x.len=l.length∧x.len≤x.cap∧x.len≤9223372036854775807∧VsAt h l x.base 0)
def VsAt (h:Heap):List Vl→Option Addr→Nat→Prop
 | [],_,_=>True
 | v::l,b,i=>(∃ a cs,b=some a∧cs.size=4∧(∀ j,j < 4→KO h (a.add (i * 4+j))=cs[j]?)∧VRep h v cs)∧VsAt h l b (i+1)
end
structure VsRep (h:Heap) (x:Sl) (l:List Vl):Prop where
 len:x.len=l.length
 cap:x.len≤x.cap
 big:x.len≤9223372036854775807
 at_:VsAt h l x.base 0
theorem VRep.eq {h:Heap} {k n:Int} {s:List UInt8} {l:List Vl} {cs:Array Value}:VRep h (.mk k n s l) cs↔∃ x:Sl,cs=ZT k n s x∧I64 k∧I64 n∧s.length≤9223372036854775807∧VsRep h x l:=by
 rw [VRep]
 constructor
 ·rintro ⟨x,h1,h2,h3,h4,h5,h6,h7,h8⟩; exact ⟨x,h1,h2,h3,h4,h5,h6,h7,h8⟩
 ·rintro ⟨x,h1,h2,h3,h4,h5,h6,h7,h8⟩; exact ⟨x,h1,h2,h3,h4,h5,h6,h7,h8⟩
theorem VRep.size {h:Heap}:∀ {v:Vl} {cs:Array Value},VRep h v cs→cs.size=4
 | .mk _ _ _ _,cs,H=>by obtain ⟨x,rfl,_⟩:=VRep.eq.1 H; rfl
theorem VRep.one {h:Heap}:∀ {v:Vl} {cs:Array Value},VRep h v cs→∀ u ∈ cs.toList,Gx.one u=true
 | .mk _ _ _ _,cs,H=>by
  obtain ⟨x,rfl,_⟩:=VRep.eq.1 H
  intro u hu
  simp only [ZT,List.mem_cons,List.not_mem_nil,or_false] at hu
  rcases hu with rfl | rfl | rfl | rfl <;> first | rfl | exact KEo _
theorem VsAt.get {h:Heap}:∀ {l:List Vl} {b:Option Addr} {i:Nat},VsAt h l b i→∀ {j:Nat} (hj:j < l.length),∃ a cs,b=some a∧cs.size=4∧(∀ m,m < 4→KO h (a.add ((i+j) * 4+m))=cs[m]?)∧VRep h l[j] cs
 | [],_,_,_,j,hj=>by simp at hj
 | v::l,b,i,H,0,hj=>by rw [VsAt] at H; exact H.1
 | v::l,b,i,H,j+1,hj=>by
  rw [VsAt] at H
  have:=VsAt.get H.2 (j:=j) (by simpa using hj)
  rw [show i+(j+1)=i+1+j by omega]
  exact this
theorem VsAt.of {h:Heap}:∀ {l:List Vl} {b:Option Addr} {i:Nat},(∀ j (hj:j < l.length),∃ a cs,b=some a∧cs.size=4∧(∀ m,m < 4→KO h (a.add ((i+j) * 4+m))=cs[m]?)∧VRep h l[j] cs)→VsAt h l b i
 | [],_,_,_=>by rw [VsAt]; trivial
 | v::l,b,i,H=>by
  rw [VsAt]
  refine ⟨H 0 (by simp),VsAt.of (fun j hj=>?_)⟩
  have:=H (j+1) (by simpa using hj)
  rw [show i+1+j=i+(j+1) by omega]
  exact this
theorem VsRep.get {h:Heap} {x:Sl} {l:List Vl} (H:VsRep h x l) {j:Nat} (hj:j < l.length):∃ a cs,x.base=some a∧cs.size=4∧(∀ m,m < 4→KO h (a.add (j * 4+m))=cs[m]?)∧VRep h l[j] cs:=by
 have:=H.at_.get hj
 rw [Nat.zero_add] at this
 exact this
theorem Ext.row {h h':Heap} (e:Ext h h') {a:Addr} {cs:Array Value} {i n:Nat} (hs:cs.size=n) (H:∀ m,m < n→KO h (a.add (i+m))=cs[m]?):∀ m,m < n→KO h' (a.add (i+m))=cs[m]?:=fun m hm=>by
 have h1:cs[m]?=some (cs[m]'(by omega)):=Array.getElem?_eq_getElem (by omega)
 rw [h1]
 exact e.cell (by rw [H m hm,h1])
theorem KNc {h h':Heap} (e:Ext h h'):∀ (m:Nat) (v:Vl) (cs:Array Value),sizeOf v < m→VRep h v cs→VRep h' v cs:=by
 intro m
 induction m with
 | zero=>intro v cs hm; omega
 | succ m ih =>
  rintro ⟨k,n,s,l⟩ cs hm H
  obtain ⟨x,h1,h2,h3,h4,h5⟩:=VRep.eq.1 H
  refine VRep.eq.2 ⟨x,h1,h2,h3,h4,h5.len,h5.cap,h5.big,VsAt.of (fun j hj=>?_)⟩
  obtain ⟨a,cs',ha,hs,hc,hv⟩:=h5.at_.get hj
  refine ⟨a,cs',ha,hs,e.row hs hc,ih _ _ ?_ hv⟩
  have:=List.sizeOf_lt_of_mem (List.getElem_mem hj)
  simp only [Vl.mk.sizeOf_spec] at hm
  omega
theorem VRep.ext {h h':Heap} {v:Vl} {cs:Array Value} (H:VRep h v cs) (e:Ext h h'):VRep h' v cs:=KNc e _ v cs (Nat.lt_succ_self _) H
theorem VsRep.ext {h h':Heap} {x:Sl} {l:List Vl} (H:VsRep h x l) (e:Ext h h'):VsRep h' x l :=
 ⟨H.len,H.cap,H.big,VsAt.of (fun j hj=>by
  obtain ⟨a,cs',ha,hs,hc,hv⟩:=H.at_.get hj
  exact ⟨a,cs',ha,hs,e.row hs hc,hv.ext e⟩)⟩
theorem VsRep.nil (h:Heap):VsRep h Sl.nil []:=⟨rfl,Nat.le_refl _,by decide,by rw [VsAt]; trivial⟩
def cmpI (a b:Int):Int:=if a < b then -1 else if b < a then 1 else 0
def cOr (a b:Int):Int:=if a=0 then b else a
mutual
def cmpV:Vl→Vl→Int
 | .mk k n s l,.mk k' n' s' l'=>cOr (cmpI k k') (cOr (cmpI n n') (cOr (Lib.compareBytes s s') (NR l l')))
def NR:List Vl→List Vl→Int
 | [],[]=>0
 | [],_::_=>-1
 | _::_,[]=>1
 | a::l,b::l'=>cOr (cmpV a b) (NR l l')
end
theorem ZU {β:Type} {t:TypeId} {h:Heap} {Q:β→Heap→Prop} {cs:Array Value} {f:Addr→M β} (H:∀ h',Ext h h'→h'.size=h.size+1→h'[h.size]?=some (.cells cs t (0,0))→(f ⟨h.size,0,none⟩).wp h' Q):(mkB t cs>>=f).wp h Q :=
 KNR (H _ (Ext.push _ _) (by simp) Kf)
theorem Kl {h:Heap} {b i:Nat} {cs:Array Value} {t:TypeId} {z:Nat × Nat} (hb:h[b]?=some (.cells cs t z)):KO h ((⟨b,0,none⟩:Addr).add i)=cs[i]?:=by
 rw [Kg,Nat.zero_add,KU hb]
theorem KG8 {a b:Int} {h:Heap} {Q:Int→Heap→Prop} (H:Q (cmpI a b) h):(WF a b).wp h Q:=by
 unfold WF YX
 refine Jr (Jr (iteF (by simp) (iteF (by simp) ?_)))
 unfold cmpI at H
 refine KP (fun hc=>?_) (fun hc=>?_)
 ·rw [if_pos (of_decide_eq_true hc)] at H; exact H
 ·rw [if_neg (of_decide_eq_false hc)] at H
  refine KP (fun hc=>?_) (fun hc=>?_)
  ·rw [if_pos (of_decide_eq_true hc)] at H; exact H
  ·rw [if_neg (of_decide_eq_false hc)] at H; exact H
theorem KE8 {a b:Int} {h:Heap} {Q:Int→Heap→Prop} (H:Q (cmpI a b) h):(VB a b).wp h Q:=by
 unfold VB WI
 refine Jr (Jr (iteF (by simp) (iteF (by simp) ?_)))
 unfold cmpI at H
 refine KP (fun hc=>?_) (fun hc=>?_)
 ·rw [if_pos (of_decide_eq_true hc)] at H; exact H
 ·rw [if_neg (of_decide_eq_false hc)] at H
  refine KP (fun hc=>?_) (fun hc=>?_)
  ·rw [if_pos (of_decide_eq_true hc)] at H; exact H
  ·rw [if_neg (of_decide_eq_false hc)] at H; exact H
def cOrs:List Int→Int
 | []=>0
 | a::l=>cOr a (cOrs l)
theorem KNd {t:TypeId} {b n:Nat} {zs:List Int} {h:Heap} {Q:Int→Heap→Prop} (hb:h[b]?=some (.cells (zs.map (Value.int .i64)).toArray t (0,0))) (hn:n=zs.length) (hz:zs.length≤1000) (H:Q (cOrs zs) h):(qO ⟨some ⟨b,0,none⟩,n,n⟩).wp h Q:=by
 subst hn
 unfold qO
 refine M.loop_inv (fun (t:Int) h'=>h'=h∧∃ i:Nat,t=(i:Int)∧i≤zs.length∧cOrs (zs.drop i)=cOrs zs) (fun t _=>((zs.length:Int) - t).toNat) ?_ ⟨rfl,0,rfl,Nat.zero_le _,by simp⟩
 rintro t h' ⟨rfl,i,rfl,hi,hd⟩ self hself
 unfold q7
 refine KP (fun hc=>?_) (fun hc=>?_)
 ·have hlt:i < zs.length:=by have:=of_decide_eq_true hc; dsimp only at this; omega
  refine Xi (by omega) (by dsimp only; omega) rfl ?_
  refine Zm (n:=zs[i]) (by rw [show (i:Int).toNat * 1=i by omega,Kl hb]; simp [hlt]) ?_
  rw [List.drop_eq_getElem_cons hlt,cOrs] at hd
  refine KP (fun hne=>?_) (fun heq=>?_)
  ·have hne:zs[i]≠0:=by simpa using hne
   rw [cOr,if_neg hne] at hd
   rw [← hd] at H
   exact KC H
  ·have heq:zs[i]=0:=by simpa using heq
   rw [cOr,if_pos heq] at hd
   rw [w64 (by omega) (by omega)]
   exact hself _ _ ⟨rfl,i+1,by simp,by omega,hd⟩ (by omega)
 ·have hge:i=zs.length:=by have:=of_decide_eq_false hc; dsimp only at this; omega
  subst hge
  rw [List.drop_length] at hd
  have hd:(0:Int)=cOrs zs:=hd
  rw [← hd] at H
  exact KC H
theorem KEJ {l l':List Vl} {h:Heap} {Q:Int→Heap→Prop} {x y:Sl} {g:Value} (hx:VsRep h x l) (hy:VsRep h y l')
  (hg:∀ j (hj:j < l.length) (hj':j < l'.length) h1 c c' (Q1:Int→Heap→Prop),Ext h h1→VRep h1 l[j] c→VRep h1 l'[j] c'→(∀ h2,Ext h1 h2→Q1 (cmpV l[j] l'[j]) h2)→(V7 Go.Proofs.Tryz.prog (fun r:Int=>.int .i64 r) g [.agg c,.agg c']).wp h1 Q1)
  (H:∀ h',Ext h h'→Q (NR l l') h'):(KX x y g).wp h Q:=by
 unfold KX
 have hxl:=hx.len
 have hyl:=hy.len
 have hxb:=hx.big
 have hyb:=hy.big
 have hxc:=hx.cap
 have hyc:=hy.cap
 refine M.loop_inv (fun (t:Int) h'=>Ext h h'∧∃ i:Nat,t=(i:Int)∧i≤l.length∧i≤l'.length∧NR (l.drop i) (l'.drop i)=NR l l') (fun t _=>((l.length:Int) - t).toNat) ?_ ⟨Ext.refl h,0,rfl,Nat.zero_le _,Nat.zero_le _,by simp⟩
 rintro t h' ⟨E,i,rfl,hi,hi',hd⟩ self hself
 unfold Kk
 rw [hxl,hyl]
 refine KP (fun hc=>?_) (fun hc=>?_)
 ·have hlt:i < l.length:=by have:=of_decide_eq_true hc; omega
  obtain ⟨a,c,ha,hs,hcs,hv⟩:=(hx.ext E).get hlt
  refine Xi (by omega) (by rw [hxl]; omega) ha (Uc hs (fun j hj=>by rw [Addr.add_add,show (i:Int).toNat * 4=i * 4 by omega]; exact hcs j hj) (ZU (fun h1 e1 s1 g1=>?_)))
  refine Z0 hs (stR (vs:=c) g1 (by rw [hs]; decide) hv.one (fun h2 u2 g2=>?_))
  have E2:Ext h' h2:=e1.upd u2 (Nat.le_refl _)
  rw [K0 (by rw [Array.length_toList,hs]; rfl),Array.toArray_toList] at g2
  refine KP (fun hge=>?_) (fun hlt'=>?_)
  ·have hge:i=l'.length:=by have:=of_decide_eq_true hge; omega
   subst hge
   rw [List.drop_length,List.drop_eq_getElem_cons hlt,NR] at hd
   have:=H _ (E.trans E2)
   rw [← hd] at this
   exact KC this
  ·have hlt':i < l'.length:=by have:=of_decide_eq_false hlt'; omega
   obtain ⟨a',c',ha',hs',hcs',hv'⟩:=(hy.ext (E.trans E2)).get hlt'
   refine Xi (by omega) (by rw [hyl]; omega) ha' (Uc hs' (fun j hj=>by rw [Addr.add_add,show (i:Int).toNat * 4=i * 4 by omega]; exact hcs' j hj) (ZU (fun h3 e3 s3 g3=>?_)))
   refine Z0 hs' (stR (vs:=c') g3 (by rw [hs']; decide) hv'.one (fun h4 u4 g4=>?_))
   have E4:Ext h2 h4:=e3.upd u4 (Nat.le_refl _)
   rw [K0 (by rw [Array.length_toList,hs']; rfl),Array.toArray_toList] at g4
   have g2':=E4.blk g2
   refine Uc hs (fun j hj=>by rw [Kl g2']) (Uc hs' (fun j hj=>by rw [Kl g4]) ?_)
   have E':=(E.trans E2).trans E4
   refine KE (hg i hlt hlt' h4 c c' _ E' ((hv.ext E2).ext E4) (hv'.ext E4) (fun h5 e5=>?_))
   rw [List.drop_eq_getElem_cons hlt,List.drop_eq_getElem_cons hlt',NR] at hd
   refine KP (fun hne=>?_) (fun heq=>?_)
   ·have hne:cmpV l[i] l'[i]≠0:=by simpa using hne
    rw [cOr,if_neg hne] at hd
    rw [hd]
    exact KC (H _ (E'.trans e5))
   ·have heq:cmpV l[i] l'[i]=0:=by simpa using heq
    rw [cOr,if_pos heq] at hd
    rw [w64 (by omega) (by omega)]
    exact hself _ _ ⟨E'.trans e5,i+1,by simp,by omega,by omega,hd⟩ (by omega)
 ·have hge:i=l.length:=by have:=of_decide_eq_false hc; omega
  subst hge
  rw [List.drop_length] at hd
  refine KP (fun hlt=>?_) (fun hge=>?_)
  ·have hlt:l.length < l'.length:=by have:=of_decide_eq_true hlt; omega
   rw [List.drop_eq_getElem_cons hlt,NR] at hd
   have:=H _ E
   rw [← hd] at this
   exact KC this
  ·have hge:l'.length=l.length:=by have:=of_decide_eq_false hge; omega
   rw [← hge,List.drop_length,NR] at hd
   have:=H _ E
   rw [← hd] at this
   exact KC this
theorem KH2:∀ (m:Nat) (a b:Vl) {h:Heap} {Q:Int→Heap→Prop} {x y:Array Value},sizeOf a < m→VRep h a x→VRep h b y→(∀ h',Ext h h'→Q (cmpV a b) h')→(Ur x y).wp h Q:=by
 intro m
 induction m with
 | zero=>intro a b h Q x y hm; omega
 | succ m ih =>
  rintro ⟨k,n,s,l⟩ ⟨k',n',s',l'⟩ h Q x y hm hx hy H
  obtain ⟨xs,rfl,k1,n1,s1,r1⟩:=VRep.eq.1 hx
  obtain ⟨ys,rfl,k2,n2,s2,r2⟩:=VRep.eq.1 hy
  unfold Ur
  refine ZU (fun h1 e1 z1 g1=>ZU (fun h2 e2 z2 g2=>?_))
  have g1':=e2.blk g1
  have E:=e1.trans e2
  have c0:KO h2 ((⟨h.size,0,none⟩:Addr).add 0)=some (.int .i64 k):=by rw [Kl g1']; rfl
  have c1:KO h2 ((⟨h.size,0,none⟩:Addr).add 1)=some (.int .i64 n):=by rw [Kl g1']; rfl
  have c2:KO h2 ((⟨h.size,0,none⟩:Addr).add 2)=some (.string (bs s)):=by rw [Kl g1']; rfl
  have c3:KO h2 ((⟨h.size,0,none⟩:Addr).add 3)=some xs.v:=by rw [Kl g1']; rfl
  have d0:KO h2 ((⟨h1.size,0,none⟩:Addr).add 0)=some (.int .i64 k'):=by rw [Kl g2]; rfl
  have d1:KO h2 ((⟨h1.size,0,none⟩:Addr).add 1)=some (.int .i64 n'):=by rw [Kl g2]; rfl
  have d2:KO h2 ((⟨h1.size,0,none⟩:Addr).add 2)=some (.string (bs s')):=by rw [Kl g2]; rfl
  have d3:KO h2 ((⟨h1.size,0,none⟩:Addr).add 3)=some ys.v:=by rw [Kl g2]; rfl
  refine Zm (n:=k) c0 (Zm (n:=k') d0 (Zm (n:=n) c1 (Zm (n:=n') d1 (Yx (n:=bs s) c2 (Yx (n:=bs s') d2 (Jw (n:=xs) c3 (Jw (n:=ys) d3 ?_)))))))
  refine KE (KG8 (KEn ⟨c0,d0,c1,d1,c2,d2,c3,d3⟩ ?_))
  refine KE (KE8 (KEn ⟨c0,d0,c1,d1,c2,d2,c3,d3⟩ ?_))
  unfold YY Z1
  refine KE (Jr (KC (KEn ⟨c0,d0,c1,d1,c2,d2,c3,d3⟩ ?_)))
  simp only [Vl.mk.sizeOf_spec] at hm
  refine KE (KEJ (r1.ext E) (r2.ext E) (fun j hj hj' h3 c c' Q1 e3 hv hv' hq=>?_) (fun h3 e3=>?_))
  ·refine N1 zK (G9 _ _) (ih _ _ ?_ hv hv' hq)
   have:=List.sizeOf_lt_of_mem (List.getElem_mem hj)
   omega
  ·refine qK ?_
   have e4:=Ext.push h3 (.cells #[Value.int .i64 (cmpI k k'),.int .i64 (cmpI n n'),.int .i64 (Lib.compareBytes (bs s).data.toList (bs s').data.toList),.int .i64 (NR l l')] VY)
   refine KE (KNd (zs:=[cmpI k k',cmpI n n',Lib.compareBytes s s',NR l l']) (t:=VY) ?_ rfl (by simp) (KC ?_))
   ·exact Kf
   ·have:=H _ ((E.trans e3).trans e4)
    rw [cmpV] at this
    have hz:∀ a:Int,cOr a 0=a:=fun a=>by unfold cOr; split <;> simp_all
    simpa [cOrs,hz] using this
theorem Gf {a b:Vl} {h:Heap} {Q:Int→Heap→Prop} {x y:Array Value} (hx:VRep h a x) (hy:VRep h b y) (H:∀ h',Ext h h'→Q (cmpV a b) h'):(Ur x y).wp h Q:=KH2 _ a b (Nat.lt_succ_self _) hx hy H
end Gx
namespace Gx
open Go
set_option linter.unusedVariables false
set_option linter.unusedSimpArgs false
theorem ZO (l:List UInt8):(bs l).size=l.length:=by simp [bs,ByteArray.size]
theorem bs_get? (l:List UInt8) (i:Nat):(bs l)[i]?=l[i]?:=by
 rcases Nat.lt_or_ge i l.length with h | h
 ·rw [List.getElem?_eq_getElem h]
  have:i < (bs l).size:=by rw [ZO]; exact h
  rw [getElem?_pos (bs l) i this]
  rfl
 ·rw [List.getElem?_eq_none h]
  have:¬ i < (bs l).size:=by rw [ZO]; omega
  rw [getElem?_neg (bs l) i this]
theorem KH3 (l:List UInt8):(bs l).toList=l:=by rw [ByteArray.toList_eq]
theorem zy (a b:List UInt8):sEq (bs a) (bs b)=decide (a=b):=by
 unfold sEq
 rw [KH3,KH3,Bool.eq_iff_iff]
 simp
theorem KNe:ByteArray.empty=bs []:=rfl
theorem Nn {β:Type} {h:Heap} {Q:β→Heap→Prop} {l:List UInt8} {i:Nat} {t:Int} {f:Int→M β} (ht:t=(i:Int)) (hi:i < l.length) (H:(f (l[i].toNat:Int)).wp h Q):(ixS (bs l) t>>=f).wp h Q :=
 ⟨_,⟨by omega,l[i],by subst ht; rw [Int.toNat_natCast,bs_get?,List.getElem?_eq_getElem hi],rfl⟩,H⟩
theorem KC6 {β:Type} {h:Heap} {Q:β→Heap→Prop} {x:Sl} {l:List Vl} {i:Nat} {t:Int} {f:Addr→M β} (H:VsRep h x l) (hi:i < l.length) (ht:t=(i:Int))
  (hq:∀ a c,c.size=4→(∀ m,m < 4→KO h (a.add m)=c[m]?)→VRep h l[i] c→(f a).wp h Q):(ixL x t 4>>=f).wp h Q:=by
 obtain ⟨a,c,ha,hs,hcs,hv⟩:=H.get hi
 have:=H.len
 subst ht
 refine Xi (by omega) (by omega) ha (hq _ c hs (fun m hm=>?_) hv)
 rw [Addr.add_add,show (i:Int).toNat * 4=i * 4 by omega]
 exact hcs m hm
theorem zz {a b:Int} {h:Heap} {Q:Int→Heap→Prop} (H:Q (cmpI a b) h):(Zq a b).wp h Q:=by
 unfold Zq
 unfold cmpI at H
 refine KP (fun hc=>?_) (fun hc=>?_)
 ·rw [if_pos (of_decide_eq_true hc)] at H; exact H
 ·rw [if_neg (of_decide_eq_false hc)] at H
  refine KP (fun hc=>?_) (fun hc=>?_)
  ·rw [if_pos (of_decide_eq_true hc)] at H; exact H
  ·rw [if_neg (of_decide_eq_false hc)] at H; exact H
theorem u8_lt_int {a b:UInt8}:(a < b)↔((a.toNat:Int) < (b.toNat:Int)):=by
 rw [UInt8.lt_iff_toNat_lt]; omega
theorem qd (a b:UInt8) (s t:List UInt8):Lib.compareBytes (a::s) (b::t)=if a=b then Lib.compareBytes s t else cmpI (a.toNat:Int) (b.toNat:Int):=by
 rw [Lib.compareBytes]
 unfold cmpI
 have h1:=@u8_lt_int a b
 have h2:=@u8_lt_int b a
 by_cases he:a=b
 ·subst he
  rw [if_pos rfl,if_neg (by rw [h1]; omega),if_neg (by rw [h1]; omega)]
 ·have hne:a.toNat≠b.toNat:=fun h=>he (UInt8.toNat_inj.1 h)
  rw [if_neg he]
  by_cases hlt:a < b
  ·rw [if_pos hlt,if_pos (h1.1 hlt)]
  ·rw [if_neg hlt,if_neg (fun h=>hlt (h1.2 h))]
   have:b < a:=by rw [h2]; rw [h1] at hlt; omega
   rw [if_pos this,if_pos (h2.1 this)]
theorem KKa {s t:List UInt8} {h:Heap} {Q:Int→Heap→Prop} (hs:s.length≤9223372036854775807) (ht:t.length≤9223372036854775807) (H:Q (Lib.compareBytes s t) h):(VZ (bs s) (bs t)).wp h Q:=by
 unfold VZ
 refine M.loop_inv (fun (x:Int) h'=>h'=h∧∃ i:Nat,x=(i:Int)∧i≤s.length∧i≤t.length∧Lib.compareBytes (s.drop i) (t.drop i)=Lib.compareBytes s t) (fun x _=>((s.length:Int) - x).toNat) ?_ ⟨rfl,0,rfl,Nat.zero_le _,Nat.zero_le _,by simp⟩
 rintro x h' ⟨rfl,i,rfl,hi,hi',hd⟩ self hself
 unfold W9
 rw [ZO,ZO]
 have fin:¬ (i < s.length∧i < t.length)→(Zq (s.length:Int) (t.length:Int)).wp h' (fun r h1=>(M.pure r:M Int).wp h1 Q):=fun hno=>by
  refine zz (KC ?_)
  have:cmpI (s.length:Int) (t.length:Int)=Lib.compareBytes s t:=by
   rw [← hd]
   unfold cmpI
   rcases Nat.lt_or_ge i s.length with h1 | h1
   ·have h2:i=t.length:=by omega
    subst h2
    rw [List.drop_eq_getElem_cons h1,List.drop_length,Lib.compareBytes,if_neg (by omega),if_pos (by omega)]
   ·have h2:i=s.length:=by omega
    subst h2
    rw [List.drop_length]
    rcases Nat.lt_or_ge s.length t.length with h3 | h3
    ·rw [List.drop_eq_getElem_cons h3,Lib.compareBytes,if_pos (by omega)]
    ·have:t.length=s.length:=by omega
     rw [← this,List.drop_length,Lib.compareBytes,if_neg (by omega),if_neg (by omega)]
  rw [this]
  exact H
 refine KE (KP (fun h1=>?_) (fun h1=>?_))
 ·have h1:i < s.length:=by have:=of_decide_eq_true h1; omega
  refine KC (KP (fun h2=>?_) (fun h2=>?_))
  ·have h2:i < t.length:=by have:=of_decide_eq_true h2; omega
   rw [List.drop_eq_getElem_cons h1,List.drop_eq_getElem_cons h2,qd] at hd
   refine Nn rfl h1 (Nn rfl h2 (KP (fun hne=>?_) (fun heq=>?_)))
   ·have hne:s[i]≠t[i]:=fun h=>by rw [h] at hne; simp at hne
    rw [if_neg hne] at hd
    have b1:=s[i].toNat_lt
    have b2:=t[i].toNat_lt
    refine Nn rfl h1 (Nn rfl h2 ?_)
    rw [w64 (by omega) (by omega),w64 (by omega) (by omega)]
    refine KE (zz (KC ?_))
    rw [hd]; exact H
   ·have heq':((s[i].toNat:Int))=t[i].toNat:=by simpa using heq
    have heq:s[i]=t[i]:=UInt8.toNat_inj.1 (by omega)
    rw [if_pos heq] at hd
    rw [w64 (by omega) (by omega)]
    exact hself _ _ ⟨rfl,i+1,by simp,by omega,by omega,hd⟩ (by omega)
  ·have h2:¬ i < t.length:=by have:=of_decide_eq_false h2; omega
   exact KE (fin (fun h=>h2 h.2))
 ·have h1:¬ i < s.length:=by have:=of_decide_eq_false h1; omega
  exact KC (iteF rfl (KE (fin (fun h=>h1 h.1))))
theorem KH4:∀ (m:Nat) (a b:Vl) {h:Heap} {Q:Int→Heap→Prop} {x y:Array Value},sizeOf a < m→VRep h a x→VRep h b y→(∀ h',Ext h h'→Q (cmpV a b) h')→(Zr x y).wp h Q:=by
 intro m
 induction m with
 | zero=>intro a b h Q x y hm; omega
 | succ m ih =>
  rintro ⟨k,n,s,l⟩ ⟨k',n',s',l'⟩ h Q x y hm hx hy H
  obtain ⟨xs,rfl,k1,n1,s1,r1⟩:=VRep.eq.1 hx
  obtain ⟨ys,rfl,k2,n2,s2,r2⟩:=VRep.eq.1 hy
  simp only [Vl.mk.sizeOf_spec] at hm
  have hxl:=r1.len
  have hyl:=r2.len
  have hxb:=r1.big
  have hyb:=r2.big
  have hxc:=r1.cap
  have hyc:=r2.cap
  unfold Zr
  refine ZU (fun h1 e1 z1 g1=>ZU (fun h2 e2 z2 g2=>?_))
  have g1':=e2.blk g1
  have E:=e1.trans e2
  rw [cmpV] at H
  refine Zm (n:=k) (by rw [Kl g1']; rfl) (Zm (n:=k') (by rw [Kl g2]; rfl) (KE (zz ?_)))
  refine KP (fun hne=>?_) (fun heq=>?_)
  ·have hne:cmpI k k'≠0:=by simpa using hne
   have:=H _ E
   rw [cOr,if_neg hne] at this
   exact KC this
  have heq:cmpI k k'=0:=by simpa using heq
  rw [cOr,if_pos heq] at H
  refine Zm (n:=n) (by rw [Kl g1']; rfl) (Zm (n:=n') (by rw [Kl g2]; rfl) (KE (zz ?_)))
  refine KP (fun hne=>?_) (fun heq=>?_)
  ·have hne:cmpI n n'≠0:=by simpa using hne
   have:=H _ E
   rw [cOr,if_neg hne] at this
   exact KC this
  have heq:cmpI n n'=0:=by simpa using heq
  rw [cOr,if_pos heq] at H
  refine Yx (n:=bs s) (by rw [Kl g1']; rfl) (Yx (n:=bs s') (by rw [Kl g2]; rfl) (KE (KKa s1 s2 ?_)))
  refine KP (fun hne=>?_) (fun heq=>?_)
  ·have hne:Lib.compareBytes s s'≠0:=by simpa using hne
   have:=H _ E
   rw [cOr,if_neg hne] at this
   exact KC this
  have heq:Lib.compareBytes s s'=0:=by simpa using heq
  rw [cOr,if_pos heq] at H
  refine M.loop_inv (fun (t:Int) h'=>Ext h2 h'∧∃ i:Nat,t=(i:Int)∧i≤l.length∧i≤l'.length∧NR (l.drop i) (l'.drop i)=NR l l') (fun t _=>((l.length:Int) - t).toNat) ?_ ⟨Ext.refl h2,0,rfl,Nat.zero_le _,Nat.zero_le _,by simp⟩
  rintro t h' ⟨E',i,rfl,hi,hi',hd⟩ self hself
  have f1:=E'.blk g1'
  have f2:=E'.blk g2
  have c3:KO h' ((⟨h.size,0,none⟩:Addr).add 3)=some xs.v:=by rw [Kl f1]; rfl
  have d3:KO h' ((⟨h1.size,0,none⟩:Addr).add 3)=some ys.v:=by rw [Kl f2]; rfl
  have EE:=E.trans E'
  have fin:¬ (i < l.length∧i < l'.length)→(ldL ((⟨h.size,0,none⟩:Addr).add 3)>>=fun Xx48=>ldL ((⟨h1.size,0,none⟩:Addr).add 3)>>=fun Xx49=>Zq (Xx48.len:Int) (Xx49.len:Int)>>=fun Xx50=>M.pure Xx50).wp h' Q:=fun hno=>by
   refine Jw (n:=xs) c3 (Jw (n:=ys) d3 (KE (zz (KC ?_))))
   have:cmpI (xs.len:Int) (ys.len:Int)=NR l l':=by
    rw [← hd,hxl,hyl]
    unfold cmpI
    rcases Nat.lt_or_ge i l.length with h1 | h1
    ·have h2:i=l'.length:=by omega
     subst h2
     rw [List.drop_eq_getElem_cons h1,List.drop_length,NR,if_neg (by omega),if_pos (by omega)]
    ·have h2:i=l.length:=by omega
     subst h2
     rw [List.drop_length]
     rcases Nat.lt_or_ge l.length l'.length with h3 | h3
     ·rw [List.drop_eq_getElem_cons h3,NR,if_pos (by omega)]
     ·have:l'.length=l.length:=by omega
      rw [← this,List.drop_length,NR,if_neg (by omega),if_neg (by omega)]
   rw [this]
   exact H _ EE
  unfold Vq
  refine Jw (n:=xs) c3 (KE (KP (fun h3=>?_) (fun h3=>?_)))
  ·have h3:i < l.length:=by have:=of_decide_eq_true h3; omega
   refine Jw (n:=ys) d3 (KC (KP (fun h4=>?_) (fun h4=>?_)))
   ·have h4:i < l'.length:=by have:=of_decide_eq_true h4; omega
    rw [List.drop_eq_getElem_cons h3,List.drop_eq_getElem_cons h4,NR] at hd
    refine Jw (n:=xs) c3 (KC6 (r1.ext EE) h3 rfl (fun a c hs hcs hv=>Uc hs hcs (Jw (n:=ys) d3 (KC6 (r2.ext EE) h4 rfl (fun a' c' hs' hcs' hv'=>Uc hs' hcs' ?_)))))
    refine KE (WX (XX _ _) (ih _ _ ?_ hv hv' (fun h5 e5=>?_)))
    ·have:=List.sizeOf_lt_of_mem (List.getElem_mem h3)
     omega
    refine KP (fun hne=>?_) (fun heq=>?_)
    ·have hne:cmpV l[i] l'[i]≠0:=by simpa using hne
     rw [cOr,if_neg hne] at hd
     rw [hd]
     exact KC (H _ (EE.trans e5))
    ·have heq:cmpV l[i] l'[i]=0:=by simpa using heq
     rw [cOr,if_pos heq] at hd
     rw [w64 (by omega) (by omega)]
     exact hself _ _ ⟨E'.trans e5,i+1,by simp,by omega,by omega,hd⟩ (by omega)
   ·have h4:¬ i < l'.length:=by have:=of_decide_eq_false h4; omega
    exact fin (fun h=>h4 h.2)
  ·have h3:¬ i < l.length:=by have:=of_decide_eq_false h3; omega
   exact KC (iteF rfl (fin (fun h=>h3 h.1)))
theorem zE {a b:Vl} {h:Heap} {Q:Int→Heap→Prop} {x y:Array Value} (hx:VRep h a x) (hy:VRep h b y) (H:∀ h',Ext h h'→Q (cmpV a b) h'):(Zr x y).wp h Q:=KH4 _ a b (Nat.lt_succ_self _) hx hy H
theorem z6 {β:Type} {h:Heap} {Q:β→Heap→Prop} {b:Nat} {t:TypeId} {z:Nat × Nat} {v:Vl} {cs:Array Value} {f:Array Value→M β} (hb:h[b]?=some (.cells cs t z)) (hv:cs.size=4) (H:(f cs).wp h Q):(ldG 4 ⟨b,0,none⟩>>=f).wp h Q :=
 Uc hv (fun i _=>by rw [Kl hb]) H
theorem KGF {a b:Vl} {h:Heap} {Q:Bool→Heap→Prop} {x y:Array Value} (hx:VRep h a x) (hy:VRep h b y) (H:∀ h',Ext h h'→Q (decide (cmpV a b=0)) h'):(qX x y).wp h Q:=by
 unfold qX
 refine ZU (fun h1 e1 z1 g1=>ZU (fun h2 e2 z2 g2=>?_))
 have E:=e1.trans e2
 refine z6 (v:=a) (e2.blk g1) hx.size (z6 (v:=b) g2 hy.size (KE (Gf (hx.ext E) (hy.ext E) (fun h3 e3=>KC ?_))))
 have:=H _ (E.trans e3)
 rwa [show (cmpV a b == 0)=decide (cmpV a b=0) from rfl]
theorem KKb {a b:Vl} {h:Heap} {Q:Bool→Heap→Prop} {x y:Array Value} (hx:VRep h a x) (hy:VRep h b y) (H:∀ h',Ext h h'→Q (decide (cmpV a b=0)) h'):(Vd x y).wp h Q:=by
 unfold Vd
 refine ZU (fun h1 e1 z1 g1=>ZU (fun h2 e2 z2 g2=>?_))
 have E:=e1.trans e2
 refine z6 (v:=a) (e2.blk g1) hx.size (z6 (v:=b) g2 hy.size (KE (zE (hx.ext E) (hy.ext E) (fun h3 e3=>KC ?_))))
 have:=H _ (E.trans e3)
 rwa [show (cmpV a b == 0)=decide (cmpV a b=0) from rfl]
end Gx
namespace Gx
open Go
set_option linter.unusedVariables false
set_option linter.unusedSimpArgs false
def zN:List Vl→Bool
 | a::_::c::r=>decide (cmpV a c < 0) && zN (c::r)
 | _=>true
def KH5 (s:List UInt8) (l:List Vl):Bool:=decide (s=[]) && l.isEmpty
def mayV:Nat→Vl→Bool
 | 0,_=>false
 | d+1,.mk k n s l =>
  if k=1 then KH5 s l
  else if k=3 then KH5 s l && (decide (n=0) || decide (n=1))
  else if k=6∨k=7 then KH5 s l && decide (1≤n) && decide (n≤281474976710656)
  else if k=2 then decide (n=0) && l.isEmpty && decide (s.length≤128)
  else if k=4 then decide (l.length≤256) && (decide (n=0) && decide (s=[]) && l.all (mayV d))
  else if k=5 then decide (l.length≤512) && decide (l.length % 2=0) && zN l && (decide (n=0) && decide (s=[]) && l.all (mayV d))
  else false
theorem U1 {β:Type} {h:Heap} {Q:β→Heap→Prop} {b c:Bool} {m:M Bool} {f:Bool→M β} (hm:b=true→∀ Q':Bool→Heap→Prop,Q' c h→m.wp h Q') (H:(f (b && c)).wp h Q):(M.ite b m (M.pure false)>>=f).wp h Q:=by
 cases b with
 | true=>exact hm rfl _ H
 | false=>exact H
theorem or_b {β:Type} {h:Heap} {Q:β→Heap→Prop} {b c:Bool} {m:M Bool} {f:Bool→M β} (hm:b=false→∀ Q':Bool→Heap→Prop,Q' c h→m.wp h Q') (H:(f (b || c)).wp h Q):(M.ite b (M.pure true) m>>=f).wp h Q:=by
 cases b with
 | true=>exact H
 | false=>exact hm rfl _ H
theorem len0 {n:Nat} {l:List Vl} (h:n=l.length):((n:Int) == 0)=l.isEmpty:=by
 subst h
 cases l with
 | nil=>rfl
 | cons a l=>simp; omega
theorem sEq0 (s:List UInt8):sEq (bs s) ByteArray.empty=decide (s=[]):=by rw [KNe,zy]
theorem eqI (a b:Int):(a == b)=decide (a=b):=rfl
theorem KF2 {h:Heap} {Q:Bool→Heap→Prop} {x:Sl} {l:List Vl} {g:Value} {p:Vl→Bool} (hx:VsRep h x l)
  (hg:∀ j (hj:j < l.length) h1 c (Q1:Bool→Heap→Prop),Ext h h1→VRep h1 l[j] c→(∀ h2,Ext h1 h2→Q1 (p l[j]) h2)→(V7 Go.Proofs.Tryz.prog (fun r:Bool=>.bool r) g [.agg c]).wp h1 Q1)
  (H:∀ h',Ext h h'→Q (l.any p) h'):(Kt x g).wp h Q:=by
 unfold Kt ZR
 have hxl:=hx.len
 have hxb:=hx.big
 have hxc:=hx.cap
 refine KE (M.loop_inv (fun (t:Int) h'=>Ext h h'∧∃ i:Nat,t=(i:Int)∧i≤l.length∧(l.drop i).any p=l.any p) (fun t _=>((l.length:Int) - t).toNat) ?_ ⟨Ext.refl h,0,rfl,Nat.zero_le _,by simp⟩)
 rintro t h' ⟨E,i,rfl,hi,hd⟩ self hself
 unfold Zj
 refine KP (fun hc=>?_) (fun hc=>?_)
 ·have hlt:i < l.length:=by have:=of_decide_eq_true hc; omega
  rw [List.drop_eq_getElem_cons hlt,List.any_cons] at hd
  refine KC6 (hx.ext E) hlt rfl (fun a c hs hcs hv=>Uc hs hcs (KE (hg i hlt h' c _ E hv (fun h2 e2=>?_))))
  refine KP (fun ht=>KC (KC ?_)) (fun hf=>?_)
  ·rw [ht] at hd
   rw [show decide ((i:Int) ≥ 0)=l.any p by rw [← hd]; simp]
   exact H _ (E.trans e2)
  ·rw [hf,Bool.false_or] at hd
   rw [w64 (by omega) (by omega)]
   exact hself _ _ ⟨E.trans e2,i+1,by simp,by omega,hd⟩ (by omega)
 ·have hge:i=l.length:=by have:=of_decide_eq_false hc; omega
  subst hge
  rw [List.drop_length] at hd
  refine KC (KC ?_)
  rw [show decide ((-1:Int) ≥ 0)=l.any p by rw [← hd]; rfl]
  exact H _ E
theorem KGG {l:List Vl} {i:Nat} (h2:2≤i) (hi:i < l.length):zN (l.drop (i - 2))=(decide (cmpV (l[i - 2]'(by omega)) l[i] < 0) && zN (l.drop i)):=by
 rw [List.drop_eq_getElem_cons (show i - 2 < l.length by omega),List.drop_eq_getElem_cons (show i - 2+1 < l.length by omega)]
 have e:i - 2+1+1=i:=by omega
 simp only [e]
 rw [List.drop_eq_getElem_cons hi,zN]
theorem KH6 {l:List Vl} {i:Nat} (h2:2≤i) (hi:l.length≤i):zN (l.drop (i - 2))=true:=by
 have hl:(l.drop (i - 2)).length≤2:=by rw [List.length_drop]; omega
 match h:l.drop (i - 2),hl with
 | [],_=>rfl
 | [_],_=>rfl
 | [_,_],_=>rfl
theorem KPO (l:List Vl) (p:Vl→Bool):(!l.any fun x=>!p x)=l.all p:=by
 induction l with
 | nil=>rfl
 | cons a l ih=>simp [List.any_cons,List.all_cons,← ih]
theorem KLv:∀ (d:Nat) (v:Vl) {h:Heap} {Q:Bool→Heap→Prop} {x:Array Value},d≤8→VRep h v x→(∀ h',Ext h h'→Q (mayV d v) h')→(NB x ((9 - d:Nat):Int)).wp h Q:=by
 intro d
 induction d with
 | zero =>
  rintro v h Q x _ hx H
  unfold NB
  refine ZU (fun h1 e1 z1 g1=>ZU (fun h2 e2 z2 g2=>?_))
  refine Zm (n:=((9 - 0:Nat):Int)) (by rw [show (⟨h1.size,0,none⟩:Addr)=(⟨h1.size,0,none⟩:Addr).add 0 from rfl,Kl g2]; rfl) (iteT rfl (KC (H _ (e1.trans e2))))
 | succ d ih =>
  rintro ⟨k,n,s,l⟩ h Q x hd hx H
  obtain ⟨xs,rfl,k1,n1,s1,r1⟩:=VRep.eq.1 hx
  have hxl:=r1.len
  have hxb:=r1.big
  have hxc:=r1.cap
  unfold NB
  refine ZU (fun h1 e1 z1 g1=>ZU (fun h2 e2 z2 g2=>?_))
  have g1':=e2.blk g1
  have E:=e1.trans e2
  have c0:KO h2 ((⟨h.size,0,none⟩:Addr).add 0)=some (.int .i64 k):=by rw [Kl g1']; rfl
  have c1:KO h2 ((⟨h.size,0,none⟩:Addr).add 1)=some (.int .i64 n):=by rw [Kl g1']; rfl
  have c2:KO h2 ((⟨h.size,0,none⟩:Addr).add 2)=some (.string (bs s)):=by rw [Kl g1']; rfl
  have c3:KO h2 ((⟨h.size,0,none⟩:Addr).add 3)=some xs.v:=by rw [Kl g1']; rfl
  have cd:KO h2 ⟨h1.size,0,none⟩=some (.int .i64 ((9 - (d+1):Nat):Int)):=by rw [show (⟨h1.size,0,none⟩:Addr)=(⟨h1.size,0,none⟩:Addr).add 0 from rfl,Kl g2]; rfl
  have H2:Q (mayV (d+1) (.mk k n s l)) h2:=H _ E
  unfold mayV at H H2
  refine Zm cd (iteF (by simp; omega) (Yx c2 (U1 (c:=l.isEmpty) (fun _ Q' hq=>Jw c3 (KC (by rw [len0 hxl]; exact hq))) ?_)))
  rw [sEq0]
  have hb:(decide (s=[]) && l.isEmpty)=KH5 s l:=rfl
  rw [hb]
  have tail:(∀ h',Ext h h'→Q (decide (n=0) && decide (s=[]) && l.all (mayV d)) h')→∀ h3,Ext h2 h3→(XV ⟨h.size,0,none⟩ ⟨h1.size,0,none⟩).wp h3 Q:=fun HT h3 e3=>by
   unfold XV
   refine Zm (e3.cell c1) (U1 (c:=decide (s=[])) (fun _ Q' hq=>Yx (e3.cell c2) (KC (by rw [sEq0]; exact hq))) ?_)
   rw [eqI]
   cases hns:(decide (n=0) && decide (s=[])) with
   | false =>
    have:=HT h3 (E.trans e3)
    rw [hns] at this
    exact Jr (KC this)
   | true =>
    rw [hns] at HT
    refine KE (iteT rfl (Jw (e3.cell c3) (KE (KF2 (p:=fun x=>!mayV d x) (r1.ext (E.trans e3)) (fun j hj h4 c Q1 e4 hv hq=>?_) (fun h4 e4=>KC (KC ?_))))))
    ·refine N1 KFs (KG4 _ _) ?_
     unfold KE5
     refine ZU (fun h5 e5 z5 g5=>z6 (v:=l[j]) g5 hv.size (Zm (e5.cell (e4.cell (e3.cell cd))) ?_))
     rw [show IntKind.wrap .i64 (((9 - (d+1):Nat):Int)+1)=((9 - d:Nat):Int) by rw [w64 (by omega) (by omega)]; omega]
     exact KE (ih _ (by omega) (hv.ext e5) (fun h6 e6=>KC (hq _ (e5.trans e6))))
    ·rw [KPO]
     exact HT _ ((E.trans e3).trans e4)
  refine Zm c0 (KP (fun h1k=>?_) (fun h1k=>?_))
  ·have h1k:k=1:=by simpa using h1k
   rw [if_pos h1k] at H2
   exact KC H2
  have h1k:¬ k=1:=by simpa using h1k
  rw [if_neg h1k] at H2
  simp only [if_neg h1k] at H
  refine KP (fun h3k=>?_) (fun h3k=>?_)
  ·have h3k:k=3:=by simpa using h3k
   rw [if_pos h3k] at H2
   refine U1 (c:=(decide (n=0) || decide (n=1))) (fun _ Q' hq=>Zm c1 (or_b (c:=decide (n=1)) (fun _ Q'' hq'=>Zm c1 (KC hq')) (KC hq))) (KC H2)
  have h3k:¬ k=3:=by simpa using h3k
  rw [if_neg h3k] at H2
  simp only [if_neg h3k] at H
  have j2:(XW ⟨h.size,0,none⟩ ⟨h1.size,0,none⟩ (KH5 s l) k (decide (k=6∨k=7))).wp h2 Q:=by
   unfold XW
   refine KP (fun h67=>?_) (fun h67=>?_)
   ·rw [if_pos (of_decide_eq_true h67)] at H2
    refine U1 (c:=decide (1≤n)) (fun _ Q' hq=>Zm c1 (KC hq)) (U1 (c:=decide (n≤281474976710656)) (fun _ Q' hq=>Zm c1 (KC hq)) (KC H2))
   rw [if_neg (of_decide_eq_false h67)] at H2
   simp only [if_neg (of_decide_eq_false h67)] at H
   refine KP (fun h2k=>?_) (fun h2k=>?_)
   ·have h2k:k=2:=by simpa using h2k
    rw [if_pos h2k] at H2
    refine Zm c1 (U1 (c:=l.isEmpty) (fun _ Q' hq=>Jw c3 (KC (by rw [len0 hxl]; exact hq))) (U1 (c:=decide (s.length≤128)) (fun _ Q' hq=>Yx c2 (KC (by rw [show decide (((bs s).size:Int)≤128)=decide (s.length≤128) by rw [ZO,Bool.eq_iff_iff]; simp only [decide_eq_true_eq]; omega]; exact hq))) (KC ?_)))
    exact H2
   have h2k:¬ k=2:=by simpa using h2k
   rw [if_neg h2k] at H2
   simp only [if_neg h2k] at H
   refine KP (fun h4k=>?_) (fun h4k=>?_)
   ·have h4k:k=4:=by simpa using h4k
    rw [if_pos h4k] at H2
    simp only [if_pos h4k] at H
    refine Jw c3 (KP (fun hbig=>?_) (fun hsm=>?_))
    ·have:¬ l.length≤256:=by have:=of_decide_eq_true hbig; omega
     rw [decide_eq_false this,Bool.false_and] at H2
     exact KC H2
    ·have:l.length≤256:=by have:=of_decide_eq_false hsm; omega
     simp only [decide_eq_true this,Bool.true_and] at H
     exact tail H h2 (Ext.refl _)
   have h4k:¬ k=4:=by simpa using h4k
   rw [if_neg h4k] at H2
   simp only [if_neg h4k] at H
   refine KP (fun h5k=>?_) (fun h5k=>?_)
   ·have h5k:k=5:=by simpa using h5k
    rw [if_pos h5k] at H2
    simp only [if_pos h5k] at H
    have hodd:((Int.tmod (xs.len:Int) 2) == 1)=!decide (l.length % 2=0):=by
     rw [hxl,Int.tmod_eq_emod_of_nonneg (by omega),Bool.eq_iff_iff]
     simp
     omega
    refine Jw c3 (or_b (c:=!decide (l.length % 2=0)) (fun _ Q' hq=>Jw c3 (KC (by rw [hodd]; exact hq))) ?_)
    have hbig:decide ((xs.len:Int) > 512)=!decide (l.length≤512):=by
     rw [hxl,Bool.eq_iff_iff]; simp; omega
    rw [hbig]
    cases h512:decide (l.length≤512) with
    | false=>rw [h512] at H2; exact iteT rfl (KC (by simpa using H2))
    | true =>
     cases heven:decide (l.length % 2=0) with
     | false=>rw [h512,heven] at H2; exact iteT rfl (KC (by simpa using H2))
     | true =>
      simp only [h512,heven,Bool.true_and] at H
      refine iteF rfl ?_
      refine M.loop_inv (fun (t:Int) h'=>Ext h2 h'∧∃ i:Nat,t=(i:Int)∧2≤i∧i≤l.length+2∧zN (l.drop (i - 2))=zN l) (fun t _=>((l.length:Int)+2 - t).toNat) ?_ ⟨Ext.refl h2,2,rfl,Nat.le_refl _,by omega,by simp⟩
      rintro t h' ⟨E',i,rfl,hi2,hi,hd'⟩ self hself
      unfold zr
      have hl512:=of_decide_eq_true h512
      refine Jw (E'.cell c3) (KP (fun hc=>?_) (fun hc=>?_))
      ·have hlt:i < l.length:=by have:=of_decide_eq_true hc; omega
       rw [KGG hi2 hlt] at hd'
       have EE:=E.trans E'
       refine Jw (E'.cell c3) (KC6 (i:=i - 2) (r1.ext EE) (by omega) (by rw [w64 (by omega) (by omega)]; omega) (fun a c hs hcs hv=>Uc hs hcs (Jw (E'.cell c3) (KC6 (r1.ext EE) hlt rfl (fun a' c' hs' hcs' hv'=>Uc hs' hcs' ?_)))))
       refine KE (Gf hv hv' (fun h3 e3=>?_))
       refine KP (fun hge=>?_) (fun hlt'=>?_)
       ·have hge:¬ cmpV (l[i - 2]'(by omega)) l[i] < 0:=by have:=of_decide_eq_true hge; omega
        rw [decide_eq_false hge,Bool.false_and] at hd'
        have:=H _ (EE.trans e3)
        rw [← hd',Bool.false_and] at this
        exact KC this
       ·have hlt':cmpV (l[i - 2]'(by omega)) l[i] < 0:=by have:=of_decide_eq_false hlt'; omega
        rw [decide_eq_true hlt',Bool.true_and] at hd'
        rw [w64 (by omega) (by omega)]
        exact hself _ _ ⟨E'.trans e3,i+2,by simp,by omega,by omega,by simpa using hd'⟩ (by omega)
      ·have hge:l.length≤i:=by have:=of_decide_eq_false hc; omega
       rw [KH6 hi2 hge] at hd'
       refine tail (fun h3 e3=>?_) h' E'
       have:=H h3 e3
       rw [← hd',Bool.true_and] at this
       exact this
   ·have h5k:¬ k=5:=by simpa using h5k
    rw [if_neg h5k] at H2
    exact KC H2
  refine KP (fun h6k=>?_) (fun h6k=>?_)
  ·have h6k:k=6:=by simpa using h6k
   have e:(k == 6)=decide (k=6∨k=7):=by subst h6k; rfl
   rw [e]
   exact j2
  ·have h6k:¬ k=6:=by simpa using h6k
   have e:(k == 7)=decide (k=6∨k=7):=by rw [eqI,Bool.eq_iff_iff]; simp [h6k]
   rw [e]
   exact j2
def Nz (v:Vl):Int:=if mayV 8 v=true then 0 else 20
theorem KB0 {v:Vl} {h:Heap} {Q:Int→Heap→Prop} {x:Array Value} (hx:VRep h v x) (H:∀ h',Ext h h'→Q (Nz v) h'):(W8 x).wp h Q:=by
 unfold W8
 refine ZU (fun h1 e1 z1 g1=>z6 (v:=v) g1 hx.size (KE (KLv 8 v (Nat.le_refl _) (hx.ext e1) (fun h2 e2=>?_))))
 have:=H _ (e1.trans e2)
 unfold Nz at this
 cases hm:mayV 8 v with
 | true=>rw [hm,if_pos rfl] at this; exact iteF rfl (KC this)
 | false=>rw [hm,if_neg (by simp)] at this; exact iteT rfl (KC this)
end Gx
namespace Gx
open Go
set_option linter.unusedVariables false
set_option linter.unusedSimpArgs false
theorem KI0 {l:List Vl} {h:Heap} {Q:Bool→Heap→Prop} {x:Sl} (hx:VsRep h x l) (hb:l.length≤9223372036854775000) (H:∀ h',Ext h h'→Q (zN l) h'):(VC x).wp h Q:=by
 unfold VC
 have hxl:=hx.len
 refine M.loop_inv (fun (t:Int) h'=>Ext h h'∧∃ i:Nat,t=(i:Int)∧2≤i∧i≤l.length+2∧zN (l.drop (i - 2))=zN l) (fun t _=>((l.length:Int)+2 - t).toNat) ?_ ⟨Ext.refl h,2,rfl,Nat.le_refl _,by omega,by simp⟩
 rintro t h' ⟨E,i,rfl,hi2,hi,hd'⟩ self hself
 unfold Wd
 rw [hxl]
 refine KP (fun hc=>?_) (fun hc=>?_)
 ·have hlt:i < l.length:=by have:=of_decide_eq_true hc; omega
  rw [KGG hi2 hlt] at hd'
  refine KC6 (i:=i - 2) (hx.ext E) (by omega) (by rw [w64 (by omega) (by omega)]; omega) (fun a c hs hcs hv=>KC6 (hx.ext E) hlt rfl (fun a' c' hs' hcs' hv'=>Uc hs hcs (Uc hs' hcs' ?_)))
  refine KE (zE hv hv' (fun h3 e3=>?_))
  refine KP (fun hge=>?_) (fun hlt'=>?_)
  ·have hge:¬ cmpV (l[i - 2]'(by omega)) l[i] < 0:=by have:=of_decide_eq_true hge; omega
   rw [decide_eq_false hge,Bool.false_and] at hd'
   have:=H _ (E.trans e3)
   rw [← hd'] at this
   exact KC this
  ·have hlt':cmpV (l[i - 2]'(by omega)) l[i] < 0:=by have:=of_decide_eq_false hlt'; omega
   rw [decide_eq_true hlt',Bool.true_and] at hd'
   rw [w64 (by omega) (by omega)]
   exact hself _ _ ⟨E.trans e3,i+2,by simp,by omega,by omega,by simpa using hd'⟩ (by omega)
 ·have hge:l.length≤i:=by have:=of_decide_eq_false hc; omega
  rw [KH6 hi2 hge] at hd'
  have:=H _ E
  rw [← hd'] at this
  exact KC this
theorem KLw {d:Nat} (hd:d≤7) {l:List Vl} {h:Heap} {Q:Bool→Heap→Prop} {x:Sl} (hx:VsRep h x l)
  (hg:∀ j (hj:j < l.length) h1 c (Q1:Bool→Heap→Prop),Ext h h1→VRep h1 l[j] c→(∀ h2,Ext h1 h2→Q1 (mayV d l[j]) h2)→(UV c ((8 - d:Nat):Int)).wp h1 Q1)
  (H:∀ h',Ext h h'→Q (l.all (mayV d)) h'):(NL x ((8 - (d+1):Nat):Int)).wp h Q:=by
 unfold NL
 have hxl:=hx.len
 have hxb:=hx.big
 have hxc:=hx.cap
 refine M.loop_inv (fun (t:Int) h'=>Ext h h'∧∃ i:Nat,t=(i:Int)∧i≤l.length∧(l.drop i).all (mayV d)=l.all (mayV d)) (fun t _=>((l.length:Int) - t).toNat) ?_ ⟨Ext.refl h,0,rfl,Nat.zero_le _,by simp⟩
 rintro t h' ⟨E,i,rfl,hi,hd'⟩ self hself
 unfold Yg
 rw [hxl]
 refine KP (fun hc=>?_) (fun hc=>?_)
 ·have hlt:i < l.length:=by have:=of_decide_eq_true hc; omega
  rw [List.drop_eq_getElem_cons hlt,List.all_cons] at hd'
  refine KC6 (hx.ext E) hlt rfl (fun a c hs hcs hv=>Uc hs hcs ?_)
  rw [show IntKind.wrap .i64 (((8 - (d+1):Nat):Int)+1)=((8 - d:Nat):Int) by rw [w64 (by omega) (by omega)]; omega]
  refine KE (WX (qQ _ _) (hg i hlt h' c _ E hv (fun h2 e2=>?_)))
  refine KP (fun hf=>?_) (fun ht=>?_)
  ·have hf:mayV d l[i]=false:=by simpa using hf
   rw [hf,Bool.false_and] at hd'
   have:=H _ (E.trans e2)
   rw [← hd'] at this
   exact KC this
  ·have ht:mayV d l[i]=true:=by simpa using ht
   rw [ht,Bool.true_and] at hd'
   rw [w64 (by omega) (by omega)]
   exact hself _ _ ⟨E.trans e2,i+1,by simp,by omega,hd'⟩ (by omega)
 ·have hge:i=l.length:=by have:=of_decide_eq_false hc; omega
  subst hge
  rw [List.drop_length] at hd'
  have:=H _ E
  rw [← hd'] at this
  exact KC this
theorem KLx:∀ (d:Nat) (v:Vl) {h:Heap} {Q:Bool→Heap→Prop} {x:Array Value},d≤8→VRep h v x→(∀ h',Ext h h'→Q (mayV d v) h')→(UV x ((8 - d:Nat):Int)).wp h Q:=by
 intro d
 induction d with
 | zero =>
  rintro v h Q x _ hx H
  unfold UV
  exact ZU (fun h1 e1 z1 g1=>iteT rfl (KC (H _ e1)))
 | succ d ih =>
  rintro ⟨k,n,s,l⟩ h Q x hd hx H
  obtain ⟨xs,rfl,k1,n1,s1,r1⟩:=VRep.eq.1 hx
  have hxl:=r1.len
  have hxb:=r1.big
  have hxc:=r1.cap
  unfold UV
  refine ZU (fun h1 E z1 g1=>?_)
  have c0:KO h1 ((⟨h.size,0,none⟩:Addr).add 0)=some (.int .i64 k):=by rw [Kl g1]; rfl
  have c1:KO h1 ((⟨h.size,0,none⟩:Addr).add 1)=some (.int .i64 n):=by rw [Kl g1]; rfl
  have c2:KO h1 ((⟨h.size,0,none⟩:Addr).add 2)=some (.string (bs s)):=by rw [Kl g1]; rfl
  have c3:KO h1 ((⟨h.size,0,none⟩:Addr).add 3)=some xs.v:=by rw [Kl g1]; rfl
  have H2:Q (mayV (d+1) (.mk k n s l)) h1:=H _ E
  unfold mayV at H H2
  have bare:∀ {β:Type} {Q':β→Heap→Prop} {f:Bool→M β},(f (KH5 s l)).wp h1 Q'→(ldS ((⟨h.size,0,none⟩:Addr).add 2)>>=fun x=>M.ite (sEq x ByteArray.empty) (ldL ((⟨h.size,0,none⟩:Addr).add 3)>>=fun y=>M.pure ((y.len:Int) == 0)) (M.pure false)>>=f).wp h1 Q':=fun hq=>by
   refine Yx c2 (U1 (c:=l.isEmpty) (fun _ Q' hq=>Jw c3 (KC (by rw [len0 hxl]; exact hq))) ?_)
   rw [sEq0]
   exact hq
  have all:∀ {Q':Bool→Heap→Prop},(∀ h',Ext h1 h'→Q' (l.all (mayV d)) h')→(ldL ((⟨h.size,0,none⟩:Addr).add 3)>>=fun y=>WP Go.Proofs.Tryz.prog Up #[y.v,.int .i64 ((8 - (d+1):Nat):Int)] (fun r:Bool=>.bool r)>>=fun r=>M.pure r).wp h1 Q':=fun hq =>
   Jw c3 (KE (WX (KDi _ _) (KLw (by omega) (r1.ext E) (fun j hj h4 c Q1 e4 hv hq'=>ih _ (by omega) hv hq') (fun h2 e2=>KC (hq _ e2)))))
  refine iteF (by simp; omega) (Zm c0 (KP (fun h1k=>?_) (fun h1k=>?_)))
  ·have h1k:k=1:=by simpa using h1k
   rw [if_pos h1k] at H2
   exact bare (KC H2)
  have h1k:¬ k=1:=by simpa using h1k
  rw [if_neg h1k] at H2
  simp only [if_neg h1k] at H
  refine KP (fun h3k=>?_) (fun h3k=>?_)
  ·have h3k:k=3:=by simpa using h3k
   rw [if_pos h3k] at H2
   refine bare (U1 (c:=(decide (n=0) || decide (n=1))) (fun _ Q' hq=>Zm c1 (or_b (c:=decide (n=1)) (fun _ Q'' hq'=>Zm c1 (KC hq')) (KC hq))) (KC H2))
  have h3k:¬ k=3:=by simpa using h3k
  rw [if_neg h3k] at H2
  simp only [if_neg h3k] at H
  have j2:(Us ((8 - (d+1):Nat):Int) ⟨h.size,0,none⟩ k (decide (k=6∨k=7))).wp h1 Q:=by
   unfold Us
   refine KP (fun h67=>?_) (fun h67=>?_)
   ·rw [if_pos (of_decide_eq_true h67)] at H2
    exact bare (U1 (c:=decide (1≤n)) (fun _ Q' hq=>Zm c1 (KC hq)) (U1 (c:=decide (n≤281474976710656)) (fun _ Q' hq=>Zm c1 (KC hq)) (KC H2)))
   rw [if_neg (of_decide_eq_false h67)] at H2
   simp only [if_neg (of_decide_eq_false h67)] at H
   refine KP (fun h2k=>?_) (fun h2k=>?_)
   ·have h2k:k=2:=by simpa using h2k
    rw [if_pos h2k] at H2
    refine Zm c1 (U1 (c:=l.isEmpty) (fun _ Q' hq=>Jw c3 (KC (by rw [len0 hxl]; exact hq))) (U1 (c:=decide (s.length≤128)) (fun _ Q' hq=>Yx c2 (KC (by rw [show decide (((bs s).size:Int)≤128)=decide (s.length≤128) by rw [ZO,Bool.eq_iff_iff]; simp only [decide_eq_true_eq]; omega]; exact hq))) (KC ?_)))
    exact H2
   have h2k:¬ k=2:=by simpa using h2k
   rw [if_neg h2k] at H2
   simp only [if_neg h2k] at H
   have zero:∀ {β:Type} {Q':β→Heap→Prop} {f:Bool→M β},(f (decide (n=0) && decide (s=[]))).wp h1 Q'→(ldI .i64 ((⟨h.size,0,none⟩:Addr).add 1)>>=fun x=>M.ite (x == 0) (ldS ((⟨h.size,0,none⟩:Addr).add 2)>>=fun y=>M.pure (sEq y ByteArray.empty)) (M.pure false)>>=f).wp h1 Q':=fun hq =>
    Zm c1 (U1 (c:=decide (s=[])) (fun _ Q' hq=>Yx c2 (KC (by rw [sEq0]; exact hq))) hq)
   refine KP (fun h4k=>?_) (fun h4k=>?_)
   ·have h4k:k=4:=by simpa using h4k
    rw [if_pos h4k] at H2
    simp only [if_pos h4k] at H
    refine zero (U1 (c:=decide (l.length≤256)) (fun _ Q' hq=>Jw c3 (KC (by rw [show decide ((xs.len:Int)≤256)=decide (l.length≤256) by rw [hxl,Bool.eq_iff_iff]; simp only [decide_eq_true_eq]; omega]; exact hq))) ?_)
    cases hz:(decide (n=0) && decide (s=[])) with
    | false =>
     rw [hz] at H2
     exact Jr (KC (by simpa using H2))
    | true =>
     cases hl:decide (l.length≤256) with
     | false=>rw [hl] at H2; exact Jr (KC (by simpa using H2))
     | true =>
      simp only [hz,hl,Bool.true_and] at H
      exact KE (iteT rfl (all (fun h2 e2=>KC (H _ (E.trans e2)))))
   have h4k:¬ k=4:=by simpa using h4k
   rw [if_neg h4k] at H2
   simp only [if_neg h4k] at H
   refine KP (fun h5k=>?_) (fun h5k=>?_)
   ·have h5k:k=5:=by simpa using h5k
    rw [if_pos h5k] at H2
    simp only [if_pos h5k] at H
    have heven:((Int.tmod (xs.len:Int) 2) == 0)=decide (l.length % 2=0):=by
     rw [hxl,Int.tmod_eq_emod_of_nonneg (by omega),Bool.eq_iff_iff]
     simp
     omega
    refine zero (U1 (c:=decide (l.length≤512)) (fun _ Q' hq=>Jw c3 (KC (by rw [show decide ((xs.len:Int)≤512)=decide (l.length≤512) by rw [hxl,Bool.eq_iff_iff]; simp only [decide_eq_true_eq]; omega]; exact hq))) ?_)
    refine U1 (c:=decide (l.length % 2=0)) (fun _ Q' hq=>Jw c3 (KC (by rw [heven]; exact hq))) ?_
    cases hz:(decide (n=0) && decide (s=[])) with
    | false =>
     rw [hz] at H2
     exact Jr (Jr (KC (by simpa using H2)))
    | true =>
     cases hl:decide (l.length≤512) with
     | false=>rw [hl] at H2; exact Jr (Jr (KC (by simpa using H2)))
     | true =>
      cases hev:decide (l.length % 2=0) with
      | false=>rw [hev] at H2; exact Jr (Jr (KC (by simpa using H2)))
      | true =>
       simp only [hz,hl,hev,Bool.true_and] at H
       refine KE (iteT rfl (all (fun h2 e2=>?_)))
       cases ha:l.all (mayV d) with
       | false =>
        have:=H _ (E.trans e2)
        rw [ha,Bool.and_false] at this
        exact Jr (KC this)
       | true =>
        refine KE (iteT rfl (Jw (e2.cell c3) (KE (KI0 (r1.ext (E.trans e2)) (by have:=of_decide_eq_true hl; omega) (fun h3 e3=>KC (KC ?_))))))
        have:=H _ ((E.trans e2).trans e3)
        rw [ha,Bool.and_true] at this
        exact this
   ·have h5k:¬ k=5:=by simpa using h5k
    rw [if_neg h5k] at H2
    exact KC H2
  refine KP (fun h6k=>?_) (fun h6k=>?_)
  ·have h6k:k=6:=by simpa using h6k
   have e:(k == 6)=decide (k=6∨k=7):=by subst h6k; rfl
   rw [e]
   exact j2
  ·have h6k:¬ k=6:=by simpa using h6k
   have e:(k == 7)=decide (k=6∨k=7):=by rw [eqI,Bool.eq_iff_iff]; simp [h6k]
   rw [e]
   exact j2
theorem KE9 {v:Vl} {h:Heap} {Q:Int→Heap→Prop} {x:Array Value} (hx:VRep h v x) (H:∀ h',Ext h h'→Q (Nz v) h'):(UR x).wp h Q:=by
 unfold UR
 refine ZU (fun h1 e1 z1 g1=>z6 (v:=v) g1 hx.size (KE (KLx 8 v (Nat.le_refl _) (hx.ext e1) (fun h2 e2=>?_))))
 have:=H _ (e1.trans e2)
 unfold Nz at this
 cases hm:mayV 8 v with
 | true=>rw [hm,if_pos rfl] at this; exact iteF rfl (KC this)
 | false=>rw [hm,if_neg (by simp)] at this; exact iteT rfl (KC this)
def UZ:List Vl→Int
 | []=>0
 | v::l=>if Nz v≠0 then Nz v else UZ l
theorem KFA {l:List Vl} {h:Heap} {Q:Int→Heap→Prop} {x:Sl} (hx:VsRep h x l) (H:∀ h',Ext h h'→Q (UZ l) h'):(YH x).wp h Q:=by
 unfold YH
 have hxl:=hx.len
 have hxb:=hx.big
 have hxc:=hx.cap
 refine M.loop_inv (fun (t:Int) h'=>Ext h h'∧∃ i:Nat,t=(i:Int)∧i≤l.length∧UZ (l.drop i)=UZ l) (fun t _=>((l.length:Int) - t).toNat) ?_ ⟨Ext.refl h,0,rfl,Nat.zero_le _,by simp⟩
 rintro t h' ⟨E,i,rfl,hi,hd⟩ self hself
 unfold NC
 refine KP (fun hc=>?_) (fun hc=>?_)
 ·have hlt:i < l.length:=by have:=of_decide_eq_true hc; omega
  rw [List.drop_eq_getElem_cons hlt,UZ] at hd
  refine KC6 (hx.ext E) hlt rfl (fun a c hs hcs hv=>Uc hs hcs (ZU (fun h1 e1 z1 g1=>Z0 hs (stR (vs:=c) g1 (by rw [hs]; decide) hv.one (fun h2 u2 g2=>?_)))))
  rw [K0 (by rw [Array.length_toList,hs]; rfl),Array.toArray_toList] at g2
  have E2:Ext h' h2:=e1.upd u2 (Nat.le_refl _)
  refine z6 (v:=l[i]) g2 hs (KE (KB0 (hv.ext E2) (fun h3 e3=>?_)))
  refine KP (fun hne=>?_) (fun heq=>?_)
  ·have hne:Nz l[i]≠0:=by simpa using hne
   rw [if_pos hne] at hd
   rw [hd]
   exact KC (H _ ((E.trans E2).trans e3))
  ·have heq:Nz l[i]=0:=by simpa using heq
   rw [if_neg (by simpa using heq)] at hd
   rw [w64 (by omega) (by omega)]
   exact hself _ _ ⟨(E.trans E2).trans e3,i+1,by simp,by omega,hd⟩ (by omega)
 ·have hge:i=l.length:=by have:=of_decide_eq_false hc; omega
  subst hge
  rw [List.drop_length] at hd
  have:=H _ E
  rw [← hd] at this
  exact KC this
end Gx
namespace Gx
open Go
set_option linter.unusedVariables false
set_option linter.unusedSimpArgs false
mutual
def ZK (S:Nat→Prop) (h:Heap):Vl→Array Value→Prop
 | .mk k n s l,cs=>∃ x:Sl,cs=ZT k n s x∧I64 k∧I64 n∧s.length≤9223372036854775807∧(x.len=l.length∧x.len≤x.cap∧x.len≤9223372036854775807∧Wr S h l x.base 0)
def Wr (S:Nat→Prop) (h:Heap):List Vl→Option Addr→Nat→Prop
 | [],_,_=>True
 | v::l,b,i=>(∃ a cs,b=some a∧S a.block∧cs.size=4∧(∀ j,j < 4→KO h (a.add (i * 4+j))=cs[j]?)∧ZK S h v cs)∧Wr S h l b (i+1)
end
structure VsRepS (S:Nat→Prop) (h:Heap) (x:Sl) (l:List Vl):Prop where
 len:x.len=l.length
 cap:x.len≤x.cap
 big:x.len≤9223372036854775807
 at_:Wr S h l x.base 0
theorem ZK.eq {S:Nat→Prop} {h:Heap} {k n:Int} {s:List UInt8} {l:List Vl} {cs:Array Value}:ZK S h (.mk k n s l) cs↔∃ x:Sl,cs=ZT k n s x∧I64 k∧I64 n∧s.length≤9223372036854775807∧VsRepS S h x l:=by
 rw [ZK]
 constructor
 ·rintro ⟨x,h1,h2,h3,h4,h5,h6,h7,h8⟩; exact ⟨x,h1,h2,h3,h4,h5,h6,h7,h8⟩
 ·rintro ⟨x,h1,h2,h3,h4,h5,h6,h7,h8⟩; exact ⟨x,h1,h2,h3,h4,h5,h6,h7,h8⟩
theorem Wr.get {S:Nat→Prop} {h:Heap}:∀ {l:List Vl} {b:Option Addr} {i:Nat},Wr S h l b i→∀ {j:Nat} (hj:j < l.length),∃ a cs,b=some a∧S a.block∧cs.size=4∧(∀ m,m < 4→KO h (a.add ((i+j) * 4+m))=cs[m]?)∧ZK S h l[j] cs
 | [],_,_,_,j,hj=>by simp at hj
 | v::l,b,i,H,0,hj=>by rw [Wr] at H; exact H.1
 | v::l,b,i,H,j+1,hj=>by
  rw [Wr] at H
  have:=Wr.get H.2 (j:=j) (by simpa using hj)
  rw [show i+(j+1)=i+1+j by omega]
  exact this
theorem Wr.of {S:Nat→Prop} {h:Heap}:∀ {l:List Vl} {b:Option Addr} {i:Nat},(∀ j (hj:j < l.length),∃ a cs,b=some a∧S a.block∧cs.size=4∧(∀ m,m < 4→KO h (a.add ((i+j) * 4+m))=cs[m]?)∧ZK S h l[j] cs)→Wr S h l b i
 | [],_,_,_=>by rw [Wr]; trivial
 | v::l,b,i,H=>by
  rw [Wr]
  refine ⟨H 0 (by simp),Wr.of (fun j hj=>?_)⟩
  have:=H (j+1) (by simpa using hj)
  rw [show i+1+j=i+(j+1) by omega]
  exact this
theorem VsRepS.get {S:Nat→Prop} {h:Heap} {x:Sl} {l:List Vl} (H:VsRepS S h x l) {j:Nat} (hj:j < l.length):∃ a cs,x.base=some a∧S a.block∧cs.size=4∧(∀ m,m < 4→KO h (a.add (j * 4+m))=cs[m]?)∧ZK S h l[j] cs:=by
 have:=H.at_.get hj
 rw [Nat.zero_add] at this
 exact this
theorem KLy {k n:Int} {s:List UInt8} {l:List Vl} {m j:Nat} (hm:sizeOf (Vl.mk k n s l) < m+1) (hj:j < l.length):sizeOf l[j] < m:=by
 have:=List.sizeOf_lt_of_mem (List.getElem_mem hj)
 simp only [Vl.mk.sizeOf_spec] at hm
 omega
theorem KDl {S T:Nat→Prop} {h h':Heap} (e:∀ b,S b→h'[b]?=h[b]?) (hT:∀ b,S b→T b):∀ (m:Nat) (v:Vl) (cs:Array Value),sizeOf v < m→ZK S h v cs→ZK T h' v cs:=by
 intro m
 induction m with
 | zero=>intro v cs hm; omega
 | succ m ih =>
  rintro ⟨k,n,s,l⟩ cs hm H
  obtain ⟨x,h1,h2,h3,h4,h5⟩:=ZK.eq.1 H
  refine ZK.eq.2 ⟨x,h1,h2,h3,h4,h5.len,h5.cap,h5.big,Wr.of (fun j hj=>?_)⟩
  obtain ⟨a,cs',ha,hS,hs,hc,hv⟩:=h5.at_.get hj
  refine ⟨a,cs',ha,hT _ hS,hs,fun i hi=>?_,ih _ _ (KLy hm hj) hv⟩
  rw [← hc i hi]
  unfold KO
  rw [XO,e _ hS]
theorem ZK.same {S:Nat→Prop} {h h':Heap} {v:Vl} {cs:Array Value} (H:ZK S h v cs) (e:∀ b,S b→h'[b]?=h[b]?):ZK S h' v cs:=KDl e (fun _ h=>h) _ v cs (Nat.lt_succ_self _) H
theorem ZK.mono {S T:Nat→Prop} {h:Heap} {v:Vl} {cs:Array Value} (H:ZK S h v cs) (e:∀ b,S b→T b):ZK T h v cs:=KDl (fun _ _=>rfl) e _ v cs (Nat.lt_succ_self _) H
theorem KNf {S:Nat→Prop} {h:Heap}:∀ (m:Nat) (v:Vl) (cs:Array Value),sizeOf v < m→ZK S h v cs→VRep h v cs:=by
 intro m
 induction m with
 | zero=>intro v cs hm; omega
 | succ m ih =>
  rintro ⟨k,n,s,l⟩ cs hm H
  obtain ⟨x,h1,h2,h3,h4,h5⟩:=ZK.eq.1 H
  refine VRep.eq.2 ⟨x,h1,h2,h3,h4,h5.len,h5.cap,h5.big,VsAt.of (fun j hj=>?_)⟩
  obtain ⟨a,cs',ha,hS,hs,hc,hv⟩:=h5.at_.get hj
  exact ⟨a,cs',ha,hs,hc,ih _ _ (KLy hm hj) hv⟩
theorem ZK.to {S:Nat→Prop} {h:Heap} {v:Vl} {cs:Array Value} (H:ZK S h v cs):VRep h v cs:=KNf _ v cs (Nat.lt_succ_self _) H
theorem KAO {h:Heap} {a:Addr} {v:Value} (H:KO h a=some v):a.block < h.size:=by
 rcases Nat.lt_or_ge a.block h.size with h1 | h1
 ·exact h1
 ·unfold KO at H
  rw [Array.getElem?_eq_none h1] at H
  cases H
theorem KPP {h:Heap}:∀ (m:Nat) (v:Vl) (cs:Array Value),sizeOf v < m→VRep h v cs→ZK (· < h.size) h v cs:=by
 intro m
 induction m with
 | zero=>intro v cs hm; omega
 | succ m ih =>
  rintro ⟨k,n,s,l⟩ cs hm H
  obtain ⟨x,h1,h2,h3,h4,h5⟩:=VRep.eq.1 H
  refine ZK.eq.2 ⟨x,h1,h2,h3,h4,h5.len,h5.cap,h5.big,Wr.of (fun j hj=>?_)⟩
  obtain ⟨a,cs',ha,hs,hc,hv⟩:=h5.at_.get hj
  refine ⟨a,cs',ha,?_,hs,hc,ih _ _ (KLy hm hj) hv⟩
  have h0:=hc 0 (by decide)
  rw [Array.getElem?_eq_getElem (by omega)] at h0
  have:=KAO h0
  rwa [XO] at this
theorem VRep.lt {h:Heap} {v:Vl} {cs:Array Value} (H:VRep h v cs):ZK (· < h.size) h v cs:=KPP _ v cs (Nat.lt_succ_self _) H
theorem VsRepS.to {S:Nat→Prop} {h:Heap} {x:Sl} {l:List Vl} (H:VsRepS S h x l):VsRep h x l :=
 ⟨H.len,H.cap,H.big,VsAt.of (fun j hj=>by obtain ⟨a,cs,h1,h2,h3,h4,h5⟩:=H.at_.get hj; exact ⟨a,cs,h1,h3,h4,h5.to⟩)⟩
theorem VsRepS.same {S T:Nat→Prop} {h h':Heap} {x:Sl} {l:List Vl} (H:VsRepS S h x l) (e:∀ b,S b→h'[b]?=h[b]?) (hT:∀ b,S b→T b):VsRepS T h' x l :=
 ⟨H.len,H.cap,H.big,Wr.of (fun j hj=>by
  obtain ⟨a,cs,h1,h2,h3,h4,h5⟩:=H.at_.get hj
  refine ⟨a,cs,h1,hT _ h2,h3,fun i hi=>?_,KDl e hT _ _ _ (Nat.lt_succ_self _) h5⟩
  rw [← h4 i hi]
  unfold KO
  rw [XO,e _ h2])⟩
theorem VsRep.lt {h:Heap} {x:Sl} {l:List Vl} (H:VsRep h x l):VsRepS (· < h.size) h x l :=
 ⟨H.len,H.cap,H.big,Wr.of (fun j hj=>by
  obtain ⟨a,cs,h1,h3,h4,h5⟩:=H.at_.get hj
  refine ⟨a,cs,h1,?_,h3,h4,h5.lt⟩
  have h0:=h4 0 (by decide)
  rw [Array.getElem?_eq_getElem (by omega)] at h0
  have:=KAO h0
  rwa [XO] at this)⟩
theorem ZK.size {S:Nat→Prop} {h:Heap} {v:Vl} {cs:Array Value} (H:ZK S h v cs):cs.size=4:=H.to.size
def wt:Vl→Nat
 | .mk _ _ s l=>1+s.length+wts l
where wts:List Vl→Nat
 | []=>0
 | v::l=>wt v+wts l
theorem KLz (v:Vl):1≤wt v:=by cases v; rw [wt]; omega
theorem z7:∀ l:List Vl,l.length≤wt.wts l
 | []=>by simp
 | v::l=>by have:=z7 l; have:=KLz v; rw [wt.wts,List.length_cons]; omega
theorem z8 {l:List Vl} {v:Vl} (h:v ∈ l):wt v≤wt.wts l:=by
 induction l with
 | nil=>cases h
 | cons x l ih =>
  rw [wt.wts]
  rcases List.mem_cons.1 h with rfl | h
  ·omega
  ·have:=ih h; omega
end Gx
namespace Gx
open Go
set_option linter.unusedVariables false
set_option linter.unusedSimpArgs false
def Jq (css:List (Array Value)):List Value:=css.flatMap Array.toList
def W4 (css:List (Array Value)):Prop:=∀ c ∈ css,c.size=4∧∀ u ∈ c.toList,one u=true
theorem Vg:∀ {css:List (Array Value)},W4 css→(Jq css).length=css.length * 4
 | [],_=>rfl
 | c::r,h=>by
  have:=Vg (css:=r) (fun x hx=>h x (List.mem_cons_of_mem _ hx))
  have hc:=(h c (by simp)).1
  unfold Jq at this ⊢
  rw [List.flatMap_cons,List.length_append,this,Array.length_toList,hc,List.length_cons]; omega
theorem KAA:∀ {css:List (Array Value)},W4 css→∀ (i j:Nat),j < 4→(Jq css)[i * 4+j]?=(css[i]?).bind (fun c=>c[j]?)
 | [],_,i,j,_=>by simp [Jq]
 | c::r,h,i,j,hj=>by
  have hc:=(h c (by simp)).1
  unfold Jq
  rw [List.flatMap_cons]
  cases i with
  | zero=>rw [List.getElem?_append_left (by rw [Array.length_toList]; omega)]; simp
  | succ i =>
   rw [List.getElem?_append_right (by rw [Array.length_toList]; omega),Array.length_toList,hc,show (i+1) * 4+j - 4=i * 4+j by omega]
   have:=KAA (css:=r) (fun x hx=>h x (List.mem_cons_of_mem _ hx)) i j hj
   unfold Jq at this
   rw [this]; simp
theorem KL0 {css:List (Array Value)} (h:W4 css):∀ v ∈ Jq css,one v=true:=fun v hv=>by
 obtain ⟨c,hc,hv⟩:=List.mem_flatMap.1 hv
 exact (h c hc).2 v hv
theorem W4.append {a b:List (Array Value)} (ha:W4 a) (hb:W4 b):W4 (a++b):=fun c hc=>(List.mem_append.1 hc).elim (ha c) (hb c)
theorem W4.set {a:List (Array Value)} (ha:W4 a) {i:Nat} {c:Array Value} (hc:c.size=4) (h1:∀ u ∈ c.toList,one u=true):W4 (a.set i c):=fun x hx=>by
 rcases List.mem_or_eq_of_mem_set hx with h | rfl
 ·exact ha x h
 ·exact ⟨hc,h1⟩
theorem KH7:∀ {css:List (Array Value)},W4 css→∀ (i:Nat) (c:Array Value),c.size=4→i < css.length→Jq (css.set i c)=(Jq css).take (i * 4)++c.toList++(Jq css).drop (i * 4+4)
 | [],_,i,c,_,hi=>by simp at hi
 | x::r,h,0,c,hc,_=>by
  have hx:=(h x (by simp)).1
  simp only [Jq,List.set_cons_zero,List.flatMap_cons]
  rw [show (0 * 4+4)=x.toList.length by rw [Array.length_toList,hx]]
  simp
 | x::r,h,i+1,c,hc,hi=>by
  have hx:=(h x (by simp)).1
  have ih:=KH7 (css:=r) (fun y hy=>h y (List.mem_cons_of_mem _ hy)) i c hc (by simpa using hi)
  simp only [Jq,List.set_cons_succ,List.flatMap_cons] at ih ⊢
  rw [ih]
  have e1:(i+1) * 4=x.toList.length+i * 4:=by rw [Array.length_toList,hx]; omega
  rw [e1,List.take_length_add_append,show x.toList.length+i * 4+4=x.toList.length+(i * 4+4) by omega,List.drop_length_add_append]
  simp
theorem Gw.row4 {lo:Nat} {h:Heap} {r:Sl} {css:List (Array Value)} (G:Gw lo h r 4 (Jq css)) (hw:W4 css) {i:Nat} (hi:i < css.length):∃ b,r.base=some ⟨b,0,none⟩∧Sl.on r b∧∀ j,j < 4→KO h ((⟨b,0,none⟩:Addr).add (i * 4+j))=css[i][j]?:=by
 have hl:=Vg hw
 rcases G with ⟨rfl,he⟩ | ⟨b,ty,cells,R⟩
 ·rw [he] at hl; simp at hl; omega
 ·refine ⟨b,R.base,⟨_,R.base,rfl⟩,fun j hj=>?_⟩
  rw [Kg,Nat.zero_add,KU R.blk]
  have h1:=KAA hw i j hj
  rw [List.getElem?_eq_getElem hi] at h1
  have hc:=(hw _ (List.getElem_mem hi)).1
  have h2:css[i][j]?=some (css[i][j]'(by omega)):=Array.getElem?_eq_getElem (by omega)
  rw [h2]
  refine R.get _ _ ?_
  rw [h1]
  exact h2
theorem Gw.len4 {lo:Nat} {h:Heap} {r:Sl} {css:List (Array Value)} (G:Gw lo h r 4 (Jq css)) (hw:W4 css):r.len=css.length:=by
 have:=G.len
 rw [Vg hw] at this
 omega
theorem KL1 {β:Type} {lo:Nat} {h:Heap} {Q:β→Heap→Prop} {r:Sl} {css:List (Array Value)} {i:Nat} {t:Int} {c:Array Value} {f:Unit→M β} (G:Gw lo h r 4 (Jq css)) (hw:W4 css) (hi:i < css.length) (ht:t=(i:Int)) (hc:c.size=4) (h1:∀ u ∈ c.toList,one u=true)
  (H:∀ b h',r.base=some ⟨b,0,none⟩→Upd b h h'→Gw lo h' r 4 (Jq (css.set i c))→(f ()).wp h' Q):(ixL r t 4>>=fun a=>M.need (c.size=4)>>=fun _=>stG a c>>=f).wp h Q:=by
 subst ht
 have hl:=G.len4 hw
 obtain ⟨b0,hb0,_,_⟩:=G.row4 hw hi
 rcases G with ⟨rfl,he⟩ | ⟨b,ty,cells,R⟩
 ·cases hb0
 ·have hsz:=R.size
  have hcap:=R.cap
  refine Xi (by omega) (by omega) R.base (Z0 hc ?_)
  rw [Kg,show 0+(i:Int).toNat * 4=i * 4 by omega]
  refine stR (vs:=c) R.blk (by omega) h1 (fun h' u g=>H b h' R.base u (.inr ⟨b,ty,_,R.base,R.lo,g,by rw [GE]; exact R.size,R.cap,?_,fun j v hj=>?_⟩))
  ·rw [Vg (hw.set hc h1),List.length_set,hl]
  ·rw [KH7 hw i c hc hi] at hj
   have hfl:=Vg hw
   rw [← Array.getElem?_toList,Vi _ _ _ (by rw [Array.length_toList]; omega),Array.length_toList,hc]
   have hlen1:((Jq css).take (i * 4)).length=i * 4:=by rw [List.length_take]; omega
   have hlen2:(cells.toList.take (i * 4)).length=i * 4:=by rw [List.length_take,Array.length_toList]; omega
   by_cases h1:j < i * 4
   ·rw [List.append_assoc,List.getElem?_append_left (by omega),List.getElem?_take,if_pos h1] at hj
    rw [List.append_assoc,List.getElem?_append_left (by omega),List.getElem?_take,if_pos h1,Array.getElem?_toList]
    exact R.get j v hj
   ·by_cases h2:j < i * 4+4
    ·rw [List.append_assoc,List.getElem?_append_right (by omega),hlen1,List.getElem?_append_left (by rw [Array.length_toList,hc]; omega)] at hj
     rw [List.append_assoc,List.getElem?_append_right (by omega),hlen2,List.getElem?_append_left (by rw [Array.length_toList,hc]; omega)]
     exact hj
    ·rw [List.getElem?_append_right (by rw [List.length_append,hlen1,Array.length_toList,hc]; omega),List.length_append,hlen1,Array.length_toList,hc,List.getElem?_drop] at hj
     rw [List.getElem?_append_right (by rw [List.length_append,hlen2,Array.length_toList,hc]; omega),List.length_append,hlen2,Array.length_toList,hc,List.getElem?_drop,Array.getElem?_toList]
     exact R.get _ v hj
structure VGw (lo:Nat) (S:Nat→Prop) (h:Heap) (r:Sl) (css:List (Array Value)) (l:List Vl):Prop where
 gw:Gw lo h r 4 (Jq css)
 w4:W4 css
 len:css.length=l.length
 rep:∀ j (h1:j < l.length) (h2:j < css.length),ZK S h l[j] css[j]
theorem VGw.nil (lo:Nat) (S:Nat→Prop) (h:Heap):VGw lo S h Sl.nil [] []:=⟨Gw.nil _ _ _,fun c hc=>(by cases hc),rfl,fun j h1=>(by cases h1)⟩
theorem VGw.rep_ {lo:Nat} {S:Nat→Prop} {h:Heap} {r:Sl} {css:List (Array Value)} {l:List Vl} (G:VGw lo S h r css l) (hl:l.length≤9223372036854775807):VsRepS (fun b=>S b∨Sl.on r b) h r l :=
 ⟨by rw [G.gw.len4 G.w4,G.len],G.gw.cap,by rw [G.gw.len4 G.w4,G.len]; exact hl,Wr.of (fun j hj=>by
  obtain ⟨b,hb,hon,hc⟩:=G.gw.row4 G.w4 (i:=j) (by rw [G.len]; exact hj)
  exact ⟨_,css[j]'(by rw [G.len]; exact hj),hb,.inr hon,(G.w4 _ (List.getElem_mem _)).1,fun m hm=>by rw [Nat.zero_add]; exact hc m hm,(G.rep j hj (by rw [G.len]; exact hj)).mono (fun b hb=>.inl hb)⟩)⟩
theorem VGw.same {lo:Nat} {S:Nat→Prop} {h h':Heap} {r:Sl} {css:List (Array Value)} {l:List Vl} (G:VGw lo S h r css l) (e1:∀ b,Sl.on r b→h'[b]?=h[b]?) (e2:∀ b,S b→h'[b]?=h[b]?):VGw lo S h' r css l :=
 ⟨G.gw.same e1,G.w4,G.len,fun j h1 h2=>(G.rep j h1 h2).same e2⟩
theorem VGw.mono {lo:Nat} {S T:Nat→Prop} {h:Heap} {r:Sl} {css:List (Array Value)} {l:List Vl} (G:VGw lo S h r css l) (e:∀ b,S b→T b):VGw lo T h r css l :=
 ⟨G.gw,G.w4,G.len,fun j h1 h2=>(G.rep j h1 h2).mono e⟩
theorem KG9 {lo:Nat} {S:Nat→Prop} {h:Heap} {Q:Sl→Heap→Prop} {r x:Sl} {css css':List (Array Value)} {l l':List Vl} (G:VGw lo S h r css l) (hlo:lo≤h.size) (hS:∀ b,S b→b < h.size∧¬ Sl.on r b) (hw:W4 css') (hl':css'.length=l'.length) (hx:x.len=l'.length) (hr:ze h x.base (Jq css')) (hv:∀ j (h1:j < l'.length) (h2:j < css'.length),ZK S h l'[j] css'[j])
  (hm:l.length+l'.length≤2199023255552)
  (hq:∀ h' r',VGw lo S h' r' (css++css') (l++l')→h.size≤h'.size→(∀ i,i < h.size→¬ Sl.on r i→h'[i]?=h[i]?)→(∀ i,Sl.on r' i→Sl.on r i∨h.size≤i)→Q r' h'):(apL KB 4 56 (#[.int .i64 0,.int .i64 0,.string ByteArray.empty,.slice none 0 0]:Array Value) r x).wp h Q:=by
 have hrl:=G.gw.len4 G.w4
 have hgl:=G.len
 refine KBH (vs:=Jq css) (news:=Jq css') rfl G.gw (by rw [Vg hw,hl',hx]) hr (KL0 hw) (by omega) (by omega) hlo (fun h' r' G' hlen hs same on_=>?_)
 have he:∀ b,S b→h'[b]?=h[b]?:=fun b hb=>same b (hS b hb).1 (hS b hb).2
 refine hq h' r' ⟨?_,G.w4.append hw,by rw [List.length_append,List.length_append,G.len,hl'],fun j h1 h2=>?_⟩ hs same on_
 ·unfold Jq at G' ⊢
  rw [List.flatMap_append]
  exact G'
 ·by_cases hj:j < l.length
  ·rw [List.getElem_append_left hj,List.getElem_append_left (by rw [G.len]; exact hj)]
   exact (G.rep j hj _).same he
  ·rw [List.getElem_append_right (by omega),List.getElem_append_right (by omega)]
   have h3:css.length=l.length:=G.len
   simp only [h3]
   exact (hv _ (by rw [List.length_append] at h1; omega) _).same he
end Gx
namespace Gx
open Go
set_option linter.unusedVariables false
set_option linter.unusedSimpArgs false
theorem Wr.css {S:Nat→Prop} {h:Heap}:∀ {l:List Vl} {b:Option Addr} {i:Nat},Wr S h l b i→∃ css:List (Array Value),W4 css∧css.length=l.length∧(∀ j (h1:j < l.length) (h2:j < css.length),ZK S h l[j] css[j])∧(∀ j (h2:j < css.length),∃ a,b=some a∧∀ m,m < 4→KO h (a.add ((i+j) * 4+m))=css[j][m]?)
 | [],_,_,_=>⟨[],fun c hc=>(by cases hc),rfl,fun j h1=>(by cases h1),fun j h1=>(by cases h1)⟩
 | v::l,b,i,H=>by
  rw [Wr] at H
  obtain ⟨⟨a,cs,ha,hS,hs,hc,hv⟩,H2⟩:=H
  obtain ⟨css,h1,h2,h3,h4⟩:=Wr.css H2
  refine ⟨cs::css,?_,by simp [h2],?_,?_⟩
  ·intro c hc
   rcases List.mem_cons.1 hc with rfl | hc
   ·exact ⟨hs,hv.to.one⟩
   ·exact h1 c hc
  ·intro j j1 j2
   cases j with
   | zero=>exact hv
   | succ j=>exact h3 j (by simpa using j1) (by simpa using j2)
  ·intro j j2
   cases j with
   | zero=>exact ⟨a,ha,hc⟩
   | succ j =>
    obtain ⟨a',ha',h5⟩:=h4 j (by simpa using j2)
    refine ⟨a',ha',fun m hm=>?_⟩
    rw [show i+(j+1)=i+1+j by omega]
    exact h5 m hm
theorem VsRepS.css {S:Nat→Prop} {h:Heap} {x:Sl} {l:List Vl} (H:VsRepS S h x l):∃ css:List (Array Value),W4 css∧css.length=l.length∧(∀ j (h1:j < l.length) (h2:j < css.length),ZK S h l[j] css[j])∧ze h x.base (Jq css):=by
 obtain ⟨css,h1,h2,h3,h4⟩:=H.at_.css
 refine ⟨css,h1,h2,h3,?_⟩
 cases hc:css with
 | nil=>exact .inl rfl
 | cons c r =>
  rw [← hc]
  obtain ⟨a,ha,_⟩:=h4 0 (by rw [hc]; simp)
  refine .inr ⟨a,ha,fun n v hn=>?_⟩
  have hlt:=(List.getElem?_eq_some_iff.1 hn).1
  rw [Vg h1] at hlt
  have hj:n / 4 < css.length:=by omega
  obtain ⟨a',ha',h5⟩:=h4 (n / 4) hj
  rw [ha] at ha'; cases ha'
  have h6:=KAA h1 (n / 4) (n % 4) (by omega)
  rw [show n / 4 * 4+n % 4=n by omega,hn,List.getElem?_eq_getElem hj] at h6
  have h7:=h5 (n % 4) (by omega)
  rw [show (0+n / 4) * 4+n % 4=n by omega] at h7
  rw [h7]
  exact h6.symm
theorem KNg {S:Nat→Prop} {h:Heap}:∀ (m:Nat) (v:Vl) (cs:Array Value),sizeOf v < m→ZK S h v cs→ZK (fun b=>S b∧b < h.size) h v cs:=by
 intro m
 induction m with
 | zero=>intro v cs hm; omega
 | succ m ih =>
  rintro ⟨k,n,s,l⟩ cs hm H
  obtain ⟨x,h1,h2,h3,h4,h5⟩:=ZK.eq.1 H
  refine ZK.eq.2 ⟨x,h1,h2,h3,h4,h5.len,h5.cap,h5.big,Wr.of (fun j hj=>?_)⟩
  obtain ⟨a,cs',ha,hS,hs,hc,hv⟩:=h5.at_.get hj
  refine ⟨a,cs',ha,⟨hS,?_⟩,hs,hc,ih _ _ (KLy hm hj) hv⟩
  have h0:=hc 0 (by decide)
  rw [Array.getElem?_eq_getElem (by omega)] at h0
  have:=KAO h0
  rwa [XO] at this
theorem ZK.lt2 {S:Nat→Prop} {h:Heap} {v:Vl} {cs:Array Value} (H:ZK S h v cs):ZK (fun b=>S b∧b < h.size) h v cs:=KNg _ v cs (Nat.lt_succ_self _) H
theorem JF (k n:Int) (s:List UInt8) (x:Sl):∀ v ∈ (ZT k n s x).toList,one v=true:=fun v hv=>by
 simp only [ZT,List.mem_cons,List.not_mem_nil,or_false] at hv
 rcases hv with rfl | rfl | rfl | rfl <;> first | rfl | exact KEo _
theorem KI1 {S:Nat→Prop} {h:Heap} {Q:Sl→Heap→Prop} {x:Sl} {l:List Vl} (hx:VsRepS S h x l) (hS:∀ b,S b→b < h.size) (hm:l.length≤1099511627776)
  (H:∀ h' r css,Ext h h'→VGw h.size S h' r css l→Q r h'):(ZJ x).wp h Q:=by
 unfold ZJ
 refine KP (fun hn=>?_) (fun hn=>?_)
 ·have hb:x.base=none:=by simpa using hn
  have hl:l=[]:=by
   cases hl:l with
   | nil=>rfl
   | cons v r =>
    obtain ⟨a,cs,ha,_⟩:=hx.get (j:=0) (by rw [hl]; simp)
    rw [hb] at ha; cases ha
  subst hl
  exact KC (H _ _ _ (Ext.refl _) (VGw.nil _ _ _))
 ·refine ⟨zRow (#[.int .i64 0,.int .i64 0,.string ByteArray.empty,.slice none 0 0]:Array Value) 0,rfl,qK ?_⟩
  have e1:=Ext.push h (.cells (zRow (#[.int .i64 0,.int .i64 0,.string ByteArray.empty,.slice none 0 0]:Array Value) 0) KB)
  have g1:(h.push (.cells (zRow (#[.int .i64 0,.int .i64 0,.string ByteArray.empty,.slice none 0 0]:Array Value) 0) KB))[h.size]?=some (.cells (zRow (#[.int .i64 0,.int .i64 0,.string ByteArray.empty,.slice none 0 0]:Array Value) 0) KB (0,0)):=Kf
  have hs1:(h.push (.cells (zRow (#[.int .i64 0,.int .i64 0,.string ByteArray.empty,.slice none 0 0]:Array Value) 0) KB)).size=h.size+1:=by simp
  generalize h.push (.cells (zRow (#[.int .i64 0,.int .i64 0,.string ByteArray.empty,.slice none 0 0]:Array Value) 0) KB)=h1 at e1 g1 hs1 ⊢
  obtain ⟨css,w4,hcl,hrep,hrd⟩:=hx.css
  have G1:VGw h.size S h1 ⟨some ⟨h.size,0,none⟩,0,0⟩ [] []:=⟨.inr ⟨h.size,_,_,rfl,Nat.le_refl _,g1,zh _ _,Nat.le_refl _,rfl,fun j v hj=>(by cases hj)⟩,fun c hc=>(by cases hc),rfl,fun j h1=>(by cases h1)⟩
  refine KE (KG9 (l':=l) (css':=css) G1 e1.size (fun b hb=>⟨by have:=hS b hb; omega,fun ⟨a,ha,hab⟩=>by cases ha; have:h.size=b:=hab; have:=hS b hb; omega⟩) w4 hcl hx.len (e1.reads hrd) (fun j h1' h2=>(hrep j h1' h2).same (fun b hb=>e1.same b (hS b hb))) (by simp; omega) (fun h2 r G2 hs same on_=>KC (H h2 r css ?_ (by simpa using G2))))
  exact ⟨Nat.le_trans e1.size hs,fun i hi=>(same i (Nat.lt_of_lt_of_le hi e1.size) (fun ⟨a,ha,hab⟩=>by cases ha; have:h.size=i:=hab; omega)).trans (e1.same i hi)⟩
theorem KKc {h:Heap} {b:Nat} {k n:Int} {s:List UInt8} {x y:Sl} {t:TypeId} (hb:h[b]?=some (.cells (ZT k n s x) t (0,0))):(hset h ⟨b,3,none⟩ y.v)[b]?=some (.cells (ZT k n s y) t (0,0)):=by
 rw [V8 hb]; rfl
theorem KI2:∀ (m:Nat) (v:Vl) {h:Heap} {Q:Array Value→Heap→Prop} {x:Array Value},sizeOf v < m→VRep h v x→wt v≤1099511627776→(∀ h' c,Ext h h'→ZK (h.size≤·) h' v c→Q c h')→(NJ x).wp h Q:=by
 intro m
 induction m with
 | zero=>intro v h Q x hm; omega
 | succ m ih =>
  rintro ⟨k,n,s,l⟩ h Q x hm hx hw H
  obtain ⟨xs,rfl,k1,n1,s1,r1⟩:=VRep.eq.1 hx
  rw [wt] at hw
  have hcnt:=z7 l
  unfold NJ
  refine ZU (fun h1 e1 z1 g1=>ZU (fun h2 e2 z2 g2=>?_))
  have E2:=e1.trans e2
  have g1':=e2.blk g1
  have c3:KO h2 ((⟨h.size,0,none⟩:Addr).add 3)=some xs.v:=by rw [Kl g1']; rfl
  have rS:VsRepS (· < h.size) h2 xs l:=r1.lt.same (fun b hb=>E2.same b hb) (fun _ h=>h)
  refine Jw c3 (KE (KI1 rS (fun b hb=>Nat.lt_of_lt_of_le hb E2.size) (by omega) (fun h3 y css e3 G3=>?_)))
  have g1'':=e3.blk g1'
  have g2'':=e3.blk g2
  refine Wl (x:=xs.v) (e3.cell c3) (by rw [Kg,KZ g1'']) (KEo _) ?_
  rw [Kg,Nat.zero_add]
  have u4:=Upd.hset h3 h.size 3 y.v
  have g4:=KKc (y:=y) g1''
  generalize hset h3 ⟨h.size,3,none⟩ y.v=h4 at u4 g4 ⊢
  have yon:∀ b,Sl.on y b→h2.size≤b∧b < h3.size:=fun b hb=>⟨(G3.gw.lt hb).2,(G3.gw.lt hb).1⟩
  have hs1:h1.size=h.size+1:=z1
  have hs2:h2.size=h1.size+1:=z2
  have hs3:=e3.size
  have E4:Ext h h4:=(E2.trans e3).upd u4 (Nat.le_refl _)
  have g24:h4[h1.size]?=_:=(u4.ne _ (by omega)).trans g2''
  have cy:∀ {hh:Heap},hh[h.size]?=some (.cells (ZT k n s y) KB (0,0))→KO hh ((⟨h.size,0,none⟩:Addr).add 3)=some y.v:=fun hb=>by rw [Kl hb]; rfl
  refine Jw (cy g4) ?_
  have hyl:y.len=l.length:=by rw [G3.gw.len4 G3.w4,G3.len]
  rw [hyl]
  refine M.loop_inv (fun (t:Int) hh=>∃ (i:Nat) (css:List (Array Value)),t=(i:Int)∧i≤l.length∧Gw h2.size hh y 4 (Jq css)∧W4 css∧css.length=l.length∧(∀ j (j1:j < l.length) (j2:j < css.length),j < i→ZK (h3.size≤·) hh l[j] css[j])∧(∀ j (j1:j < l.length) (j2:j < css.length),i≤j→ZK (· < h.size) hh l[j] css[j])∧Ext h hh∧h3.size≤hh.size∧hh[h.size]?=some (.cells (ZT k n s y) KB (0,0))∧hh[h1.size]?=h4[h1.size]?) (fun t _=>((l.length:Int) - t).toNat) ?_
   ⟨0,css,rfl,Nat.zero_le _,G3.gw.same (fun b hb=>u4.ne b (by have:=(yon b hb).1; omega)),G3.w4,G3.len,fun j j1 j2 h0=>by omega,fun j j1 j2 _=>(G3.rep j j1 j2).same (fun b hb=>u4.ne b (by omega)),E4,by rw [u4.size]; exact Nat.le_refl _,g4,rfl⟩
  rintro t hh ⟨i,css,rfl,hi,G,w4,hcl,hnew,hold,E,hsz,gb,gz⟩ self hself
  unfold qD
  refine KP (fun hc=>?_) (fun hc=>?_)
  ·have hlt:i < l.length:=by have:=of_decide_eq_true hc; omega
   have hlc:i < css.length:=by omega
   refine Jw (cy gb) (Jw (cy gb) ?_)
   obtain ⟨b,hb,hon,hrow⟩:=G.row4 w4 hlc
   have hv:=hold i hlt hlc (Nat.le_refl _)
   have hi4:(i:Int).toNat * 4=i * 4:=by omega
   refine Xi (by omega) (by omega) hb (Uc hv.size (fun j hj=>by rw [Addr.add_add,hi4]; exact hrow j hj) ?_)
   have hwi:=z8 (List.getElem_mem hlt)
   refine KE (WX (KC0 _) (ih l[i] (KLy hm hlt) hv.to (by omega) (fun h5 c e5 hc5=>?_)))
   have hcell5:∀ j,j < 4→KO h5 (((⟨b,0,none⟩:Addr).add ((i:Int).toNat * 4)).add j)=css[i][j]?:=fun j hj=>by
    rw [Addr.add_add,hi4]
    have h6:=hrow j hj
    have h7:css[i][j]?=some (css[i][j]'(by rw [hv.size]; exact hj)):=Array.getElem?_eq_getElem _
    rw [h7] at h6 ⊢
    exact e5.cell h6
   have G5:=G.ext e5
   refine KEn ⟨e5.cell (cy gb),e5.cell (cy gb),hv.size,hcell5⟩ ?_
   refine KL1 G5 w4 hlc rfl hc5.size hc5.to.one (fun b' h6 hb' u6 G6=>?_)
   rw [hb] at hb'; cases hb'
   have hbl:=yon b hon
   have hcs:∀ j (j1:j < (css.set i c).length) (j2:j < css.length),i≠j→(css.set i c)[j]=css[j]:=fun j j1 j2 hne=>List.getElem_set_ne hne _
   have hs5:=e5.size
   rw [w64 (by omega) (by omega)]
   refine hself _ _ ⟨i+1,css.set i c,by simp,by omega,G6,w4.set hc5.size hc5.to.one,by rw [List.length_set]; exact hcl,fun j j1 j2 hj=>?_,fun j j1 j2 hj=>?_,(E.trans e5).upd u6 (by omega),by rw [u6.size]; omega,?_,?_⟩ (by omega)
   ·by_cases hji:i=j
    ·subst hji
     rw [List.getElem_set_self]
     exact (hc5.same (fun b1 hb1=>u6.ne b1 (by omega))).mono (fun b1 hb1=>by omega)
    ·rw [hcs j j2 (by rw [hcl]; exact j1) hji]
     have:=hnew j j1 (by rw [hcl]; exact j1) (by omega)
     exact (this.lt2.same (fun b1 hb1=>(u6.ne b1 (by omega)).trans (e5.same b1 hb1.2))).mono (fun b1 hb1=>hb1.1)
   ·rw [hcs j j2 (by rw [hcl]; exact j1) (by omega)]
    exact (hold j j1 (by rw [hcl]; exact j1) (by omega)).same (fun b1 hb1=>(u6.ne b1 (by omega)).trans (e5.same b1 (by have:=E.size; omega)))
   ·rw [u6.ne _ (by omega)]; exact e5.blk gb
   ·rw [u6.ne _ (by omega),← gz]
    exact e5.same _ (by omega)
  ·have hge:i=l.length:=by have:=of_decide_eq_false hc; omega
   subst hge
   refine Uc (cs:=ZT k n s y) rfl (fun j hj=>by rw [Kl gb]) (Z0 rfl ?_)
   rw [g24] at gz
   refine stR (vs:=ZT k n s y) (off:=0) gz (Nat.le_refl 4) (JF k n s y) (fun h7 u7 g7=>?_)
   rw [K0 (by rfl),Array.toArray_toList] at g7
   refine Uc (cs:=ZT k n s y) rfl (fun j hj=>by rw [Kl g7]) (KC (H _ _ (E.upd u7 (by omega)) ?_))
   have hG:VGw h2.size (h3.size≤·) h7 y css l:=⟨G.same (fun b hb=>u7.ne b (by have:=(yon b hb).1; omega)),w4,hcl,fun j j1 j2=>(hnew j j1 j2 j1).same (fun b hb=>u7.ne b (by omega))⟩
   exact ZK.eq.2 ⟨y,rfl,k1,n1,s1,(hG.rep_ (by omega)).same (fun _ _=>rfl) (fun b hb=>hb.elim (fun hb=>by omega) (fun hb=>by have:=(yon b hb).1; omega))⟩
def getV (key:Vl):List Vl→Option Vl
 | []=>none
 | [_]=>none
 | a::b::r=>if cmpV a key=0 then some b else getV key r
def getM (m key:Vl):Option Vl:=if m.k=5 then getV key m.l else none
theorem KL2 {k n:Int} {s:List UInt8} {l:List Vl} {key:Vl} (h:¬ k=5):getM (.mk k n s l) key=none:=if_neg h
theorem KL3 {k n:Int} {s:List UInt8} {l:List Vl} {key:Vl} (h:k=5):getM (.mk k n s l) key=getV key l:=if_pos h
def vl0:Vl:=.mk 0 0 [] []
theorem KAB (S:Nat→Prop) (h:Heap):ZK S h vl0 (#[.int .i64 0,.int .i64 0,.string ByteArray.empty,.slice none 0 0]:Array Value) :=
 ZK.eq.2 ⟨Sl.nil,rfl,⟨by decide,by decide⟩,⟨by decide,by decide⟩,by decide,rfl,Nat.le_refl _,by decide,by rw [Wr]; trivial⟩
def optV (o:Option Vl):Vl:=o.getD vl0
theorem KL4 {key:Vl} {l:List Vl} {i:Nat} (hi:i+1 < l.length):getV key (l.drop i)=if cmpV (l[i]'(by omega)) key=0 then some l[i+1] else getV key (l.drop (i+2)):=by
 rw [List.drop_eq_getElem_cons (show i < l.length by omega),List.drop_eq_getElem_cons hi,getV]
theorem KNh {key:Vl} {l:List Vl} {i:Nat} (hi:l.length≤i+1):getV key (l.drop i)=none:=by
 have:(l.drop i).length≤1:=by rw [List.length_drop]; omega
 match h:l.drop i with
 | []=>rfl
 | [_]=>rfl
 | _::_::_=>rw [h] at this; simp at this
theorem KL5 {m key:Vl} {h:Heap} {Q:Array Value × Bool→Heap→Prop} {x y:Array Value} (hx:VRep h m x) (hy:VRep h key y) (hw:wt m≤1099511627776) (H:∀ h' c,Ext h h'→VRep h' (optV (getM m key)) c→Q (c,(getM m key).isSome) h'):(zw x y).wp h Q:=by
 obtain ⟨k,n,s,l⟩:=m
 obtain ⟨xs,rfl,k1,n1,s1,r1⟩:=VRep.eq.1 hx
 unfold zw
 refine ZU (fun h1 e1 z1 g1=>ZU (fun h2 e2 z2 g2=>ZU (fun h3 e3 z3 g3=>?_)))
 have E:=(e1.trans e2).trans e3
 have g1':=(e2.trans e3).blk g1
 have g2':=e3.blk g2
 have c0:KO h3 ((⟨h.size,0,none⟩:Addr).add 0)=some (.int .i64 k):=by rw [Kl g1']; rfl
 have c3:KO h3 ((⟨h.size,0,none⟩:Addr).add 3)=some xs.v:=by rw [Kl g1']; rfl
 have hlast:∀ {hh:Heap} {c:Array Value} {b:Bool} {v:Vl},Ext h3 hh→ZK (·≠h2.size) hh v c→v=optV (getM (.mk k n s l) key)→b=(getM (.mk k n s l) key).isSome→(M.need (c.size=4)>>=fun _=>stG ⟨h2.size,0,none⟩ c>>=fun _=>ldG 4 ⟨h2.size,0,none⟩>>=fun r=>M.pure (r,b)).wp hh Q:=fun {hh c b v} e4 hc hv hb=>by
  subst hv; subst hb
  refine Z0 hc.size (stR (vs:=c) (e4.blk g3) (by rw [hc.size]; decide) hc.to.one (fun h5 u5 g5=>?_))
  rw [K0 (by rw [Array.length_toList,hc.size]; rfl),Array.toArray_toList] at g5
  have E5:Ext h h5:=(E.trans e4).upd u5 (by have:=(e1.trans e2).size; omega)
  exact ldR g5 hc.size (KC (H _ _ E5 (hc.same (fun b hb=>u5.ne b hb)).to))
 refine Zm c0 (KP (fun hk=>?_) (fun hk=>?_))
 ·have hk:¬ k=5:=by simpa using hk
  exact hlast (Ext.refl _) (KAB _ _) (by rw [KL2 hk]; rfl) (by rw [KL2 hk]; rfl)
 have hk:k=5:=by simpa using hk
 have hM:getM (.mk k n s l) key=getV key l:=KL3 hk
 rw [hM] at hlast
 rw [wt] at hw
 have hcnt:=z7 l
 have hxl:=r1.len
 refine M.loop_inv (fun (t:Int) hh=>Ext h3 hh∧∃ i:Nat,t=(i:Int)∧i≤l.length+1∧getV key (l.drop i)=getV key l) (fun t _=>((l.length:Int)+1 - t).toNat) ?_ ⟨Ext.refl _,0,rfl,Nat.zero_le _,rfl⟩
 rintro t hh ⟨e4,i,rfl,hi,hd⟩ self hself
 unfold zu
 have cc:=e4.cell c3
 refine Jw cc ?_
 rw [hxl]
 have hw1:IntKind.wrap .i64 ((i:Int)+1)=((i+1:Nat):Int):=by rw [w64 (by omega) (by omega)]; simp
 rw [hw1]
 refine KP (fun hc=>?_) (fun hc=>?_)
 ·have hlt:i+1 < l.length:=by have:=of_decide_eq_true hc; omega
  rw [KL4 hlt] at hd
  have rr:=(r1.ext E).ext e4
  refine Jw cc (KC6 rr (i:=i) (by omega) rfl (fun a c hs hcs hv=>Uc hs hcs (z6 (v:=key) (e4.blk g2') hy.size ?_)))
  refine KE (KGF hv ((hy.ext E).ext e4) (fun h5 e5=>?_))
  refine KP (fun hs0=>?_) (fun hs0=>?_)
  ·have hs0:cmpV l[i] key=0:=of_decide_eq_true hs0
   rw [if_pos hs0] at hd
   refine Jw (e5.cell cc) (KC6 (rr.ext e5) (i:=i+1) hlt rfl (fun a' c' hs' hcs' hv'=>Uc hs' hcs' ?_))
   have:=z8 (List.getElem_mem hlt)
   refine KE (KI2 _ l[i+1] (Nat.lt_succ_self _) hv' (by omega) (fun h6 c6 e6 hc6=>?_))
   refine hlast ((e4.trans e5).trans e6) (hc6.mono (fun b hb=>by have:=e3.size; have:=(e4.trans e5).size; omega)) (by rw [← hd]; rfl) (by rw [← hd]; rfl)
  ·have hs0:¬ cmpV l[i] key=0:=of_decide_eq_false hs0
   rw [if_neg hs0] at hd
   rw [w64 (by omega) (by omega)]
   exact hself _ _ ⟨e4.trans e5,i+2,by simp,by omega,hd⟩ (by omega)
 ·have hge:l.length≤i+1:=by have:=of_decide_eq_false hc; omega
  rw [KNh hge] at hd
  exact hlast e4 (KAB _ _) (by rw [← hd]; rfl) (by rw [← hd]; rfl)
end Gx
namespace Go.Proofs.YthelieedlghccaaGreatDoor
open Go Go.RowKit Gx
set_option linter.unusedVariables false
set_option maxRecDepth 100000
theorem c24:Tryz.prog.cellsOf 24=4:=by kernel_rfl
theorem c3:Tryz.prog.cellsOf 3=1:=by kernel_rfl
theorem c2:Tryz.prog.cellsOf 2=1:=by kernel_rfl
theorem c9:Tryz.prog.cellsOf 9=1:=by kernel_rfl
theorem c22:Tryz.prog.cellsOf 22=1:=by kernel_rfl
theorem KJt {H:Type}:∀ (l:List Vl) (es:List (DataW H)),l.length=es.length→(∀ i (h1:i < l.length) (h2:i < es.length),wt l[i]≤Rows.uptoBulk es[i])→wt.wts l≤Rows.uptoBulkAll es
 | [],[],_,_=>by simp [wt.wts]
 | [],_::_,h,_=>by simp at h
 | _::_,[],h,_=>by simp at h
 | v::l,d::es,h,hk=>by
  have h0:=hk 0 (by simp) (by simp)
  have:=KJt l es (by simpa using h) (fun i h1 h2=>by
   have:=hk (i+1) (by simpa using h1) (by simpa using h2)
   simpa using this)
  simp only [List.getElem_cons_zero] at h0
  rw [wt.wts]
  simp only [Rows.uptoBulkAll]
  omega
section
variable {H:Type} {enc:TypeId × Value→H}
theorem KHA {W:World} {t:TypeId} {n:Nat} {c:Value} {x:DataW H × List MemPlace} {sp:Nat→Bool} {held:Bool} {base:Nat} (ht:Tryz.prog.underlying t=some (.int .i64)) (h:DataW.trod enc Tryz.prog W base sp held n t [c]=some x):∃ z,c=.int .i64 z∧I64 z∧Rows.uptoBulk x.1=1:=by
 cases n with
 | zero=>simp [DataW.trod] at h
 | succ n =>
  unfold DataW.trod at h
  rw [ht] at h
  cases c with
  | int k z =>
   simp only at h
   split at h
   ·rename_i hk
    obtain ⟨rfl,hw⟩:=hk
    cases h
    refine ⟨z,rfl,?_,by simp [Rows.uptoBulk]⟩
    have:-9223372036854775808≤z∧z≤9223372036854775807:=by simpa [Lit.wf,IntKind.min,IntKind.max,IntKind.signed,IntKind.bits] using hw
    exact this
   ·cases h
  | _=>simp at h
theorem KJu {W:World} {t:TypeId} {n:Nat} {c:Value} {x:DataW H × List MemPlace} {sp:Nat→Bool} {held:Bool} {base:Nat} (ht:Tryz.prog.underlying t=some .string) (h:DataW.trod enc Tryz.prog W base sp held n t [c]=some x):∃ s:ByteArray,c=.string s∧s.size≤maxLen∧Rows.uptoBulk x.1=s.data.toList.length+1:=by
 cases n with
 | zero=>simp [DataW.trod] at h
 | succ n =>
  unfold DataW.trod at h
  rw [ht] at h
  cases c with
  | string s =>
   simp only at h
   split at h
   ·rename_i hk
    cases h
    exact ⟨s,rfl,hk,by simp [Rows.uptoBulk]⟩
   ·cases h
  | _=>simp at h
theorem KL6 {W:World} {sp:Nat→Bool} {held:Bool} {base:Nat}:∀ (m:Nat),
  (∀ (cs:List Value) (x:DataW H × List MemPlace),DataW.trod enc Tryz.prog W base sp held m 24 cs=some x→∃ v,VRep W.heap v cs.toArray∧wt v≤Rows.uptoBulk x.1) ∧
  (∀ (v:Value) (x:DataW H × List MemPlace),DataW.trod enc Tryz.prog W base sp held m 22 [v]=some x→∃ (s:Sl) (l:List Vl),v=s.v∧VsRep W.heap s l∧wt.wts l+1≤Rows.uptoBulk x.1):=by
 intro m
 induction m with
 | zero=>exact ⟨fun cs x h=>by simp [DataW.trod] at h,fun v x h=>by simp [DataW.trod] at h⟩
 | succ m ih =>
  refine ⟨fun cs x h=>?_,fun v x h=>?_⟩
  ·obtain ⟨xs,n,hn,hx,hcl,hxl,hf⟩:=DataW.trod_struct Tryz.underlying24 h
   obtain rfl:m=n:=by omega
   rw [c24] at hcl
   have hxl:xs.length=4:=hxl
   match cs,hcl with
   | [a0,a1,a2,a3],_ =>
   match xs,hxl with
   | [y0,y1,y2,y3],_ =>
   have f0:DataW.trod enc Tryz.prog W base sp held m 3 (([a0,a1,a2,a3].drop 0).take (Tryz.prog.cellsOf 3))=some y0:=hf 0 _ rfl
   have f1:DataW.trod enc Tryz.prog W base sp held m 2 (([a0,a1,a2,a3].drop 1).take (Tryz.prog.cellsOf 2))=some y1:=hf 1 _ rfl
   have f2:DataW.trod enc Tryz.prog W base sp held m 9 (([a0,a1,a2,a3].drop 2).take (Tryz.prog.cellsOf 9))=some y2:=hf 2 _ rfl
   have f3:DataW.trod enc Tryz.prog W base sp held m 22 (([a0,a1,a2,a3].drop 3).take (Tryz.prog.cellsOf 22))=some y3:=hf 3 _ rfl
   rw [c3] at f0
   rw [c2] at f1
   rw [c9] at f2
   rw [c22] at f3
   obtain ⟨k,rfl,hk,b0⟩:=KHA Tryz.underlying3 f0
   obtain ⟨nn,rfl,hnn,b1⟩:=KHA Tryz.underlying2 f1
   obtain ⟨s,rfl,hs,b2⟩:=KJu Tryz.underlying9 f2
   obtain ⟨sl,l,rfl,hl,b3⟩:=ih.2 _ _ f3
   have hsb:bs s.data.toList=s:=by simp [bs]
   refine ⟨.mk k nn s.data.toList l,VRep.eq.2 ⟨sl,by unfold ZT; rw [hsb],hk,hnn,?_,hl⟩,?_⟩
   ·have:s.data.toList.length=s.size:=Array.length_toList
    rw [this]; unfold maxLen at hs; omega
   ·rw [wt,hx]
    simp only [List.map_cons,List.map_nil,Rows.uptoBulk,Rows.uptoBulkAll]
    omega
  ·rcases DataW.trod_slice Tryz.underlying22 h with ⟨h0,hx⟩ | ⟨a,len,cap,elems,rest,n,hn,h1,hx,_,hle,hm,hlen,hel,_,_⟩
   ·cases h0
    refine ⟨Sl.nil,[],rfl,VsRep.nil _,?_⟩
    rw [hx]; simp [wt.wts,Rows.uptoBulk]
   ·cases h1
    obtain rfl:m=n:=by omega
    rw [c24] at hel
    have key:∀ i,i < len→∃ (v:Vl) (cs:Array Value),cs.size=4∧(∀ j,j < 4→KO W.heap (a.add (i * 4+j))=cs[j]?)∧VRep W.heap v cs∧∀ (h:i < elems.length),wt v≤Rows.uptoBulk (elems[i]).1:=fun i hi=>by
     have h2:=hel i hi
     rw [List.getElem?_eq_getElem (by omega),Option.bind_eq_some_iff] at h2
     obtain ⟨cs,hcs,ht⟩:=h2
     obtain ⟨_,hl1,hc⟩:=World.cells?_some hcs
     obtain ⟨v,hv,hw⟩:=ih.1 _ _ ht
     refine ⟨v,cs.toArray,by simpa using hl1,fun j hj=>?_,hv,fun _=>hw⟩
     have:=hc j hj
     rw [Addr.add_add] at this
     rw [KDw] at this
     rw [this]; simp
    let l:=List.ofFn (fun i:Fin len=>Classical.choose (key i i.2))
    have hL:l.length=len:=by simp [l]
    have hget:∀ i (h:i < l.length),∃ cs:Array Value,cs.size=4∧(∀ j,j < 4→KO W.heap (a.add (i * 4+j))=cs[j]?)∧VRep W.heap l[i] cs∧∀ (h:i < elems.length),wt l[i]≤Rows.uptoBulk (elems[i]).1:=fun i h=>by
     have:=Classical.choose_spec (key i (by omega))
     simpa [l] using this
    have hmx:len≤9223372036854775807:=by unfold maxLen at hm; omega
    refine ⟨⟨some a,len,cap⟩,l,rfl,⟨hL.symm,hle,hmx,VsAt.of (fun j hj=>?_)⟩,?_⟩
    ·obtain ⟨cs,h1,h2,h3,_⟩:=hget j hj
     exact ⟨a,cs,rfl,h1,fun i hi=>by rw [Nat.zero_add]; exact h2 i hi,h3⟩
    ·rw [hx]
     have:=KJt l (elems.map (·.1)) (by rw [hL,List.length_map,hlen]) (fun i h1 h2=>by
      obtain ⟨_,_,_,_,h4⟩:=hget i h1
      rw [List.getElem_map]
      exact h4 (by simpa using h2))
     simp only [Rows.uptoBulk]
     omega
end
end Go.Proofs.YthelieedlghccaaGreatDoor
namespace Gx
open Go
set_option linter.unusedVariables false
set_option linter.unusedSimpArgs false
theorem KGH (k n:Int) (s:ByteArray):∀ v ∈ (#[.int .i64 k,.int .i64 n,.string s,.slice none 0 0]:Array Value).toList,one v=true:=fun v hv=>by
 simp at hv; rcases hv with rfl | rfl | rfl | rfl <;> rfl
theorem KFB {s:List UInt8} {h:Heap} {Q:Array Value→Heap→Prop} (hs:s.length≤1048576) (H:∀ h' c,Ext h h'→(∀ S h2,ZK S h2 (.mk 2 0 s []) c)→Q c h'):(JA (bs s)).wp h Q:=by
 unfold JA
 refine ZU (fun h1 e1 z1 g1=>Z0 rfl (stR (vs:=(#[.int .i64 2,.int .i64 0,.string (bs s),.slice none 0 0]:Array Value)) (off:=0) g1 (Nat.le_refl 4) (KGH _ _ _) (fun h2 u2 g2=>?_)))
 rw [K0 (by rfl)] at g2
 refine ldR g2 rfl (KC (H _ _ (e1.upd u2 (Nat.le_refl _)) (fun S h3=>ZK.eq.2 ⟨Sl.nil,rfl,⟨by decide,by decide⟩,⟨by decide,by decide⟩,by omega,rfl,Nat.le_refl _,by decide,by rw [Wr]; trivial⟩)))
theorem KFC {n:Int} {h:Heap} {Q:Array Value→Heap→Prop} (hn:I64 n) (H:∀ h' c,Ext h h'→(∀ S h2,ZK S h2 (.mk 1 n [] []) c)→Q c h'):(Z9 n).wp h Q:=by
 unfold Z9
 refine ZU (fun h1 e1 z1 g1=>Z0 rfl (stR (vs:=(#[.int .i64 1,.int .i64 n,.string ByteArray.empty,.slice none 0 0]:Array Value)) (off:=0) g1 (Nat.le_refl 4) (KGH _ _ _) (fun h2 u2 g2=>?_)))
 rw [K0 (by rfl)] at g2
 refine ldR g2 rfl (KC (H _ _ (e1.upd u2 (Nat.le_refl _)) (fun S h3=>ZK.eq.2 ⟨Sl.nil,rfl,⟨by decide,by decide⟩,hn,by decide,rfl,Nat.le_refl _,by decide,by rw [Wr]; trivial⟩)))
theorem KEP {β:Type} {h:Heap} {Q:β→Heap→Prop} {z a b:Array Value} {f:Array Value→M β} (ha:a.size=4) (hb:b.size=4) (H:(f (a++b)).wp h Q):(NY 4 2 z [(0,.agg a),(1,.agg b)]>>=f).wp h Q:=by
 refine ⟨a++b,?_,H⟩
 have hz:(zRow z (2 * 4)).size=8:=by simp [zRow]
 show Instr.fill (fun i=>some (i * 4,4)) (zRow z (2 * 4)) [(0,Value.agg a),(1,Value.agg b)]=some (a++b)
 rw [zg (off:=0) (size:=4) (v:=Value.agg a) (by simp) ha (by omega),zg (off:=4) (size:=4) (v:=Value.agg b) (by simp) hb (by rw [GE]; omega)]
 show some _=some _
 rw [show (Value.agg a).cells=a from rfl,show (Value.agg b).cells=b from rfl]
 congr 1
 apply Array.ext'
 rw [Vi _ _ _ (by rw [GE,Array.length_toList]; omega),Vi _ _ _ (by rw [Array.length_toList]; omega)]
 have h1:a.toList.length=4:=by rw [Array.length_toList]; exact ha
 have h2:b.toList.length=4:=by rw [Array.length_toList]; exact hb
 have h3:(zRow z (2 * 4)).toList.length=8:=by rw [Array.length_toList]; exact hz
 rw [List.take_zero,List.nil_append,Array.toList_append,List.take_append_of_le_length (by omega),List.take_of_length_le (by omega),h1,h2]
 rw [List.drop_eq_nil_iff.2 (by rw [List.length_append,List.length_drop]; omega),List.append_nil]
theorem KHB {S:Nat→Prop} {h:Heap} {b:Nat} {va vb:Vl} {a c:Array Value} {t:TypeId} (hb:h[b]?=some (.cells (a++c) t (0,0))) (ha:ZK S h va a) (hc:ZK S h vb c):VsRepS (fun i=>S i∨i=b) h ⟨some ⟨b,0,none⟩,2,2⟩ [va,vb]:=by
 refine ⟨rfl,Nat.le_refl _,by show (2:Nat)≤9223372036854775807; decide,?_⟩
 rw [Wr,Wr,Wr]
 have h1:=ha.size
 have h2:=hc.size
 refine ⟨⟨_,a,rfl,.inr rfl,h1,fun j hj=>?_,ha.mono (fun i hi=>.inl hi)⟩,⟨_,c,rfl,.inr rfl,h2,fun j hj=>?_,hc.mono (fun i hi=>.inl hi)⟩,trivial⟩
 ·rw [Kg,Nat.zero_add,KU hb,Array.getElem?_append_left (by omega)]
  congr 1; omega
 ·rw [Kg,Nat.zero_add,KU hb,Array.getElem?_append_right (by omega)]
  congr 1; omega
end Gx
namespace Gx
open Go
set_option linter.unusedVariables false
set_option linter.unusedSimpArgs false
structure Tri (ab bc ac:Int):Prop where
 tr:ab < 0→bc < 0→ac < 0
 z1:ab=0→ac=bc
 z2:bc=0→ac=ab
theorem Tri.cOr {x y z x' y' z':Int} (h:Tri x y z) (h':x=0→y=0→Tri x' y' z'):Tri (cOr x x') (cOr y y') (cOr z z'):=by
 unfold Gx.cOr
 obtain ⟨t,a,b⟩:=h
 by_cases hx:x=0
 ·have hz:=a hx
  by_cases hy:y=0
  ·have hz0:z=0:=by omega
   rw [if_pos hx,if_pos hy,if_pos hz0]
   exact h' hx hy
  ·have hz0:¬ z=0:=by omega
   rw [if_pos hx,if_neg hy,if_neg hz0]
   refine ⟨fun h1 h2=>by omega,fun h1=>hz,fun h1=>by omega⟩
 ·by_cases hy:y=0
  ·have hz:=b hy
   have hz0:¬ z=0:=by omega
   rw [if_neg hx,if_pos hy,if_neg hz0]
   exact ⟨fun h1 h2=>by omega,fun h1=>by omega,fun h1=>hz⟩
  ·rw [if_neg hx,if_neg hy]
   refine ⟨fun h1 h2=>?_,fun h1=>by omega,fun h1=>by omega⟩
   have:=t h1 h2
   rw [if_neg (by omega)]; exact this
theorem KHC (a b c:Int):Tri (cmpI a b) (cmpI b c) (cmpI a c):=by
 unfold cmpI
 constructor <;> (repeat' split) <;> intros <;> omega
theorem KFD (a b:Int):cmpI b a=- cmpI a b:=by
 unfold cmpI
 (repeat' split) <;> omega
theorem KHD (a b:Int):cmpI a b=0↔a=b:=by
 unfold cmpI
 (repeat' split) <;> omega
theorem KEQ {x x' y y':Int} (h:x'=-x) (h':x=0→y'=-y):cOr x' y'=- cOr x y:=by
 unfold cOr
 by_cases hx:x=0
 ·rw [if_pos hx,if_pos (by omega)]; exact h' hx
 ·rw [if_neg hx,if_neg (by omega)]; exact h
theorem KER {x y:Int}:cOr x y=0↔x=0∧y=0:=by
 unfold cOr
 by_cases hx:x=0
 ·rw [if_pos hx]; simp [hx]
 ·rw [if_neg hx]; simp [hx]
def cmpL {α:Type} (f:α→α→Int):List α→List α→Int
 | [],[]=>0
 | [],_::_=>-1
 | _::_,[]=>1
 | a::l,b::l'=>cOr (f a b) (cmpL f l l')
theorem KFE {α:Type} {f:α→α→Int}:∀ {l l':List α},(∀ a ∈ l,∀ b ∈ l',f b a=- f a b)→cmpL f l' l=- cmpL f l l'
 | [],[],_=>rfl
 | [],_::_,_=>rfl
 | _::_,[],_=>rfl
 | a::l,b::l',h=>KEQ (h a (by simp) b (by simp)) (fun _=>KFE (fun x hx y hy=>h x (List.mem_cons_of_mem _ hx) y (List.mem_cons_of_mem _ hy)))
theorem KI3 {α:Type} {f:α→α→Int}:∀ {l l':List α},(∀ a ∈ l,∀ b ∈ l',f a b=0↔a=b)→(cmpL f l l'=0↔l=l')
 | [],[],_=>by simp [cmpL]
 | [],_::_,_=>by simp [cmpL]
 | _::_,[],_=>by simp [cmpL]
 | a::l,b::l',h=>by
  rw [cmpL,KER,h a (by simp) b (by simp),KI3 (fun x hx y hy=>h x (List.mem_cons_of_mem _ hx) y (List.mem_cons_of_mem _ hy))]
  simp
theorem KHE {α:Type} {f:α→α→Int}:∀ {l l' l'':List α},(∀ a ∈ l,∀ b ∈ l',∀ c ∈ l'',Tri (f a b) (f b c) (f a c))→Tri (cmpL f l l') (cmpL f l' l'') (cmpL f l l'')
 | [],[],[],_=>by simp only [cmpL]; constructor <;> intros <;> omega
 | [],[],_::_,_=>by simp only [cmpL]; constructor <;> intros <;> omega
 | [],_::_,[],_=>by simp only [cmpL]; constructor <;> intros <;> omega
 | [],b::l',c::l'',_=>by
  show Tri (-1) (cmpL f (b::l') (c::l'')) (-1)
  constructor <;> intros <;> omega
 | _::_,[],[],_=>by simp only [cmpL]; constructor <;> intros <;> omega
 | _::_,[],_::_,_=>by simp only [cmpL]; constructor <;> intros <;> omega
 | a::l,b::l',[],_=>by
  show Tri (cmpL f (a::l) (b::l')) 1 1
  constructor <;> intros <;> omega
 | a::l,b::l',c::l'',h=>Tri.cOr (h a (by simp) b (by simp) c (by simp)) (fun _ _=>KHE (fun x hx y hy z hz=>h x (List.mem_cons_of_mem _ hx) y (List.mem_cons_of_mem _ hy) z (List.mem_cons_of_mem _ hz)))
def cmpU (a b:UInt8):Int:=cmpI (a.toNat:Int) (b.toNat:Int)
theorem KOW:∀ s t:List UInt8,Lib.compareBytes s t=cmpL cmpU s t
 | [],[]=>rfl
 | [],_::_=>rfl
 | _::_,[]=>rfl
 | a::s,b::t=>by
  rw [qd,cmpL,cOr,KOW s t]
  have:cmpU a b=0↔a=b:=by
   unfold cmpU
   rw [KHD,← UInt8.toNat_inj]; omega
  by_cases h:a=b
  ·rw [if_pos h,if_pos (this.2 h)]
  ·rw [if_neg h,if_neg (fun h'=>h (this.1 h'))]; rfl
theorem KPQ (a b:UInt8):cmpU a b=0↔a=b:=by
 unfold cmpU
 rw [KHD,← UInt8.toNat_inj]; omega
theorem KL7:∀ l l':List Vl,NR l l'=cmpL cmpV l l'
 | [],[]=>by simp [NR,cmpL]
 | [],_::_=>by simp [NR,cmpL]
 | _::_,[]=>by simp [NR,cmpL]
 | a::l,b::l'=>by rw [NR,cmpL,KL7 l l']
theorem KB1 (k n k' n':Int) (s s':List UInt8) (l l':List Vl):cmpV (.mk k n s l) (.mk k' n' s' l')=cOr (cmpI k k') (cOr (cmpI n n') (cOr (cmpL cmpU s s') (cmpL cmpV l l'))):=by
 rw [cmpV,KOW,KL7]
theorem KL8 {k n:Int} {s:List UInt8} {l:List Vl} {m:Nat} {v:Vl} (hm:sizeOf (Vl.mk k n s l) < m+1) (hv:v ∈ l):sizeOf v < m:=by
 have:=List.sizeOf_lt_of_mem hv
 simp only [Vl.mk.sizeOf_spec] at hm
 omega
theorem KKd:∀ (m:Nat) (a b:Vl),sizeOf a < m→cmpV b a=- cmpV a b:=by
 intro m
 induction m with
 | zero=>intro a b h; omega
 | succ m ih =>
  rintro ⟨k,n,s,l⟩ ⟨k',n',s',l'⟩ hm
  rw [KB1,KB1]
  exact KEQ (KFD _ _) (fun _=>KEQ (KFD _ _) (fun _=>KEQ (KFE (fun a _ b _=>KFD _ _)) (fun _=>KFE (fun a ha b hb=>ih a b (KL8 hm ha)))))
theorem qe (a b:Vl):cmpV b a=- cmpV a b:=KKd _ a b (Nat.lt_succ_self _)
theorem KNi:∀ (m:Nat) (a b:Vl),sizeOf a < m→(cmpV a b=0↔a=b):=by
 intro m
 induction m with
 | zero=>intro a b h; omega
 | succ m ih =>
  rintro ⟨k,n,s,l⟩ ⟨k',n',s',l'⟩ hm
  rw [KB1,KER,KER,KER,KHD,KHD,KI3 (fun a _ b _=>KPQ a b),KI3 (fun a ha b hb=>ih a b (KL8 hm ha))]
  simp
theorem KFF (a b:Vl):cmpV a b=0↔a=b:=KNi _ a b (Nat.lt_succ_self _)
theorem KL9:∀ (m:Nat) (a b c:Vl),sizeOf a < m→Tri (cmpV a b) (cmpV b c) (cmpV a c):=by
 intro m
 induction m with
 | zero=>intro a b c h; omega
 | succ m ih =>
  rintro ⟨k,n,s,l⟩ ⟨k',n',s',l'⟩ ⟨k'',n'',s'',l''⟩ hm
  rw [KB1,KB1,KB1]
  exact Tri.cOr (KHC _ _ _) (fun _ _=>Tri.cOr (KHC _ _ _) (fun _ _=>Tri.cOr (KHE (fun a _ b _ c _=>KHC _ _ _)) (fun _ _=>KHE (fun a ha b hb c hc=>ih a b c (KL8 hm ha)))))
theorem KJv (a b c:Vl):Tri (cmpV a b) (cmpV b c) (cmpV a c):=KL9 _ a b c (Nat.lt_succ_self _)
theorem KC7 (a:Vl):cmpV a a=0:=(KFF a a).2 rfl
theorem KGI {a b c:Vl} (h1:cmpV a b < 0) (h2:cmpV b c < 0):cmpV a c < 0:=(KJv a b c).tr h1 h2
end Gx
namespace Gx
open Go
set_option linter.unusedVariables false
set_option linter.unusedSimpArgs false
def KH8 (x:Sl) (i:Nat):Sl:=⟨x.base.map (fun a=>a.add (2 * i * 4)),min 2 (x.len - 2 * i),min 2 (x.len - 2 * i)⟩
def KFG (x:Sl):List Sl:=(List.range ((x.len+1) / 2)).map (KH8 x)
theorem Gi (x:Sl):(KFG x).length=(x.len+1) / 2:=by simp [KFG]
theorem KGJ (x:Sl) {i:Nat} (hi:i < (KFG x).length):(KFG x)[i]=KH8 x i:=by simp [KFG]
def KC8 (l:List Vl) (i:Nat):List Vl:=(l.drop (2 * i)).take 2
theorem KMA {S:Nat→Prop} {h:Heap} {x:Sl} {l:List Vl} (H:VsRepS S h x l) {i:Nat} (hi:2 * i < l.length):VsRepS S h (KH8 x i) (KC8 l i):=by
 have hl:=H.len
 have hlen:(KC8 l i).length=min 2 (l.length - 2 * i):=by simp [KC8]
 refine ⟨by rw [hlen]; show min 2 (x.len - 2 * i)=_; rw [hl],Nat.le_refl _,by show min 2 (x.len - 2 * i)≤_; omega,Wr.of (fun j hj=>?_)⟩
 rw [hlen] at hj
 obtain ⟨a,cs,ha,hS,hs,hc,hv⟩:=H.get (j:=2 * i+j) (by omega)
 refine ⟨a.add (2 * i * 4),cs,by show x.base.map _=_; rw [ha]; rfl,by rw [XO]; exact hS,hs,fun m hm=>?_,?_⟩
 ·rw [Addr.add_add,← hc m hm]
  congr 2; omega
 ·have:(KC8 l i)[j]'(by rw [hlen]; omega)=l[2 * i+j]'(by omega):=by simp [KC8]
  rw [this]; exact hv
theorem KQn {β:Type} {h:Heap} {Q:β→Heap→Prop} {s:Sl} {lo hi mx:Int} {sz:Nat} {f:Sl→M β} (h0:0≤lo) (h1:lo≤hi) (h2:hi≤mx) (h3:mx≤s.cap) (H:(f ⟨if mx.toNat=lo.toNat then s.base else s.base.map (·.add (lo.toNat * sz)),hi.toNat - lo.toNat,mx.toNat - lo.toNat⟩).wp h Q):(slL3 s lo hi mx sz>>=f).wp h Q:=⟨_,⟨h0,h1,h2,h3,rfl⟩,H⟩
theorem KMB {x:Sl} {a b:Addr} (hlc:x.len≤x.cap) (hb:x.len≤1099511627776) {J:Nat→Heap→Prop} (hJ:∀ i h1,J i h1→KO h1 a=some x.v∧KO h1 b=some (.int .i64 2)) :
  SeqW Go.Proofs.Tryz.prog (fun x:Sl=>[x.v]) (KFG x) (.func (.func Zp) #[] #[.pointer (some a),.pointer (some b)]) J:=by
 intro l Inv Stop h hInv h0 hround
 refine N1 WC (WS (yV l) a b) ?_
 unfold UQ
 rw [Gi]
 refine M.loop_inv (fun (t:Int) h'=>∃ i:Nat,t=((2 * i:Nat):Int)∧i≤(x.len+1) / 2∧Inv i h') (fun t _=>((x.len:Int)+2 - t).toNat) ?_ ⟨0,rfl,Nat.zero_le _,h0⟩
 rintro t h' ⟨i,rfl,hi,hI⟩ self hself
 unfold Zt
 obtain ⟨ca,cb⟩:=hJ i h' (hInv i h' hI)
 refine Jw ca (KP (fun hc=>?_) (fun hc=>?_))
 ·have hlt:2 * i < x.len:=by have:=of_decide_eq_true hc; omega
  refine Zm cb (Jw ca (KKP (by omega) (by omega) (by omega) (Jw ca ?_)))
  have hmin:iMin 2 (((x.len:Int).toNat - ((2 * i:Nat):Int).toNat:Nat):Int)=((min 2 (x.len - 2 * i):Nat):Int):=by
   unfold iMin
   (repeat' split) <;> omega
  dsimp only
  rw [hmin,w64 (by omega) (by omega)]
  refine KQn (by omega) (by omega) (by omega) (by omega) ?_
  have hp:(⟨if (((2 * i:Nat):Int)+((min 2 (x.len - 2 * i):Nat):Int)).toNat=((2 * i:Nat):Int).toNat then x.base else x.base.map (fun a=>a.add (((2 * i:Nat):Int).toNat * 4)),(((2 * i:Nat):Int)+((min 2 (x.len - 2 * i):Nat):Int)).toNat - ((2 * i:Nat):Int).toNat,(((2 * i:Nat):Int)+((min 2 (x.len - 2 * i):Nat):Int)).toNat - ((2 * i:Nat):Int).toNat⟩:Sl)=KH8 x i:=by
   have e1:(((2 * i:Nat):Int)+((min 2 (x.len - 2 * i):Nat):Int)).toNat=2 * i+min 2 (x.len - 2 * i):=by omega
   have e2:((2 * i:Nat):Int).toNat=2 * i:=rfl
   rw [e1,e2,if_neg (by omega)]
   unfold KH8
   congr 1 <;> omega
  rw [hp]
  have hr:=hround i (by rw [Gi]; omega) h' hI
  rw [KGJ x (by rw [Gi]; omega)] at hr
  refine KE ((V7 _ _ _ _).mono ?_ hr)
  rintro b1 h2 hb1
  cases b1 with
  | true =>
   have hb1:Inv (i+1) h2:=hb1
   obtain ⟨ca2,cb2⟩:=hJ _ _ (hInv _ _ hb1)
   refine iteF rfl (Zm cb2 ?_)
   rw [w64 (by omega) (by omega)]
   exact hself _ _ ⟨i+1,by omega,by omega,hb1⟩ (by omega)
  | false=>exact iteT rfl (KC (.inr hb1))
 ·have hge:(x.len+1) / 2=i:=by have:=of_decide_eq_false hc; omega
  rw [hge]
  exact KC (.inl hI)
end Gx
namespace Gx
open Go
set_option linter.unusedVariables false
set_option linter.unusedSimpArgs false
def cpt:List Vl→List Vl
 | []=>[]
 | [a]=>[a]
 | a::b::r=>if cmpV b a=0 then cpt (b::r) else a::cpt (b::r)
theorem KHF:∀ (l:List Vl) (a b:Vl),cpt (l++[a,b])=if cmpV b a=0 then cpt (l++[a]) else cpt (l++[a])++[b]
 | [],a,b=>by
  show cpt [a,b]=_
  unfold cpt
  by_cases h:cmpV b a=0
  ·have:=(KFF b a).1 h
   subst this
   rw [if_pos h,if_pos h]; rfl
  ·rw [if_neg h,if_neg h]; rfl
 | [x],a,b=>by
  have ih:=KHF [] a b
  simp only [List.nil_append] at ih
  show cpt (x::a::[b])=if cmpV b a=0 then cpt [x,a] else cpt [x,a]++[b]
  rw [cpt,ih]
  rw [show cpt [x,a]=if cmpV a x=0 then cpt [a] else x::cpt [a] from rfl]
  by_cases h1:cmpV a x=0 <;> by_cases h2:cmpV b a=0 <;> simp [h1,h2]
 | x::y::l,a,b=>by
  have ih:=KHF (y::l) a b
  simp only [List.cons_append] at ih ⊢
  rw [cpt,ih]
  rw [show cpt (x::y::(l++[a]))=if cmpV y x=0 then cpt (y::(l++[a])) else x::cpt (y::(l++[a])) from rfl]
  by_cases h1:cmpV y x=0 <;> by_cases h2:cmpV b a=0 <;> simp [h1,h2]
theorem KJw {l:List Vl} {i:Nat} (h1:1≤i) (hi:i < l.length):cpt (l.take (i+1))=if cmpV l[i] (l[i - 1]'(by omega))=0 then cpt (l.take i) else cpt (l.take i)++[l[i]]:=by
 have e1:l.take (i+1)=l.take (i - 1)++[l[i - 1]'(by omega),l[i]]:=by
  rw [List.take_succ_eq_append_getElem hi]
  obtain ⟨j,rfl⟩:∃ j,i=j+1:=⟨i - 1,by omega⟩
  rw [List.take_succ_eq_append_getElem (show j < l.length by omega)]
  simp only [List.append_assoc,List.cons_append,List.nil_append,Nat.add_sub_cancel]
 have e2:l.take i=l.take (i - 1)++[l[i - 1]'(by omega)]:=by
  obtain ⟨j,rfl⟩:∃ j,i=j+1:=⟨i - 1,by omega⟩
  rw [List.take_succ_eq_append_getElem (show j < l.length by omega)]
  simp
 rw [e1,KHF,← e2]
theorem KMC:∀ l:List Vl,(cpt l).length≤l.length
 | []=>by simp [cpt]
 | [a]=>by simp [cpt]
 | a::b::r=>by
  have:=KMC (b::r)
  rw [cpt]
  split <;> simp at this ⊢ <;> omega
theorem KMD {β:Type} {lo:Nat} {h:Heap} {Q:β→Heap→Prop} {r s:Sl} {css:List (Array Value)} {i k:Nat} {t:Int} {f:Addr→M β} (G:Gw lo h r 4 (Jq css)) (hw:W4 css) (hs:s.base=r.base.map (fun a=>a.add (k * 4))) (hi:k+i < css.length) (ht:t=(i:Int)) (hl:i < s.len)
  (H:∀ b,r.base=some ⟨b,0,none⟩→(∀ j,j < 4→KO h ((⟨b,(k+i) * 4,none⟩:Addr).add j)=css[k+i][j]?)→(f ⟨b,(k+i) * 4,none⟩).wp h Q):(ixL s t 4>>=f).wp h Q:=by
 subst ht
 obtain ⟨b,hb,hon,hc⟩:=G.row4 hw hi
 refine Xi (b:=⟨b,k * 4,none⟩) (by omega) (by omega) (by rw [hs,hb]; show some ((⟨b,0,none⟩:Addr).add (k * 4))=_; rw [Kg,Nat.zero_add]) ?_
 rw [Kg,show k * 4+(i:Int).toNat * 4=(k+i) * 4 by omega]
 refine H b hb (fun j hj=>?_)
 have:=hc j hj
 rw [Kg,Nat.zero_add] at this
 rw [Kg]
 exact this
theorem Gw.base0 {lo:Nat} {h:Heap} {r:Sl} {sz:Nat} {vs:List Value} (G:Gw lo h r sz vs):r.base.map (fun a=>a.add (0 * 4))=r.base:=by
 rcases G with ⟨rfl,_⟩ | ⟨b,ty,cells,R⟩
 ·rfl
 ·rw [R.base]; show some ((⟨b,0,none⟩:Addr).add (0 * 4))=_; rw [Kg]
theorem KH9 {a b:Vl} {h:Heap} {Q:Bool→Heap→Prop} {x y:Array Value} (hx:VRep h a x) (hy:VRep h b y) (H:∀ h',Ext h h'→Q (decide (cmpV a b=0)) h'):(KLX Go.Proofs.Tryz.prog (fun r:Bool=>.bool r) (.func (.func YP) #[] #[]) [.agg x,.agg y]).wp h Q :=
 KO5 KCg (KD5 x y) (KGF hx hy H)
theorem KIA {lo:Nat} {S:Nat→Prop} {h:Heap} {Q:Sl→Heap→Prop} {r:Sl} {css:List (Array Value)} {l:List Vl} (G:VGw lo S h r css l) (hS:∀ b,S b→b < h.size∧¬ Sl.on r b) (hm:l.length≤1099511627776)
  (H:∀ h' r' css',VGw lo S h' r' css' (cpt l)→h.size≤h'.size→(∀ i,i < h.size→¬ Sl.on r i→h'[i]?=h[i]?)→(∀ i,Sl.on r' i→Sl.on r i)→Q r' h') :
  (ZL r (.func (.func YP) #[] #[])).wp h Q:=by
 unfold ZL
 have hrl:=G.gw.len4 G.w4
 have hgl:=G.len
 refine KP (fun hc=>?_) (fun hc=>?_)
 ·have hlt:l.length < 2:=by have:=of_decide_eq_true hc; omega
  have hcpt:cpt l=l:=by
   match l,hlt with
   | [],_=>rfl
   | [a],_=>rfl
   | _::_::_,h=>exact absurd h (by simp)
  refine KC (H h r css (by rw [hcpt]; exact G) (Nat.le_refl _) (fun i _ _=>rfl) (fun i h=>h))
 have h2l:2≤l.length:=by have:=of_decide_eq_false hc; omega
 have hcap:=G.gw.cap
 refine M.loop_inv (fun (t:Int) h'=>∃ k:Nat,t=(k:Int)∧1≤k∧k≤l.length∧Ext h h'∧cpt (l.take k)=l.take k) (fun t _=>((l.length:Int) - t).toNat) ?_ ⟨1,rfl,Nat.le_refl _,by omega,Ext.refl _,by
  obtain ⟨a,b,hl⟩:∃ a b,l=a::b:=by cases l with | nil=>simp at h2l | cons a b=>exact ⟨a,b,rfl⟩
  rw [hl]; rfl⟩
 rintro t h1 ⟨k,rfl,hk1,hk,E,hcp⟩ self hself
 unfold Zc
 have gr:∀ {hh:Heap},Ext h hh→VGw lo S hh r css l:=fun e=>G.same (fun b hb=>e.same b (G.gw.lt hb).1) (fun b hb=>e.same b (hS b hb).1)
 refine KP (fun hc=>?_) (fun hc=>?_)
 ·have hlt:k < l.length:=by have:=of_decide_eq_true hc; omega
  have G1:=gr E
  have hkk:IntKind.wrap .i64 ((k:Int) - 1)=((k - 1:Nat):Int):=by rw [w64 (by omega) (by omega)]; omega
  rw [hkk]
  refine KMD (s:=r) (k:=0) (i:=k) G1.gw G1.w4 G1.gw.base0.symm (by omega) rfl (by omega) (fun b hb hc0=>?_)
  refine KMD (s:=r) (k:=0) (i:=k - 1) G1.gw G1.w4 G1.gw.base0.symm (by omega) rfl (by omega) (fun b' hb' hc1=>?_)
  rw [hb] at hb'; cases hb'
  have r0:=G1.rep (0+k) (by omega) (by omega)
  have r1:=G1.rep (0+(k - 1)) (by omega) (by omega)
  refine Uc r0.size hc0 (Uc r1.size hc1 (KE (KH9 r0.to r1.to (fun h2 e2=>?_))))
  have E2:=E.trans e2
  have ecmp:cmpV (l[0+k]'(by omega)) (l[0+(k - 1)]'(by omega))=cmpV l[k] (l[k - 1]'(by omega)):=by
   congr 1 <;> congr 1 <;> omega
  rw [ecmp]
  have htk:=KJw hk1 hlt
  refine KP (fun hd=>?_) (fun hd=>?_)
  ·
   have hd:cmpV l[k] (l[k - 1]'(by omega))=0:=of_decide_eq_true hd
   rw [if_pos hd,hcp] at htk
   refine KKP (by omega) (by omega) (by omega) ?_
   rw [show ((k:Int).toNat)=k from rfl,if_neg (show ¬ r.cap=k by omega)]
   refine M.loop_inv (fun (t:Int × Int) hh=>∃ (q j:Nat) (cs2:List (Array Value)),t=((q:Int),(j:Int))∧1≤j∧k+j≤l.length∧q+1≤k+j∧(cpt (l.take (k+j))).length=q∧Gw lo hh r 4 (Jq cs2)∧W4 cs2∧cs2.length=l.length∧(∀ i (i1:i < (cpt (l.take (k+j))).length) (i2:i < cs2.length),ZK S hh (cpt (l.take (k+j)))[i] cs2[i])∧(∀ i (i1:i < l.length) (i2:i < cs2.length),k+j≤i+1→ZK S hh l[i] cs2[i])∧h.size≤hh.size∧(∀ i,i < h.size→¬ Sl.on r i→hh[i]?=h[i]?)) (fun t _=>((l.length:Int) - t.2).toNat) ?_
    ⟨k,1,css,rfl,Nat.le_refl _,hlt,Nat.le_refl _,by rw [htk]; simp; omega,(gr E2).gw,G.w4,hgl,fun i i1 i2=>by
     have e3:(cpt (l.take (k+1)))[i]'i1=l[i]'(by rw [htk] at i1; simp at i1; omega):=by
      simp only [htk,List.getElem_take]
     rw [e3]
     exact (gr E2).rep i _ i2,fun i i1 i2 _=>(gr E2).rep i i1 i2,E2.size,fun i hi _=>E2.same i hi⟩
   rintro t hh ⟨q,j,cs2,rfl,hj1,hkj,hqk,hql,Gq,w4q,hcl,hnew,hold,hsz,hsame⟩ self2 hself2
   unfold Zb
   dsimp only
   have hlen2:((r.len:Int).toNat - k:Nat)=r.len - k:=rfl
   have hsb:r.base.map (fun a=>a.add (k * 4))=r.base.map (fun a=>a.add (k * 4)):=rfl
   refine KP (fun hc=>?_) (fun hc=>?_)
   ·have hlt2:k+j < l.length:=by have:=of_decide_eq_true hc; omega
    have hjj:IntKind.wrap .i64 ((j:Int) - 1)=((j - 1:Nat):Int):=by rw [w64 (by omega) (by omega)]; omega
    rw [hjj]
    refine KMD (k:=k) (i:=j) Gq w4q hsb (by omega) rfl (by show j < (r.len:Int).toNat - k; omega) (fun b2 hb2 hc0=>?_)
    refine KMD (k:=k) (i:=j - 1) Gq w4q hsb (by omega) rfl (by show j - 1 < (r.len:Int).toNat - k; omega) (fun b3 hb3 hc1=>?_)
    rw [hb2] at hb3; cases hb3
    have s0:=hold (k+j) hlt2 (by omega) (by omega)
    have s1:=hold (k+(j - 1)) (by omega) (by omega) (by omega)
    refine Uc s0.size hc0 (Uc s1.size hc1 (KE (KH9 s0.to s1.to (fun h3 e3=>?_))))
    have ecmp2:cmpV (l[k+j]'hlt2) (l[k+(j - 1)]'(by omega))=cmpV (l[k+j]'hlt2) (l[k+j - 1]'(by omega)):=by
     congr 1; congr 1; omega
    rw [ecmp2]
    have htk2:=KJw (l:=l) (i:=k+j) (by omega) hlt2
    have hSe:∀ b,S b→h3[b]?=hh[b]?:=fun b hb=>e3.same b (Nat.lt_of_lt_of_le (hS b hb).1 hsz)
    have Gq3:=Gq.ext e3
    have hw1:IntKind.wrap .i64 ((j:Int)+1)=((j+1:Nat):Int):=by rw [w64 (by omega) (by omega)]; simp
    unfold ZC
    rw [hw1]
    refine KP (fun hd2=>?_) (fun hd2=>?_)
    ·have hd2:¬ cmpV (l[k+j]'hlt2) (l[k+j - 1]'(by omega))=0:=by simpa using hd2
     rw [if_neg hd2] at htk2
     refine KMD (k:=k) (i:=j) Gq3 w4q hsb (by omega) rfl (by show j < (r.len:Int).toNat - k; omega) (fun b4 hb4 hc4=>?_)
     have s4:=s0.same hSe
     refine Uc s4.size hc4 ?_
     refine KL1 Gq3 w4q (i:=q) (by omega) rfl s4.size s4.to.one (fun b5 h5 hb5 u5 G5=>?_)
     have hon:Sl.on r b5:=⟨_,hb5,rfl⟩
     have hS5:∀ b,S b→h5[b]?=hh[b]?:=fun b hb=>(u5.ne b (fun e=>(hS b hb).2 (e ▸ hon))).trans (hSe b hb)
     rw [w64 (by omega) (by omega)]
     have hlq:(cpt (l.take (k+(j+1)))).length=q+1:=by rw [show k+(j+1)=k+j+1 by omega,htk2,List.length_append,hql]; rfl
     refine hself2 _ _ ⟨q+1,j+1,cs2.set q cs2[k+j],rfl,by omega,by omega,by omega,hlq,G5,w4q.set s4.size s4.to.one,by rw [List.length_set]; exact hcl,fun i i1 i2=>?_,fun i i1 i2 hi=>?_,by have:=e3.size; have:=u5.size; omega,fun i hi hno=>?_⟩ (by dsimp only; omega)
     ·have eq1:(cpt (l.take (k+(j+1))))[i]'i1=(cpt (l.take (k+j))++[l[k+j]'hlt2])[i]'(by rw [List.length_append,hql]; rw [hlq] at i1; exact i1):=by
       simp only [show k+(j+1)=k+j+1 by omega,htk2]
      rw [eq1]
      by_cases hiq:q=i
      ·subst hiq
       rw [List.getElem_set_self,List.getElem_append_right (by omega)]
       simp only [hql,Nat.sub_self,List.getElem_cons_zero]
       exact s0.same hS5
      ·rw [List.getElem_set_ne hiq,List.getElem_append_left (by rw [hql]; rw [hlq] at i1; omega)]
       exact (hnew i (by rw [hql]; rw [hlq] at i1; omega) (by simpa using i2)).same hS5
     ·rw [List.getElem_set_ne (by omega)]
      exact (hold i i1 (by simpa using i2) (by omega)).same hS5
     ·rw [u5.ne i (fun e=>hno (e ▸ hon)),e3.same i (by omega)]
      exact hsame i hi hno
    ·have hd2:cmpV (l[k+j]'hlt2) (l[k+j - 1]'(by omega))=0:=by simpa using hd2
     rw [if_pos hd2] at htk2
     have hkj1:k+(j+1)=k+j+1:=by omega
     refine hself2 _ _ ⟨q,j+1,cs2,rfl,by omega,by omega,by omega,by rw [hkj1,htk2]; exact hql,Gq3,w4q,hcl,fun i i1 i2=>?_,fun i i1 i2 hi=>(hold i i1 i2 (by omega)).same hSe,by have:=e3.size; omega,fun i hi hno=>(e3.same i (by omega)).trans (hsame i hi hno)⟩ (by dsimp only; omega)
     have eq1:(cpt (l.take (k+(j+1))))[i]'i1=(cpt (l.take (k+j)))[i]'(by rw [hkj1,htk2] at i1; exact i1):=by
      simp only [hkj1,htk2]
     rw [eq1]
     exact (hnew i _ i2).same hSe
   ·have hge:k+j=l.length:=by have:=of_decide_eq_false hc; omega
    rw [hge,List.take_length] at hql hnew
    refine KKP (by omega) (by omega) (by omega) ?_
    rw [show ((q:Int).toNat)=q from rfl,if_neg (show ¬ r.cap=q by omega)]
    rcases Gq with ⟨rfl,hnil⟩ | ⟨b9,ty9,cells9,R9⟩
    ·have:=Vg w4q; rw [hnil] at this; simp at this; omega
    have hcz:=R9.size
    have hon:Sl.on r b9:=⟨_,R9.base,rfl⟩
    rw [R9.base]
    have hsz4:(zRow (#[.int .i64 0,.int .i64 0,.string ByteArray.empty,.slice none 0 0]:Array Value) (((r.len:Int).toNat - q) * 4)).toList.length=(r.len - q) * 4:=by rw [Array.length_toList,zh]; rfl
    refine .inr ⟨⟨b9,q * 4,none⟩,by show some ((⟨b9,0,none⟩:Addr).add (q * 4))=_; rw [Kg,Nat.zero_add],by show (r.len:Int).toNat - q≠0; omega,fun j hj=>?_,fun v hv=>by simp at hv; rcases hv with rfl | rfl | rfl | rfl <;> rfl,?_⟩
    ·have hj:j < ((r.len:Int).toNat - q) * 4:=hj
     rw [Kg,KU R9.blk,KZ R9.blk]
     exact ⟨⟨_,Array.getElem?_eq_getElem (by omega)⟩,rfl⟩
    have hat:=KAL (o:=q * 4) (zRow (#[.int .i64 0,.int .i64 0,.string ByteArray.empty,.slice none 0 0]:Array Value) (((r.len:Int).toNat - q) * 4)).toList hh 0 _ R9.blk
    rw [Nat.add_zero] at hat
    have u9:=Upd.hsetL hh b9 (q * 4) (zRow (#[.int .i64 0,.int .i64 0,.string ByteArray.empty,.slice none 0 0]:Array Value) (((r.len:Int).toNat - q) * 4)).toList 0
    show (slL r 0 (q:Int) 4>>=fun x=>M.pure x).wp (hsetL hh ⟨b9,q * 4,none⟩ (zRow (#[.int .i64 0,.int .i64 0,.string ByteArray.empty,.slice none 0 0]:Array Value) (((r.len:Int).toNat - q) * 4)).toList 0) Q
    generalize hsetL hh ⟨b9,q * 4,none⟩ (zRow (#[.int .i64 0,.int .i64 0,.string ByteArray.empty,.slice none 0 0]:Array Value) (((r.len:Int).toNat - q) * 4)).toList 0=h9 at hat u9 ⊢
    refine KKP (by omega) (by omega) (by omega) (KC ?_)
    rw [show (0:Int).toNat=0 from rfl,if_neg (show ¬ r.cap=0 by omega),R9.base,show (some (⟨b9,0,none⟩:Addr)).map (fun a=>a.add (0 * 4))=some ⟨b9,0,none⟩ by show some ((⟨b9,0,none⟩:Addr).add (0 * 4))=_; rw [Kg]]
    have hw4t:W4 (cs2.take q):=fun c hc=>w4q c (List.mem_of_mem_take hc)
    have hft:=Vg hw4t
    rw [List.length_take] at hft
    have hSe:∀ b,S b→h9[b]?=hh[b]?:=fun b hb=>u9.ne b (fun e=>(hS b hb).2 (e ▸ hon))
    refine H h9 _ (cs2.take q) ⟨.inr ⟨b9,ty9,_,rfl,R9.lo,hat,by rw [GE]; exact R9.size,by show (q:Int).toNat - 0≤_; show q - 0≤r.cap - 0; omega,by rw [hft]; show min q cs2.length * 4=(q - 0) * 4; omega,fun j v hj=>?_⟩,hw4t,by rw [List.length_take,hql]; omega,fun i i1 i2=>?_⟩ (by rw [u9.size]; exact hsz) (fun i hi hno=>(u9.ne i (fun e=>hno (e ▸ hon))).trans (hsame i hi hno)) (fun i ⟨a,ha,hab⟩=>⟨a,by rw [R9.base]; exact ha,hab⟩)
    ·have hlt:=(List.getElem?_eq_some_iff.1 hj).1
     rw [hft] at hlt
     have hpre:(Jq cs2)[j]?=some v:=by
      have e:Jq cs2=Jq (cs2.take q)++Jq (cs2.drop q):=by
       unfold Jq
       rw [← List.flatMap_append,List.take_append_drop]
      rw [e,List.getElem?_append_left (by rw [hft]; exact hlt)]
      exact hj
     have:=R9.get j v hpre
     rw [← Array.getElem?_toList,Vi _ _ _ (by omega),List.append_assoc,List.getElem?_append_left (by rw [List.length_take,Array.length_toList]; omega),List.getElem?_take,if_pos (by omega),Array.getElem?_toList]
     exact this
    ·rw [List.getElem_take]
     exact (hnew i i1 _).same hSe
  ·have hd:¬ cmpV l[k] (l[k - 1]'(by omega))=0:=of_decide_eq_false hd
   rw [if_neg hd,hcp] at htk
   rw [w64 (by omega) (by omega)]
   exact hself _ _ ⟨k+1,by simp,by omega,by omega,E2,by rw [htk,← List.take_succ_eq_append_getElem hlt]⟩ (by omega)
 ·have hge:k=l.length:=by have:=of_decide_eq_false hc; omega
  subst hge
  rw [List.take_length] at hcp
  exact KC (H h1 r css (by rw [hcp]; exact gr E) E.size (fun i hi _=>E.same i hi) (fun i h=>h))
end Gx
namespace Gx
open Go
set_option linter.unusedVariables false
set_option linter.unusedSimpArgs false
def KT (h:Heap) (r:Sl) (e:TypeId):Prop:=∀ g,r.base=some ⟨g,0,none⟩→∃ c z,h[g]?=some (.cells c e z)
theorem KT.same {h h':Heap} {r:Sl} {e:TypeId} (k:KT h r e) (hs:∀ i,Sl.on r i→h'[i]?=h[i]?):KT h' r e:=fun g hg=>by
 obtain ⟨c,z,hh⟩:=k g hg
 exact ⟨c,z,(hs g ⟨_,hg,rfl⟩).trans hh⟩
theorem KIB {lo:Nat} {h:Heap} {Q:Sl→Heap→Prop} {e sz bytes k:Nat} {z:Array Value} {r:Sl} {vs news:List Value} (hz:z.size=sz) (H:Gw lo h r sz vs) (hn:news.length=k * sz) (h1:∀ v ∈ news,one v=true)
  (hb:(r.len+k) * bytes≤140737488355328) (hm:r.len+k≤9223372036854775807) (hlo:lo≤h.size) (hnz:r.cap=0→r=Sl.nil) (hk:KT h r e)
  (hq:∀ h' r',Gw lo h' r' sz (vs++news)→r'.len=r.len+k→h.size≤h'.size→(∀ i,i < h.size→¬ Sl.on r i→h'[i]?=h[i]?)→(∀ i,Sl.on r' i→Sl.on r i∨h.size≤i)→(r'.cap=0→r'=Sl.nil)→KT h' r' e→Q r' h'):apGo e sz bytes z r k news h Q:=by
 unfold apGo
 split
 ·rename_i hc
  have hz':(⟨r.base,r.len+k,r.cap⟩:Sl).cap=0→(⟨r.base,r.len+k,r.cap⟩:Sl)=Sl.nil:=fun h0=>by
   have h0:r.cap=0:=h0
   have:=hnz h0
   subst this
   have:k=0:=by simp [Sl.nil] at hc; exact hc
   subst this
   rfl
  rcases H with ⟨rfl,rfl⟩ | ⟨b,ty,cells,H⟩
  ·have h0:k=0:=by simp [Sl.nil] at hc; exact hc
   subst h0
   have:news=[]:=List.length_eq_zero_iff.1 (by rw [hn]; simp)
   subst this
   refine ⟨fun a ha=>(by cases ha),by simp,?_⟩
   exact hq h _ (.inl ⟨rfl,rfl⟩) rfl (Nat.le_refl _) (fun i _ _=>rfl) (fun i hi=>.inl hi) hz' hk
  ·have hsz:r.len * sz+news.length≤cells.size:=by
    rw [hn,H.size,← Nat.add_mul]
    exact Nat.mul_le_mul_right _ hc
   have hblk:(GD h r.base (r.len * sz) news)[b]?=some (.cells (lay cells (r.len * sz) news) ty (0,0)):=by
    rw [H.base]
    show (hsetL h ((⟨b,0,none⟩:Addr).add (r.len * sz)) news 0)[b]?=_
    rw [Kg,Nat.zero_add,KAL _ _ _ _ H.blk,Nat.add_zero]
   have hne:∀ i,i≠b→(GD h r.base (r.len * sz) news)[i]?=h[i]?:=fun i hi=>by
    rw [H.base]
    show (hsetL h ((⟨b,0,none⟩:Addr).add (r.len * sz)) news 0)[i]?=_
    rw [Kg,KCF hi]
   have hsize:(GD h r.base (r.len * sz) news).size=h.size:=by
    rw [H.base]
    exact Gg _ _ _
   refine ⟨fun a ha j hj=>?_,h1,hq _ _ (.inr ⟨b,ty,_,H.base,H.lo,hblk,?_,hc,?_,fun j v hj=>?_⟩) rfl (by rw [hsize]; exact Nat.le_refl _) (fun i hi hno=>hne i (fun e=>hno ⟨_,H.base,e.symm⟩)) (fun i hi=>.inl hi) hz' (fun g hg=>?_)⟩
   ·rw [H.base] at ha; cases ha
    rw [Kg,Kg,Nat.zero_add,KU H.blk,KZ H.blk]
    exact ⟨⟨_,Array.getElem?_eq_getElem (by omega)⟩,rfl⟩
   ·rw [GE]; exact H.size
   ·rw [List.length_append,H.len,hn,Nat.add_mul]
   ·rw [← Array.getElem?_toList,Vi _ _ _ hsz]
    have hlen:(cells.toList.take (r.len * sz)).length=r.len * sz:=by rw [List.length_take,Array.length_toList]; omega
    by_cases hj1:j < vs.length
    ·rw [List.getElem?_append_left hj1] at hj
     have:=H.get j v hj
     rw [List.append_assoc,List.getElem?_append_left (by rw [hlen,← H.len]; exact hj1),List.getElem?_take,if_pos (by rw [← H.len]; exact hj1),Array.getElem?_toList]
     exact this
    ·rw [List.getElem?_append_right (by omega)] at hj
     have hjn:j - vs.length < news.length:=(List.getElem?_eq_some_iff.1 hj).1
     rw [List.append_assoc,List.getElem?_append_right (by rw [hlen,← H.len]; omega),hlen,List.getElem?_append_left (by rw [← H.len]; exact hjn),← H.len]
     exact hj
   ·have hg:r.base=some ⟨g,0,none⟩:=hg
    rw [H.base] at hg; cases hg
    obtain ⟨c,z,hh⟩:=hk b H.base
    rw [H.blk] at hh; cases hh
    exact ⟨_,_,hblk⟩
 ·rename_i hc
  refine ⟨hb,hm,vs,H.len,H.reads,fun cap hcap=>?_⟩
  have hl:=H.len
  refine hq _ _ (.inr ⟨h.size,e,_,rfl,hlo,Kf,?_,hcap,?_,fun j v hj=>?_⟩) rfl (by simp) (fun i hi _=>Wy hi) (fun i hi=>.inr ?_) (fun h0=>by have h0:cap=0:=h0; omega) (fun g hg=>by cases hg; exact ⟨_,_,Kf⟩)
  ·rw [Array.size_append,Array.size_append,zh,List.size_toArray,List.size_toArray,hl,hn,hz]
   show r.len * sz+k * sz+(cap - (r.len+k)) * sz=cap * sz
   rw [← Nat.add_mul,← Nat.add_mul]
   congr 1
   omega
  ·rw [List.length_append,hl,hn,Nat.add_mul]
  ·have hlt:j < (vs++news).length:=(List.getElem?_eq_some_iff.1 hj).1
   rw [Array.getElem?_append_left (by simpa using hlt)]
   rw [← hj]
   simp
  ·obtain ⟨a,ha,rfl⟩:=hi
   cases ha
   exact Nat.le_refl _
theorem KRo {β:Type} {e:Nat} {s:Sl} {x:ByteArray} {h:Heap} {Q:β→Heap→Prop} {f:Sl→M β} (H:apGo e 1 1 #[.int .u8 0] s x.size (JO x) h (fun r h'=>(f r).wp h' Q)):(apS e s x>>=f).wp h Q:=H
theorem KRp {β:Type} {e sz bytes:Nat} {z:Array Value} {s x:Sl} {news:List Value} {h:Heap} {Q:β→Heap→Prop} {f:Sl→M β} (hn:news.length=x.len * sz) (hr:ze h x.base news) (H:apGo e sz bytes z s x.len news h (fun r h'=>(f r).wp h' Q)):(apL e sz bytes z s x>>=f).wp h Q:=⟨news,hn,hr,H⟩
theorem KFH (l:List UInt8):JO (bs l)=l.map bv:=rfl
structure Bld (lo:Nat) (h:Heap) (b:Nat) (r:Sl) (l:List UInt8):Prop where
 low:lo≤b
 ptr:∃ p,h[b]?=some (.cells #[p,r.v] ZZ (0,0))∧(p=.pointer none∨p=.pointer (some ⟨b,0,none⟩))
 row:Gw lo h r 1 (l.map bv)
 off:¬ Sl.on r b
 nz:r.cap=0→r=Sl.nil
 kt:KT h r KY
theorem Bld.len {lo:Nat} {h:Heap} {b:Nat} {r:Sl} {l:List UInt8} (B:Bld lo h b r l):r.len=l.length:=by
 have:=B.row.len
 simp at this
 exact this.symm
theorem Bld.lt {lo:Nat} {h:Heap} {b:Nat} {r:Sl} {l:List UInt8} (B:Bld lo h b r l):b < h.size:=by
 obtain ⟨p,h1,_⟩:=B.ptr
 exact UD h1
theorem Bld.ext {lo:Nat} {h h':Heap} {b:Nat} {r:Sl} {l:List UInt8} (B:Bld lo h b r l) (e:Ext h h'):Bld lo h' b r l:=by
 obtain ⟨p,h1,h2⟩:=B.ptr
 exact ⟨B.low,⟨p,e.blk h1,h2⟩,B.row.ext e,B.off,B.nz,B.kt.same (fun i hi=>e.same i (B.row.lt hi).1)⟩
theorem Bld.new {lo:Nat} {h h':Heap} (hl:lo≤h.size) (hb:h'[h.size]?=some (.cells #[.pointer none,.slice none 0 0] ZZ (0,0))):Bld lo h' h.size Sl.nil [] :=
 ⟨hl,⟨_,hb,.inl rfl⟩,Gw.nil _ _ _,fun ⟨a,ha,_⟩=>(by cases ha),fun _=>rfl,fun g hg=>by cases hg⟩
structure BKeep (b:Nat) (r r':Sl) (h h':Heap):Prop where
 size:h.size≤h'.size
 same:∀ i,i < h.size→i≠b→¬ Sl.on r i→h'[i]?=h[i]?
 on_:∀ i,Sl.on r' i→Sl.on r i∨h.size≤i
theorem BKeep.refl (b:Nat) (r:Sl) (h:Heap):BKeep b r r h h:=⟨Nat.le_refl _,fun _ _ _ _=>rfl,fun _ h=>.inl h⟩
theorem BKeep.trans {b:Nat} {r r' r'':Sl} {h h' h'':Heap} (k:BKeep b r r' h h') (k':BKeep b r' r'' h' h'') (hb:b < h.size):BKeep b r r'' h h'' :=
 ⟨Nat.le_trans k.size k'.size,fun i hi hne hno=>(k'.same i (Nat.lt_of_lt_of_le hi k.size) hne (fun ho=>(k.on_ i ho).elim hno (fun h=>by omega))).trans (k.same i hi hne hno),
  fun i hi=>(k'.on_ i hi).elim (fun h=>k.on_ i h) (fun h=>.inr (Nat.le_trans k.size h))⟩
theorem BKeep.ext {lo:Nat} {b:Nat} {r r':Sl} {h0 h h':Heap} {l:List UInt8} (e:Ext h0 h) (B:Bld lo h b r l) (hl:h0.size≤lo) (k:BKeep b r r' h h'):Ext h0 h' :=
 ⟨Nat.le_trans e.size k.size,fun i hi=>(k.same i (Nat.lt_of_lt_of_le hi e.size) (by have:=B.low; omega) (fun ho=>by have:=(B.row.lt ho).2; omega)).trans (e.same i hi)⟩
theorem BKeep.push {b:Nat} {r r':Sl} {h h' h'':Heap} (k:BKeep b r r' h h') (e:Ext h' h''):BKeep b r r' h h'' :=
 ⟨Nat.le_trans k.size e.size,fun i hi h1 h2=>(e.same i (Nat.lt_of_lt_of_le hi k.size)).trans (k.same i hi h1 h2),k.on_⟩
theorem KKe {h:Heap} {b:Nat} {p v u:Value} {t:TypeId} (hb:h[b]?=some (.cells #[p,v] t (0,0))):(hset h ⟨b,1,none⟩ u)[b]?=some (.cells #[p,u] t (0,0)):=by
 rw [V8 hb]; rfl
theorem KI4 {h:Heap} {b:Nat} {p v u:Value} {t:TypeId} (hb:h[b]?=some (.cells #[p,v] t (0,0))):(hset h ⟨b,0,none⟩ u)[b]?=some (.cells #[u,v] t (0,0)):=by
 rw [V8 hb]; rfl
theorem KB2 {β:Type} {lo:Nat} {h:Heap} {b:Nat} {r:Sl} {l:List UInt8} {Q:β→Heap→Prop} {f:Unit→M β} (B:Bld lo h b r l)
  (H:∀ h',Bld lo h' b r l→Upd b h h'→(f ()).wp h' Q):(ZE (some ⟨b,0,none⟩)>>=f).wp h Q:=by
 obtain ⟨p,h1,h2⟩:=B.ptr
 refine ⟨b,p,r.v,rfl,h1,?_⟩
 rcases h2 with rfl | rfl
 ·refine .inr ⟨rfl,H _ ⟨B.low,⟨_,KI4 h1,.inr rfl⟩,B.row.same (fun i hi=>Gj (fun e=>B.off ((show i=b from e) ▸ hi))),B.off,B.nz,B.kt.same (fun i hi=>Gj (fun e=>B.off ((show i=b from e) ▸ hi)))⟩ (Upd.hset _ _ _ _)⟩
 ·exact .inl ⟨rfl,H _ B (Upd.refl _ _)⟩
theorem KI5 {lo:Nat} {h h0 h':Heap} {b:Nat} {r r':Sl} {l l':List UInt8} (B:Bld lo h0 b r l) (u:Upd b h h0) (hs:h0.size≤h'.size)
  (same:∀ i,i < h0.size→¬ Sl.on r i→h'[i]?=h0[i]?) (on_:∀ i,Sl.on r' i→Sl.on r i∨h0.size≤i) (G:Gw lo h' r' 1 (l'.map bv)) (nz:r'.cap=0→r'=Sl.nil) (kt:KT h' r' KY) :
  Bld lo (hset h' ⟨b,1,none⟩ r'.v) b r' l'∧BKeep b r r' h (hset h' ⟨b,1,none⟩ r'.v):=by
 have hb:=B.lt
 obtain ⟨p,h1,h2⟩:=B.ptr
 have h1':h'[b]?=some (.cells #[p,r.v] ZZ (0,0)):=by rw [same b hb B.off]; exact h1
 have hoff:¬ Sl.on r' b:=fun ho=>(on_ b ho).elim B.off (fun h=>by omega)
 refine ⟨⟨B.low,⟨p,KKe h1',h2⟩,G.same (fun i hi=>Gj (fun e=>hoff ((show i=b from e) ▸ hi))),hoff,nz,kt.same (fun i hi=>Gj (fun e=>hoff ((show i=b from e) ▸ hi)))⟩,?_,fun i hi hne hno=>?_,fun i hi=>?_⟩
 ·rw [qL,← u.size]; exact hs
 ·rw [Gj hne,same i (by rw [u.size]; exact hi) hno,u.ne i hne]
 ·rw [← u.size]; exact on_ i hi
theorem Ws {lo:Nat} {h:Heap} {b:Nat} {r:Sl} {l s:List UInt8} {Q:Int × Value→Heap→Prop} (B:Bld lo h b r l) (hlo:lo≤h.size) (hm:l.length+s.length≤140737488355328)
  (H:∀ h' r' n,Bld lo h' b r' (l++s)→BKeep b r r' h h'→Q (n,Value.nilIface) h'):(KW (some ⟨b,0,none⟩) (bs s)).wp h Q:=by
 unfold KW
 refine KB2 B (fun h0 B0 u=>ZD ?_)
 obtain ⟨p,h1,h2⟩:=B0.ptr
 have hl:=B0.len
 refine Jw (n:=r) (by rw [Kg,KU h1]; rfl) ?_
 refine KRo ?_
 rw [KFH,ZO]
 refine KIB (vs:=l.map bv) (z:=#[.int .u8 0]) rfl B0.row (by simp) (fun v hv=>by obtain ⟨x,_,rfl⟩:=List.mem_map.1 hv; rfl) (by omega) (by omega) (by rw [u.size]; exact hlo) B0.nz B0.kt (fun h' r' G hlen hs same on_ nz kt=>?_)
 refine ZD ?_
 rw [← List.map_append] at G
 obtain ⟨B',K⟩:=KI5 B0 u hs same on_ G nz kt
 have h1':h'[b]?=some (.cells #[p,r.v] ZZ (0,0)):=by rw [same b B0.lt B0.off]; exact h1
 refine Wl (x:=r.v) (by rw [Kg,KU h1']; rfl) (by rw [Kg,KZ h1']) (KEo _) (KC ?_)
 rw [Kg]
 exact H _ _ _ B' K
theorem XG {lo:Nat} {h:Heap} {b:Nat} {r:Sl} {l:List UInt8} {c:UInt8} {n:Int} {Q:Value→Heap→Prop} (B:Bld lo h b r l) (hlo:lo≤h.size) (hm:l.length+1≤140737488355328) (hn:n=(c.toNat:Int))
  (H:∀ h' r',Bld lo h' b r' (l++[c])→BKeep b r r' h h'→Q Value.nilIface h'):(Kj (some ⟨b,0,none⟩) n).wp h Q:=by
 subst hn
 unfold Kj
 refine KB2 B (fun h0 B0 u=>ZD ?_)
 have hl:=B0.len
 obtain ⟨p,h1,h2⟩:=B0.ptr
 refine Jw (n:=r) (by rw [Kg,KU h1]; rfl) (qK ?_)
 have e1:=Ext.push h0 (.cells #[.int .u8 (c.toNat:Int)] KY)
 have B1:=B0.ext e1
 refine KRp (news:=[bv c]) rfl (.inr ⟨_,rfl,fun j v hj=>?_⟩) ?_
 ·rw [Kg,KU Kf,Nat.zero_add]
  rw [show (#[Value.int .u8 (c.toNat:Int)]:Array Value)=[bv c].toArray from rfl]
  simpa using hj
 refine KIB (vs:=l.map bv) (news:=[bv c]) (z:=#[.int .u8 0]) rfl B1.row rfl (fun v hv=>by simp at hv; subst hv; rfl) (by show (r.len+1) * 1≤_; omega) (by show r.len+1≤_; omega) (by have:=e1.size; have:=u.size; omega) B1.nz B1.kt (fun h' r' G hlen hs same on_ nz kt=>?_)
 refine ZD ?_
 have G:Gw lo h' r' 1 ((l++[c]).map bv):=by rw [List.map_append]; exact G
 obtain ⟨p',h1',h2'⟩:=B1.ptr
 have:=KI5 B1 (Upd.refl _ _) hs same on_ G nz kt
 obtain ⟨B',K⟩:=this
 have h1'':h'[b]?=some (.cells #[p',r.v] ZZ (0,0)):=by rw [same b B1.lt B1.off]; exact h1'
 refine Wl (x:=r.v) (by rw [Kg,KU h1'']; rfl) (by rw [Kg,KZ h1'']) (KEo _) (KC ?_)
 rw [Kg,Nat.zero_add]
 refine H _ _ B' ?_
 refine ⟨?_,fun i hi hne hno=>?_,fun i hi=>(K.on_ i hi).imp id (fun hh=>?_)⟩
 ·have:=K.size; have:=e1.size; have:=u.size; omega
 ·rw [K.same i (by have:=e1.size; have:=u.size; omega) hne hno,e1.same i (by rw [u.size]; exact hi),u.ne i hne]
 ·have:=e1.size; have:=u.size; omega
theorem KAC {lo:Nat} {h:Heap} {b:Nat} {r:Sl} {l:List UInt8} {Q:ByteArray→Heap→Prop} (B:Bld lo h b r l) (hm:l.length≤140737488355328)
  (H:∀ h',BKeep b r r h h'→h'.size=h.size→Q (bs l) h'):(ZG (some ⟨b,0,none⟩)).wp h Q:=by
 unfold ZG
 obtain ⟨p,h1,h2⟩:=B.ptr
 have hl:=B.len
 have c1:KO h ((⟨b,0,none⟩:Addr).add 1)=some r.v:=by rw [Kg,KU h1]; rfl
 refine ZD (ZD (Jw (n:=r) c1 (Jw (n:=r) c1 ?_)))
 rcases B.row with ⟨rfl,hv⟩ | ⟨g,ty,cells,R⟩
 ·have:l=[]:=by simpa using hv
  subst this
  exact ⟨none,.inl ⟨rfl,rfl⟩,.inl ⟨rfl,H h (BKeep.refl _ _ _) rfl⟩⟩
 ·have hc:r.cap≠0:=fun h0=>by
   have:=B.nz h0
   rw [this] at R
   have:=R.base
   cases this
  refine ⟨_,.inr ⟨hc,R.base⟩,?_⟩
  by_cases h0:l=[]
  ·subst h0
   refine .inl ⟨by rw [hl]; rfl,H h (BKeep.refl _ _ _) rfl⟩
  ·have hs:=R.size
   have:=R.cap
   refine .inr ⟨g,cells,(0,0),l,rfl,by rw [hl],h0,by omega,by omega,?_,fun j x hj=>?_,fun h' a1 a2=>KC (H _ ⟨by rw [a1]; exact Nat.le_refl _,fun i hi hne hno=>a2 i (fun e=>hno ⟨_,R.base,e.symm⟩),fun i hi=>.inl hi⟩ a1)⟩
   ·obtain ⟨c,z,hh⟩:=B.kt g R.base
    rw [R.blk] at hh; cases hh
    exact R.blk
   ·have:=R.get j (bv x) (by simp [hj])
    exact this
end Gx
namespace Gx
open Go
set_option linter.unusedVariables false
set_option linter.unusedSimpArgs false
def hexc (n:Nat):UInt8:=if n < 10 then UInt8.ofNat (48+n) else UInt8.ofNat (87+n)
theorem KNj:∀ n,n < 16→([48,49,50,51,52,53,54,55,56,57,97,98,99,100,101,102,103,104,105,106,107,108,109,110,111,112,113,114,115,116,117,118,119,120,121,122]:List UInt8)[n]?=some (hexc n):=by decide
theorem KIC:∀ n,n < 16→([48,49,50,51,52,53,54,55,56,57,97,98,99,100,101,102]:List UInt8)[n]?=some (hexc n):=by decide
theorem KME {β:Type} {h:Heap} {Q:β→Heap→Prop} {l:List UInt8} {i:Nat} {t:Int} {c:UInt8} {f:Int→M β} (ht:t=(i:Int)) (hi:l[i]?=some c) (H:(f (c.toNat:Int)).wp h Q):(ixS (bs l) t>>=f).wp h Q:=by
 obtain ⟨h1,rfl⟩:=List.getElem?_eq_some_iff.1 hi
 exact Nn ht h1 H
theorem KRq {β:Type} {h:Heap} {Q:β→Heap→Prop} {b i:Nat} {t:TypeId} {l:List UInt8} {c:UInt8} {f:Unit→M β} (hb:BB h b t l) (hi:i < l.length)
  (H:∀ h',BB h' b t (l.set i c)→Upd b h h'→(f ()).wp h' Q):(stV ⟨b,i,none⟩ (.int .u8 (c.toNat:Int))>>=f).wp h Q :=
 Wl (hb.cell hi) (hb.frozen i) (KQV c) (H _ (hb.set i c) (Upd.hset _ _ _ _))
theorem KNk:(⟨#[48,49,50,51,52,53,54,55,56,57,97,98,99,100,101,102,103,104,105,106,107,108,109,110,111,112,113,114,115,116,117,118,119,120,121,122]⟩:ByteArray)=bs [48,49,50,51,52,53,54,55,56,57,97,98,99,100,101,102,103,104,105,106,107,108,109,110,111,112,113,114,115,116,117,118,119,120,121,122]:=rfl
theorem KAx.ext {h h':Heap} (H:KAx h) (e:Ext h h'):KAx h':=by
 obtain ⟨cs,ty,fz,h1,h2⟩:=H
 exact ⟨cs,ty,fz,e.blk h1,h2⟩
theorem Gu.ext {h h':Heap} (H:Gu h) (e:Ext h h'):Gu h':=by
 obtain ⟨fz,ty,h1⟩:=H
 exact ⟨fz,ty,e.blk h1⟩
theorem KKf {n:Nat} (hn:n < 16) {h:Heap} {Q:ByteArray→Heap→Prop} (hd:KAx h) (H:∀ h',Ext h h'→Q (bs [hexc n]) h'):(Uj (n:Int) 16).wp h Q:=by
 unfold Uj
 refine iteF (by decide) (KE ?_)
 have w1:IntKind.wrap .u64 (n:Int)=(n:Int):=by rw [IntKind.wrap_u64]; omega
 rw [w1,show decide ((n:Int) < 0)=false by simp]
 unfold JR
 refine KLY (by decide) (Jr (KLY (by decide) (Jr (iteF (by decide) (KNR (iteF rfl ?_))))))
 have e1:=Ext.push h (.cells (Array.replicate 65 (.int .u8 0)) Y0)
 have g1:(h.push (.cells (Array.replicate 65 (.int .u8 0)) Y0))[h.size]?=some (.cells (Array.replicate 65 (.int .u8 0)) Y0 (0,0)):=Kf
 generalize h.push (.cells (Array.replicate 65 (.int .u8 0)) Y0)=h1 at e1 g1 ⊢
 unfold Z6 JC
 refine Jr (iteT (by decide) ?_)
 unfold UO Jz
 obtain ⟨cs,ty,fz,d1,d2⟩:=hd.ext e1
 refine KE (KLY (by decide) (KQU (by decide) (by decide) (Zm (n:=4) ?_ (Jr (KC ?_)))))
 ·rw [show ((iShr .u64 (IntKind.wrap .u64 ((iAnd .u64 (IntKind.wrap .u64 16) (IntKind.wrap .u64 (0 - (IntKind.wrap .u64 16)))) * 285870213051353865)) 58).toNat * 1)=15 by decide,Kg,KU d1]
  exact d2
 have b1:BB h1 h.size Y0 (List.replicate 65 0):=by
  unfold BB
  rw [g1]
  rfl
 refine M.loop_inv (fun (t:Int × Int) h'=>h'=h1∧t=((n:Int),65)) (fun _ _=>0) ?_ ⟨rfl,rfl⟩
 rintro t h' ⟨rfl,rfl⟩ self hself
 unfold J1
 refine iteF (by simp [IntKind.wrap_u64]; omega) ?_
 rw [KNk]
 refine KME rfl (KNj n hn) (KQU (by decide) (by decide) ?_)
 rw [show (IntKind.wrap .i64 (65 - 1)).toNat * 1=64 by decide,Kg,Nat.zero_add]
 refine KRq b1 (by decide) (fun h2 b2 u2=>?_)
 unfold Z5 Z4
 refine iteF rfl (iteF rfl (KRZ (by decide) (by decide) (by decide) ?_))
 rw [show (IntKind.wrap .i64 (65 - 1)).toNat=64 by decide,if_neg (by decide),Kg]
 refine KLZ (ns:=[hexc n]) rfl ?_ (KC (KC (H _ (e1.upd u2 (Nat.le_refl _)))))
 have:=(b2.bys 64 1 1 (by simp)).at_
 exact this
end Gx
namespace Gx
open Go
set_option linter.unusedVariables false
set_option linter.unusedSimpArgs false
theorem KAP {n:Int} {h:Heap} {Q:ByteArray→Heap→Prop} (hn:I64 n) (hp:Gu h) (H:∀ h',Ext h h'→Q (bs (Lib.itoa n)) h'):(Nv n).wp h Q:=by
 unfold Nv JE
 refine KE (KE (WX (KDP n) ⟨hn.1,hn.2,hp,fun h' h1 h2=>KC (KC (H _ ⟨h1,h2⟩))⟩))
theorem KMF {β:Type} {n:Nat} (hn:n < 16) {t:Int} (ht:t=(n:Int)) {h:Heap} {Q:β→Heap→Prop} {f:ByteArray→M β} (hd:KAx h) (H:∀ h',Ext h h'→(f (bs [hexc n])).wp h' Q):(JE t 16>>=f).wp h Q:=by
 subst ht
 unfold JE
 exact KE (KE (WX (Ge _ _) (KKf hn hd (fun h' e=>KC (H _ e)))))
def qc (c:UInt8):List UInt8:=if c < 32∨126 < c then [92,120,hexc (c.toNat / 16),hexc (c.toNat % 16)] else if c=39∨c=92 then [92,c] else [c]
def NS (s:List UInt8):List UInt8:=39::s.flatMap qc++[39]
theorem KRr (c:UInt8):(qc c).length≤4:=by unfold qc; split <;> (try split) <;> simp
structure BW (h0:Heap) (b c:Nat) (o:Obj) (h:Heap) (r:Sl) (l:List UInt8):Prop where
 bld:Bld h0.size h b r l
 ext:Ext h0 h
 blk:h[c]?=some o
 off:¬ Sl.on r c
 ne:c≠b
theorem BW.keep {h0 h h':Heap} {b c:Nat} {o:Obj} {r r':Sl} {l l':List UInt8} (W:BW h0 b c o h r l) (B:Bld h0.size h' b r' l') (K:BKeep b r r' h h'):BW h0 b c o h' r' l' :=
 ⟨B,K.ext W.ext W.bld (Nat.le_refl _),(K.same c (UD W.blk) W.ne W.off).trans W.blk,fun ho=>(K.on_ c ho).elim W.off (fun h=>by have:=UD W.blk; omega),W.ne⟩
theorem BW.more {h0 h h':Heap} {b c:Nat} {o:Obj} {r:Sl} {l:List UInt8} (W:BW h0 b c o h r l) (e:Ext h h'):BW h0 b c o h' r l :=
 ⟨W.bld.ext e,W.ext.trans e,e.blk W.blk,W.off,W.ne⟩
theorem KQo (c:UInt8):iShr .u8 (c.toNat:Int) 4=((c.toNat / 16:Nat):Int):=by
 have h:(c.toNat:Int).fdiv 16=((c.toNat / 16:Nat):Int):=by
  rw [Int.fdiv_eq_ediv_of_nonneg _ (by decide)]; rfl
 exact h
set_option maxRecDepth 100000 in
theorem KQp:∀ c:UInt8,iAnd .u8 (c.toNat:Int) 15=((c.toNat % 16:Nat):Int):=by
 intro c
 have hk:∀ n,n < 256→iAnd .u8 ((n:Nat):Int) 15=((n % 16:Nat):Int):=by decide
 exact hk c.toNat c.toNat_lt
theorem KID {l:List UInt8} {i:Nat} (hi:i < l.length) (f:UInt8→List UInt8):(l.take (i+1)).flatMap f=(l.take i).flatMap f++f l[i]:=by
 rw [KLa hi,List.flatMap_append]; simp
theorem KI6 {s:List UInt8} {h:Heap} {Q:ByteArray→Heap→Prop} (hs:(NS s).length≤140737488355328) (hd:KAx h) (H:∀ h',Ext h h'→Q (bs (NS s)) h'):(Gz (bs s)).wp h Q:=by
 unfold Gz
 refine ZU (fun h1 e1 z1 g1=>?_)
 have B1:=Bld.new (Nat.le_refl _) g1
 refine KE (XG (c:=39) B1 (by omega) (by simp) rfl (fun h2 r2 B2 K2=>?_))
 refine fun cap hcap mk hmk=>?_
 have e3:=Ext.push h2 (.cells ((JO (bs s)).toArray++Array.replicate (cap - (bs s).size) (.int .u8 0)) KY mk)
 have g3:(h2.push (.cells ((JO (bs s)).toArray++Array.replicate (cap - (bs s).size) (.int .u8 0)) KY mk))[h2.size]?=some (.cells ((JO (bs s)).toArray++Array.replicate (cap - (bs s).size) (.int .u8 0)) KY mk):=Kf
 generalize h2.push (.cells ((JO (bs s)).toArray++Array.replicate (cap - (bs s).size) (.int .u8 0)) KY mk)=h3 at e3 g3 ⊢
 have hlt:=B2.lt
 have W3:BW h h.size h2.size _ h3 r2 [39]:=⟨B2.ext e3,(K2.ext e1 B1 (Nat.le_refl _)).trans e3,g3,fun ho=>by have:=(B2.row.lt ho).1; omega,by omega⟩
 rw [ZO]
 have hq:(NS s).length=(s.flatMap qc).length+2:=by simp [NS]
 have hsl:s.length≤(s.flatMap qc).length:=by
  rw [List.length_flatMap]
  clear hs H hcap W3 g3 e3 hq K2 B2 hlt
  induction s with
  | nil=>simp
  | cons a s ih=>rw [List.map_cons,List.sum_cons,List.length_cons]; have:1≤(qc a).length:=by { unfold qc; split <;> (try split) <;> simp }; omega
 have hpre:∀ i,((s.take i).flatMap qc).length≤(s.flatMap qc).length:=fun i=>by
  conv=>rhs; rw [← List.take_append_drop i s,List.flatMap_append,List.length_append]
  omega
 refine M.loop_inv (fun (t:Int) h'=>∃ i:Nat,t=(i:Int)∧i≤s.length∧∃ r,BW h h.size h2.size (.cells ((JO (bs s)).toArray++Array.replicate (cap - (bs s).size) (.int .u8 0)) KY mk) h' r (39::(s.take i).flatMap qc)) (fun t _=>((s.length:Int) - t).toNat) ?_ ⟨0,rfl,Nat.zero_le _,r2,W3⟩
 rintro t h' ⟨i,rfl,hi,r,W⟩ self hself
 unfold N8
 have hpi:=hpre i
 refine KP (fun hc=>?_) (fun hc=>?_)
 ·have hlt':i < s.length:=by have:=of_decide_eq_true hc; dsimp only at this; omega
  have hpj:=hpre (i+1)
  have htk:=KID hlt' qc
  have cell:KO h' ((⟨h2.size,0,none⟩:Addr).add ((i:Int).toNat * 1))=some (.int .u8 (s[i].toNat:Int)):=by
   rw [Kg,KU W.blk,show 0+(i:Int).toNat * 1=i by omega,Array.getElem?_append_left (by rw [KFH]; simpa using hlt')]
   simp [KFH,hlt',bv]
  refine Xi (by omega) (by show (i:Int) < (s.length:Int); omega) rfl (Zm cell ?_)
  have hw64:IntKind.wrap .i64 ((i:Int)+1)=((i+1:Nat):Int):=by rw [w64 (by omega) (by omega)]; simp
  have hnext:∀ {h4:Heap} {r4:Sl},BW h h.size h2.size (.cells ((JO (bs s)).toArray++Array.replicate (cap - (bs s).size) (.int .u8 0)) KY mk) h4 r4 (39::(s.take (i+1)).flatMap qc)→(Vj self (i:Int)).wp h4 Q:=fun W4=>by
   unfold Vj
   rw [hw64]
   exact hself _ _ ⟨i+1,rfl,by omega,_,W4⟩ (by omega)
  rw [htk] at hnext hpj
  have c32:(decide ((s[i].toNat:Int) < 32))=decide (s[i] < 32):=by rw [Bool.eq_iff_iff]; simp [u8_lt_int]
  have c126:(decide ((s[i].toNat:Int) > 126))=decide (126 < s[i]):=by rw [Bool.eq_iff_iff]; simp [u8_lt_int]
  refine or_b (c:=decide (126 < s[i])) (fun _ Q' hq'=>KC (by rw [c126]; exact hq')) ?_
  rw [c32]
  have hlo:h.size≤h'.size:=W.ext.size
  refine KP (fun hx=>?_) (fun hx=>?_)
  ·have hx':s[i] < 32∨126 < s[i]:=by simpa using hx
   have hqc:qc s[i]=[92,120,hexc (s[i].toNat / 16),hexc (s[i].toNat % 16)]:=by unfold qc; rw [if_pos hx']
   rw [hqc] at hnext hpj
   simp only [List.length_append,List.length_cons,List.length_nil] at hpj
   have hdiv:s[i].toNat / 16 < 16:=by have:=s[i].toNat_lt; omega
   refine KE (Ws (s:=[92,120]) W.bld hlo (by simp only [List.length_cons,List.length_append,List.length_nil]; omega) (fun h4 r4 n4 B4 K4=>?_))
   have W4:=W.keep B4 K4
   refine KMF hdiv (by rw [KQo,w64 (by omega) (by omega)]) (hd.ext W4.ext) (fun h5 e5=>?_)
   have W5:=W4.more e5
   refine KE (Ws W5.bld W5.ext.size (by simp only [List.length_cons,List.length_append,List.length_nil]; omega) (fun h6 r6 n6 B6 K6=>?_))
   have W6:=W5.keep B6 K6
   refine KMF (Nat.mod_lt _ (by decide)) (by rw [KQp,w64 (by omega) (by omega)]) (hd.ext W6.ext) (fun h7 e7=>?_)
   have W7:=W6.more e7
   refine KE (Ws W7.bld W7.ext.size (by simp only [List.length_cons,List.length_append,List.length_nil]; omega) (fun h8 r8 n8 B8 K8=>?_))
   exact hnext (by have:=W7.keep B8 K8; simpa using this)
  ·have hx':¬ (s[i] < 32∨126 < s[i]):=by simpa using hx
   have c39:((s[i].toNat:Int) == 39)=decide (s[i]=39):=by
    rw [Bool.eq_iff_iff]; simp only [beq_iff_eq,decide_eq_true_eq]
    exact ⟨fun e=>UInt8.toNat_inj.1 (by simpa using (by omega:s[i].toNat=39)),fun e=>by rw [e]; rfl⟩
   have c92:((s[i].toNat:Int) == 92)=decide (s[i]=92):=by
    rw [Bool.eq_iff_iff]; simp only [beq_iff_eq,decide_eq_true_eq]
    exact ⟨fun e=>UInt8.toNat_inj.1 (by simpa using (by omega:s[i].toNat=92)),fun e=>by rw [e]; rfl⟩
   refine or_b (c:=decide (s[i]=92)) (fun _ Q' hq'=>KC (by rw [c92]; exact hq')) ?_
   rw [c39]
   refine KP (fun hy=>?_) (fun hy=>?_)
   ·have hy':s[i]=39∨s[i]=92:=by simpa using hy
    have hqc:qc s[i]=[92,s[i]]:=by unfold qc; rw [if_neg hx',if_pos hy']
    rw [hqc] at hnext hpj
    simp only [List.length_append,List.length_cons,List.length_nil] at hpj
    refine KE (XG (c:=92) W.bld hlo (by simp only [List.length_cons,List.length_append,List.length_nil]; omega) rfl (fun h4 r4 B4 K4=>?_))
    have W4:=W.keep B4 K4
    refine KE (XG (c:=s[i]) W4.bld W4.ext.size (by simp only [List.length_cons,List.length_append,List.length_nil]; omega) rfl (fun h5 r5 B5 K5=>?_))
    exact hnext (by have:=W4.keep B5 K5; simpa using this)
   ·have hy':¬ (s[i]=39∨s[i]=92):=by simpa using hy
    have hqc:qc s[i]=[s[i]]:=by unfold qc; rw [if_neg hx',if_neg hy']
    rw [hqc] at hnext hpj
    simp only [List.length_append,List.length_cons,List.length_nil] at hpj
    refine KE (XG (c:=s[i]) W.bld hlo (by simp only [List.length_cons,List.length_append,List.length_nil]; omega) rfl (fun h4 r4 B4 K4=>?_))
    exact hnext (by have:=W.keep B4 K4; simpa using this)
 ·have hge:i=s.length:=by have:=of_decide_eq_false hc; dsimp only at this; omega
  subst hge
  rw [List.take_length] at W
  refine KE (XG (c:=39) W.bld W.ext.size (by simp only [List.length_cons,List.length_append,List.length_nil]; omega) rfl (fun h4 r4 B4 K4=>?_))
  have W4:=W.keep B4 K4
  refine KE (KAC B4 (by simp only [List.length_cons,List.length_append,List.length_nil]; omega) (fun h5 K5 _=>KC ?_))
  exact H _ (K5.ext W4.ext B4 (Nat.le_refl _))
end Gx
namespace Gx
open Go
set_option linter.unusedVariables false
set_option linter.unusedSimpArgs false
theorem KNl {β:Type} {h0 h:Heap} {Q:β→Heap→Prop} {r:Sl} {l news:List UInt8} {n b:Nat} {f:Sl→M β} (G:Gw h0.size h r 1 (l.map bv)) (e:Ext h0 h) (hn:n=news.length) (hb:h[b]?=some (.cells (news.map bv).toArray KY (0,0)))
  (hm:l.length+news.length≤140737488355328)
  (H:∀ h' r',Gw h0.size h' r' 1 ((l++news).map bv)→Ext h0 h'→(f r').wp h' Q):(apL KY 1 1 (#[.int .u8 0]:Array Value) r ⟨some ⟨b,0,none⟩,n,n⟩>>=f).wp h Q:=by
 subst hn
 have hl:=G.len
 simp at hl
 refine KBH (vs:=l.map bv) (news:=news.map bv) rfl G (by simp) (.inr ⟨_,rfl,fun j v hj=>?_⟩) (fun v hv=>by obtain ⟨x,_,rfl⟩:=List.mem_map.1 hv; rfl) (by dsimp only; omega) (by dsimp only; omega) e.size (fun h' r' G' hlen hs same on_=>?_)
 ·rw [Kg,KU hb]
  simpa using hj
 ·rw [← List.map_append] at G'
  exact H _ _ G' ⟨Nat.le_trans e.size hs,fun i hi=>(same i (Nat.lt_of_lt_of_le hi e.size) (fun ho=>by have:=(G.lt ho).2; omega)).trans (e.same i hi)⟩
theorem KQq {h0 h:Heap} {c:List UInt8} {b:Nat} (hl:h0.size≤b) (hb:h[b]?=some (.cells (c.map bv).toArray KY (0,0))):Gw h0.size h ⟨some ⟨b,0,none⟩,c.length,c.length⟩ 1 (c.map bv) :=
 .inr ⟨b,_,_,rfl,hl,hb,by simp,Nat.le_refl _,by simp,fun j v hj=>by simpa using hj⟩
theorem KNm:(⟨#[48,49,50,51,52,53,54,55,56,57,97,98,99,100,101,102]⟩:ByteArray)=bs [48,49,50,51,52,53,54,55,56,57,97,98,99,100,101,102]:=rfl
theorem KIE (s:List UInt8):(NS s).length=(s.flatMap qc).length+2:=by simp [NS]
theorem KPR (s:List UInt8):s.length≤(s.flatMap qc).length:=by
 induction s with
 | nil=>simp
 | cons a s ih=>rw [List.flatMap_cons,List.length_append,List.length_cons]; have:1≤(qc a).length:=by { unfold qc; split <;> (try split) <;> simp }; omega
theorem KJx (s:List UInt8) (i:Nat):((s.take i).flatMap qc).length≤(s.flatMap qc).length:=by
 conv=>rhs; rw [← List.take_append_drop i s,List.flatMap_append,List.length_append]
 omega
theorem KI7 {s:List UInt8} {h:Heap} {Q:ByteArray→Heap→Prop} (hs:(NS s).length≤140737488355328) (H:∀ h',Ext h h'→Q (bs (NS s)) h'):(VD (bs s)).wp h Q:=by
 unfold VD
 rw [KIE] at hs
 have hsl:=KPR s
 refine qK ?_
 have e1:=Ext.push h (.cells #[.int .u8 39] KY)
 have g1:(h.push (.cells #[.int .u8 39] KY))[h.size]?=some (.cells (([39]:List UInt8).map bv).toArray KY (0,0)):=Kf
 generalize h.push (.cells #[.int .u8 39] KY)=h1 at e1 g1 ⊢
 refine M.loop_inv (fun (t:Sl × Int) h'=>∃ i:Nat,t.2=(i:Int)∧i≤s.length∧Gw h.size h' t.1 1 ((39::(s.take i).flatMap qc).map bv)∧Ext h h') (fun t _=>((s.length:Int) - t.2).toNat) ?_ ⟨0,rfl,Nat.zero_le _,KQq (c:=[39]) (Nat.le_refl _) g1,e1⟩
 rintro ⟨r,t⟩ h' ⟨i,hti,hi,G,E⟩ self hself
 have hti:t=(i:Int):=hti
 subst hti
 unfold We
 rw [ZO]
 have hpi:=KJx s i
 refine KP (fun hc=>?_) (fun hc=>?_)
 ·have hlt':i < s.length:=by have:=of_decide_eq_true hc; omega
  have hpj:=KJx s (i+1)
  have htk:=KID hlt' qc
  refine Nn rfl hlt' ?_
  have hw64:IntKind.wrap .i64 ((i:Int)+1)=((i+1:Nat):Int):=by rw [w64 (by omega) (by omega)]; simp
  have hnext:∀ {h4:Heap} {r4:Sl},Gw h.size h4 r4 1 ((39::(s.take (i+1)).flatMap qc).map bv)→Ext h h4→(JS self (i:Int) r4).wp h4 Q:=fun G4 E4=>by
   unfold JS
   rw [hw64]
   exact hself (_,_) _ ⟨i+1,rfl,by omega,G4,E4⟩ (by dsimp only; omega)
  rw [htk] at hnext hpj
  have c32:(decide ((s[i].toNat:Int) < 32))=decide (s[i] < 32):=by rw [Bool.eq_iff_iff]; simp [u8_lt_int]
  have c126:(decide ((s[i].toNat:Int) > 126))=decide (126 < s[i]):=by rw [Bool.eq_iff_iff]; simp [u8_lt_int]
  have c39:((s[i].toNat:Int) == 39)=decide (s[i]=39):=by
   rw [Bool.eq_iff_iff]; simp only [beq_iff_eq,decide_eq_true_eq]
   exact ⟨fun e=>UInt8.toNat_inj.1 (by simpa using (by omega:s[i].toNat=39)),fun e=>by rw [e]; rfl⟩
  have c92:((s[i].toNat:Int) == 92)=decide (s[i]=92):=by
   rw [Bool.eq_iff_iff]; simp only [beq_iff_eq,decide_eq_true_eq]
   exact ⟨fun e=>UInt8.toNat_inj.1 (by simpa using (by omega:s[i].toNat=92)),fun e=>by rw [e]; rfl⟩
  refine or_b (c:=decide (s[i]=92)) (fun _ Q' hq'=>KC (by rw [c92]; exact hq')) ?_
  rw [c39]
  refine KP (fun hy=>?_) (fun hy=>?_)
  ·have hy':s[i]=39∨s[i]=92:=by simpa using hy
   have hx':¬ (s[i] < 32∨126 < s[i]):=by rcases hy' with e | e <;> rw [e] <;> decide
   have hqc:qc s[i]=[92,s[i]]:=by unfold qc; rw [if_neg hx',if_pos hy']
   rw [hqc] at hnext hpj
   simp only [List.length_append,List.length_cons,List.length_nil] at hpj
   refine qK (KNl (news:=[92,s[i]]) (G.ext (Ext.push _ _)) (E.pushed _) rfl Kf (by simp only [List.length_cons,List.length_append,List.length_nil]; omega) (fun h4 r4 G4 E4=>hnext G4 E4))
  ·have hy':¬ (s[i]=39∨s[i]=92):=by simpa using hy
   refine or_b (c:=decide (126 < s[i])) (fun _ Q' hq'=>KC (by rw [c126]; exact hq')) ?_
   rw [c32]
   refine KP (fun hx=>?_) (fun hx=>?_)
   ·have hx':s[i] < 32∨126 < s[i]:=by simpa using hx
    have hqc:qc s[i]=[92,120,hexc (s[i].toNat / 16),hexc (s[i].toNat % 16)]:=by unfold qc; rw [if_pos hx']
    rw [hqc] at hnext hpj
    simp only [List.length_append,List.length_cons,List.length_nil] at hpj
    have hdiv:s[i].toNat / 16 < 16:=by have:=s[i].toNat_lt; omega
    rw [KNm]
    refine KME (i:=s[i].toNat / 16) (by rw [Int.tdiv_eq_ediv_of_nonneg (by omega),IntKind.wrap_u8]; omega) (KIC _ hdiv) (KME (i:=s[i].toNat % 16) (by rw [Int.tmod_eq_emod_of_nonneg (by omega)]; omega) (KIC _ (Nat.mod_lt _ (by decide))) ?_)
    exact qK (KNl (news:=[92,120,hexc (s[i].toNat / 16),hexc (s[i].toNat % 16)]) (G.ext (Ext.push _ _)) (E.pushed _) rfl Kf (by simp only [List.length_cons,List.length_append,List.length_nil]; omega) (fun h4 r4 G4 E4=>hnext G4 E4))
   ·have hx':¬ (s[i] < 32∨126 < s[i]):=by simpa using hx
    have hqc:qc s[i]=[s[i]]:=by unfold qc; rw [if_neg hx',if_neg hy']
    rw [hqc] at hnext hpj
    simp only [List.length_append,List.length_cons,List.length_nil] at hpj
    exact qK (KNl (news:=[s[i]]) (G.ext (Ext.push _ _)) (E.pushed _) rfl Kf (by simp only [List.length_cons,List.length_append,List.length_nil]; omega) (fun h4 r4 G4 E4=>hnext G4 E4))
 ·have hge:i=s.length:=by have:=of_decide_eq_false hc; omega
  subst hge
  rw [List.take_length] at G hpi
  refine qK (KNl (news:=[39]) (G.ext (Ext.push _ _)) (E.pushed _) rfl Kf (by simp only [List.length_cons,List.length_append,List.length_nil]; omega) (fun h4 r4 G4 E4=>?_))
  have B:=G4.bys
  exact KLZ B.len.symm B.at_ (KC (H _ E4))
end Gx
namespace Gx
open Go
set_option linter.unusedVariables false
set_option linter.unusedSimpArgs false
def dgt (u:Nat):List Nat:=if h:u < 10 then [u] else dgt (u / 10)++[u % 10]
termination_by u
decreasing_by omega
theorem KI8 (u:Nat):Lib.decDigits u=(dgt u).map fun d=>UInt8.ofNat (48+d):=by
 induction u using Nat.strongRecOn with
 | _ u ih =>
  unfold dgt Lib.decDigits
  split
  ·rfl
  ·rw [ih (u / 10) (by omega)]; simp
theorem KQr (u:Nat):∀ d ∈ dgt u,d < 10:=by
 induction u using Nat.strongRecOn with
 | _ u ih =>
  unfold dgt
  split
  ·intro d hd; simp at hd; omega
  ·intro d hd
   rcases List.mem_append.1 hd with hd | hd
   ·exact ih (u / 10) (by omega) d hd
   ·simp at hd; omega
theorem KFI:∀ (k u:Nat),u < 10 ^ k→1≤k→(dgt u).length≤k
 | 0,u,h,h1=>by omega
 | k+1,u,h,h1=>by
  unfold dgt
  split
  ·simp
  ·rename_i hu
   rw [List.length_append]
   have:1≤k:=by
    rcases Nat.eq_zero_or_pos k with h0 | h0
    ·subst h0; omega
    ·exact h0
   have:=KFI k (u / 10) (by rw [Nat.pow_succ] at h; omega) this
   simp; omega
def dv (d:Nat):Value:=.int .i64 (d:Int)
theorem KIF {n:Int} {h:Heap} {Q:Sl→Heap→Prop} (hn:I64 n) (H:∀ h' r,Ext h h'→Gw h.size h' r 1 ((dgt n.natAbs).map dv)→Q r h'):(Ut n).wp h Q:=by
 unfold Ut
 obtain ⟨n1,n2⟩:=hn
 have hbare:(Ul n).wp h (fun u h'=>u=(n.natAbs:Int)∧h'=h):=by
  unfold Ul
  refine KP (fun hc=>?_) (fun hc=>?_)
  ·have:=of_decide_eq_true hc
   exact KC ⟨by rw [IntKind.wrap_u64,IntKind.wrap_u64]; omega,rfl⟩
  ·have:=of_decide_eq_false hc
   exact KC ⟨by rw [IntKind.wrap_u64]; omega,rfl⟩
 refine KE ((Ul n).mono ?_ hbare)
 rintro u h' ⟨rfl,rfl⟩
 have hu:n.natAbs≤18446744073709551615:=by omega
 have hlen:(dgt n.natAbs).length≤20:=KFI 20 _ (by omega) (by decide)
 generalize n.natAbs=u at *
 refine M.loop_inv (fun (t:Int × Sl) h1=>∃ (x:Nat) (l:List Nat),t.1=(x:Int)∧x≤18446744073709551615∧Ext h' h1∧Gw h'.size h1 t.2 1 (l.map dv)∧(if 0 < x∨l=[] then dgt x else [])++l=dgt u) (fun t _=>t.1.toNat+(if t.2.len=0 then 1 else 0)) ?_ ⟨u,[],rfl,hu,Ext.refl _,Gw.nil _ _ _,by simp⟩
 rintro ⟨t,r⟩ h1 ⟨x,l,ht,hx,E,G,hd⟩ self hself
 have ht:t=(x:Int):=ht
 subst ht
 have hrl:=G.len
 simp at hrl
 unfold WK
 refine or_b (c:=decide (l=[])) (fun _ Q' hq'=>KC (by rw [show ((r.len:Int) == 0)=decide (l=[]) by rw [← hrl,Bool.eq_iff_iff]; simp]; exact hq')) ?_
 refine KP (fun hc=>?_) (fun hc=>?_)
 ·have hc':0 < x∨l=[]:=by simpa using hc
  rw [if_pos hc'] at hd
  have hsl:(dgt x).length+l.length=(dgt u).length:=by rw [← hd,List.length_append]
  have w1:IntKind.wrap .i64 (Int.tmod (x:Int) 10)=((x % 10:Nat):Int):=by
   rw [Int.tmod_eq_emod_of_nonneg (by omega),w64 (by omega) (by omega)]; omega
  have w2:IntKind.wrap .u64 (Int.tdiv (x:Int) 10)=((x / 10:Nat):Int):=by
   rw [Int.tdiv_eq_ediv_of_nonneg (by omega),IntKind.wrap_u64]; omega
  rw [w1,w2]
  refine qK ?_
  have e2:=Ext.push h1 (.cells #[.int .i64 ((x % 10:Nat):Int)] VY)
  have g2:(h1.push (.cells #[.int .i64 ((x % 10:Nat):Int)] VY))[h1.size]?=some (.cells #[.int .i64 ((x % 10:Nat):Int)] VY (0,0)):=Kf
  generalize h1.push (.cells #[.int .i64 ((x % 10:Nat):Int)] VY)=h2 at e2 g2 ⊢
  have G2:=G.ext e2
  have E2:=E.trans e2
  have Gn:Gw h'.size h2 ⟨some ⟨h1.size,0,none⟩,1,1⟩ 1 [dv (x % 10)]:=.inr ⟨h1.size,_,_,rfl,E.size,g2,rfl,Nat.le_refl _,rfl,fun j v hj=>by rw [show (#[.int .i64 ((x % 10:Nat):Int)]:Array Value)=[dv (x % 10)].toArray from rfl]; simpa using hj⟩
  refine KBH (vs:=[dv (x % 10)]) (news:=l.map dv) rfl Gn (by simp; exact hrl) G2.reads (fun v hv=>by obtain ⟨y,_,rfl⟩:=List.mem_map.1 hv; rfl) (by dsimp only; omega) (by dsimp only; omega) E2.size (fun h3 r3 G3 hlen3 hs same on_=>?_)
  have E3:Ext h' h3:=⟨Nat.le_trans E2.size hs,fun i hi=>(same i (Nat.lt_of_lt_of_le hi E2.size) (fun ho=>by have:=(Gn.lt ho).2; omega)).trans (E2.same i hi)⟩
  refine hself (_,_) _ ⟨x / 10,(x % 10)::l,rfl,by omega,E3,by simpa using G3,?_⟩ ?_
  ·rw [← hd]
   conv=>rhs; unfold dgt
   by_cases h10:x < 10
   ·have hz:x / 10=0:=by omega
    simp [h10,hz,Nat.mod_eq_of_lt h10]
   ·have:0 < x / 10:=by omega
    rw [if_pos (.inl this),dif_neg h10]; simp
  ·dsimp only
   rw [hlen3]
   dsimp only
   rcases hc' with h0 | h0
   ·rw [if_neg (by omega)]; split <;> omega
   ·subst h0
    have:r.len=0:=by rw [← hrl]; rfl
    rw [if_neg (by omega),if_pos this]; omega
 ·have hc':¬ (0 < x∨l=[]):=by simpa using hc
  rw [if_neg hc',List.nil_append] at hd
  subst hd
  exact KC (H _ _ E G)
theorem NT {β:Type} {h:Heap} {Q:β→Heap→Prop} {x y:List UInt8} {f:ByteArray→M β} (hm:x.length+y.length≤9223372036854775807) (H:(f (bs (x++y))).wp h Q):(sCat (bs x) (bs y)>>=f).wp h Q :=
 ⟨bs (x++y),⟨by rw [ZO,ZO]; omega,by apply ByteArray.ext; simp [bs]⟩,H⟩
theorem KES {n:Int} (hn:I64 n):(Lib.itoa n).length≤21:=by
 obtain ⟨n1,n2⟩:=hn
 unfold Lib.itoa
 split
 ·rw [List.length_cons,KI8,List.length_map]
  have:=KFI 20 n.natAbs (by omega) (by decide)
  omega
 ·rw [KI8,List.length_map]
  have:=KFI 20 n.toNat (by omega) (by decide)
  omega
theorem zG {n:Int} {h:Heap} {Q:ByteArray→Heap→Prop} (hn:I64 n) (H:∀ h',Ext h h'→Q (bs (Lib.itoa n)) h'):(Ja n).wp h Q:=by
 unfold Ja
 have key:∀ (p:List UInt8),p.length≤1→p++Lib.decDigits n.natAbs=Lib.itoa n→(UW n (bs p)).wp h Q:=fun p hp he=>by
  unfold UW
  refine KE (KIF hn (fun h1 r E G=>?_))
  have hrl:=G.len
  simp at hrl
  have hlen:(dgt n.natAbs).length≤20:=KFI 20 _ (by obtain ⟨_,_⟩:=hn; omega) (by decide)
  rw [KI8] at he
  have hlt:=KQr n.natAbs
  generalize dgt n.natAbs=ds at *
  refine M.loop_inv (fun (t:ByteArray × Int) h2=>∃ i:Nat,t.2=(i:Int)∧i≤ds.length∧t.1=bs (p++(ds.take i).map fun d=>UInt8.ofNat (48+d))∧Ext h h2∧Gw h.size h2 r 1 (ds.map dv)) (fun t _=>((ds.length:Int) - t.2).toNat) ?_ ⟨0,rfl,Nat.zero_le _,by simp,E,G⟩
  rintro ⟨x,t⟩ h2 ⟨i,hti,hi,hx,E2,G2⟩ self hself
  have hti:t=(i:Int):=hti
  have hx:x=_:=hx
  subst hti; subst hx
  unfold YA
  rw [← hrl]
  refine KP (fun hc=>?_) (fun hc=>?_)
  ·have hlt':i < ds.length:=by have:=of_decide_eq_true hc; omega
   obtain ⟨b,hb,hcell'⟩:=G2.cell (j:=i) (v:=dv ds[i]) (by simp [hlt'])
   have hd:=hlt ds[i] (List.getElem_mem hlt')
   refine Xi (by omega) (by omega) hb (Zm (n:=(ds[i]:Int)) (by rw [Kg,show 0+(i:Int).toNat * 1=i by omega]; exact hcell') ?_)
   have hc8:IntKind.wrap .u8 (IntKind.wrap .i64 (48+(ds[i]:Int)))=((UInt8.ofNat (48+ds[i])).toNat:Int):=by
    rw [w64 (by omega) (by omega),IntKind.wrap_u8,UInt8.toNat_ofNat']
    omega
   rw [hc8]
   refine qK ?_
   have g3:(h2.push (.cells #[.int .u8 ((UInt8.ofNat (48+ds[i])).toNat:Int)] KY))[h2.size]?=some (.cells (([UInt8.ofNat (48+ds[i])]:List UInt8).map bv).toArray KY (0,0)):=Kf
   have e3:=Ext.push h2 (.cells #[.int .u8 ((UInt8.ofNat (48+ds[i])).toNat:Int)] KY)
   have Gb:=KQq (h0:=h2) (c:=[UInt8.ofNat (48+ds[i])]) (Nat.le_refl _) g3
   refine KLZ (ns:=[UInt8.ofNat (48+ds[i])]) rfl Gb.bys.at_ (NT (y:=[UInt8.ofNat (48+ds[i])]) (by simp; omega) ?_)
   rw [w64 (by omega) (by omega)]
   refine hself (_,_) _ ⟨i+1,by simp,by omega,?_,E2.trans e3,G2.ext e3⟩ (by dsimp only; omega)
   dsimp only
   rw [List.take_succ_eq_append_getElem hlt',List.map_append,← List.append_assoc]
   rfl
  ·have hge:i=ds.length:=by have:=of_decide_eq_false hc; omega
   subst hge
   rw [List.take_length,he]
   exact KC (H _ E2)
 refine KP (fun hc=>?_) (fun hc=>?_)
 ·have:=of_decide_eq_true hc
  exact key [45] (by simp) (by unfold Lib.itoa; rw [if_pos this]; rfl)
 ·have:=of_decide_eq_false hc
  exact key [] (by simp) (by unfold Lib.itoa; rw [if_neg this,show n.natAbs=n.toNat by omega]; rfl)
end Gx
