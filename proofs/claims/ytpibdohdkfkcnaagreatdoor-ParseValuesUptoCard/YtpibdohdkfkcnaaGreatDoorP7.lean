/- Own proofs: what those Lean programs compute. No condition. -/
import Derived.Test.YtpibdohdkfkcnaaGreatDoorP0
import Derived.Test.YtpibdohdkfkcnaaGreatDoorP1
import Derived.Test.YtpibdohdkfkcnaaGreatDoorP2
import Derived.Test.YtpibdohdkfkcnaaGreatDoorP3
import Derived.Test.YtpibdohdkfkcnaaGreatDoorP4
import Derived.Test.YtpibdohdkfkcnaaGreatDoorP5
import Derived.Test.YtpibdohdkfkcnaaGreatDoorP6
set_option linter.unusedVariables false
set_option linter.unusedSimpArgs false
set_option maxRecDepth 100000
namespace Gx
open Go
abbrev bs (l:List UInt8):ByteArray:=⟨l.toArray⟩
inductive Vl where
 |mk (k n:Int) (s:List UInt8) (l:List Vl)
def Vl.k:Vl→Int| .mk k _ _ _=>k
def Vl.n:Vl→Int| .mk _ n _ _=>n
def Vl.s:Vl→List UInt8| .mk _ _ s _=>s
def Vl.l:Vl→List Vl| .mk _ _ _ l=>l
instance:Inhabited Vl:=⟨.mk 0 0 [] []⟩
def I64 (n:Int):Prop:=-9223372036854775808≤n∧n≤9223372036854775807
def UH (k n:Int) (s:List UInt8) (x:Sl):Array Value:=#[.int .i64 k,.int .i64 n,.string (bs s),x.v]
mutual
def VRep (h:Heap):Vl→Array Value→Prop
 | .mk k n s l,cs=>∃x:Sl,cs=UH k n s x∧I64 k∧I64 n∧s.length≤9223372036854775807∧(x.len=l.length∧x.len≤x.cap∧x.len≤9223372036854775807∧VsAt h l x.base 0)
def VsAt (h:Heap):List Vl→Option Addr→Nat→Prop
 | [],_,_=>True
 |v::l,b,i=>(∃a cs,b=some a∧cs.size=4∧(∀j,j<4→KM h (a.add (i*4+j))=cs[j]?)∧VRep h v cs)∧VsAt h l b (i+1)
end
structure VsRep (h:Heap) (x:Sl) (l:List Vl):Prop where
 len:x.len=l.length
 cap:x.len≤x.cap
 big:x.len≤9223372036854775807
 at_:VsAt h l x.base 0
theorem VRep.eq {h:Heap} {k n:Int} {s:List UInt8} {l:List Vl} {cs:Array Value}:VRep h (.mk k n s l) cs↔∃x:Sl,cs=UH k n s x∧I64 k∧I64 n∧s.length≤9223372036854775807∧VsRep h x l:=by
 rw [VRep]
 constructor
 ·rintro⟨x,h1,h2,h3,h4,h5,h6,h7,h8⟩;exact⟨x,h1,h2,h3,h4,h5,h6,h7,h8⟩
 ·rintro⟨x,h1,h2,h3,h4,h5,h6,h7,h8⟩;exact⟨x,h1,h2,h3,h4,h5,h6,h7,h8⟩
theorem VRep.size {h:Heap}:∀{v:Vl} {cs:Array Value},VRep h v cs→cs.size=4
 | .mk _ _ _ _,cs,H=>by obtain⟨x,rfl,_⟩:=VRep.eq.1 H;rfl
theorem VRep.one {h:Heap}:∀{v:Vl} {cs:Array Value},VRep h v cs→∀u∈cs.toList,Gx.one u=true
 | .mk _ _ _ _,cs,H=>by
  obtain⟨x,rfl,_⟩:=VRep.eq.1 H
  intro u hu
  simp only [UH,List.mem_cons,List.not_mem_nil,or_false]at hu
  rcases hu with rfl|rfl|rfl|rfl<;>first|rfl|exact qy _
theorem VsAt.get {h:Heap}:∀{l:List Vl} {b:Option Addr} {i:Nat},VsAt h l b i→∀{j:Nat} (hj:j<l.length),∃a cs,b=some a∧cs.size=4∧(∀m,m<4→KM h (a.add ((i+j)*4+m))=cs[m]?)∧VRep h l[j] cs
 | [],_,_,_,j,hj=>by simp at hj
 |v::l,b,i,H,0,hj=>by rw [VsAt]at H;exact H.1
 |v::l,b,i,H,j+1,hj=>by
  rw [VsAt]at H
  have:=VsAt.get H.2 (j:=j) (by simpa using hj)
  rw [show i+(j+1)=i+1+j by omega]
  exact this
theorem VsAt.of {h:Heap}:∀{l:List Vl} {b:Option Addr} {i:Nat},(∀j (hj:j<l.length),∃a cs,b=some a∧cs.size=4∧(∀m,m<4→KM h (a.add ((i+j)*4+m))=cs[m]?)∧VRep h l[j] cs)→VsAt h l b i
 | [],_,_,_=>by rw [VsAt];trivial
 |v::l,b,i,H=>by
  rw [VsAt]
  refine⟨H 0 (by simp),VsAt.of (fun j hj=>?_)⟩
  have:=H (j+1) (by simpa using hj)
  rw [show i+1+j=i+(j+1) by omega]
  exact this
theorem VsRep.get {h:Heap} {x:Sl} {l:List Vl} (H:VsRep h x l) {j:Nat} (hj:j<l.length):∃a cs,x.base=some a∧cs.size=4∧(∀m,m<4→KM h (a.add (j*4+m))=cs[m]?)∧VRep h l[j] cs:=by
 have:=H.at_.get hj
 rw [Nat.zero_add]at this
 exact this
theorem Ext.row {h h':Heap} (e:Ext h h') {a:Addr} {cs:Array Value} {i n:Nat} (hs:cs.size=n) (H:∀m,m<n→KM h (a.add (i+m))=cs[m]?):∀m,m<n→KM h' (a.add (i+m))=cs[m]?:=fun m hm=>by
 have h1:cs[m]?=some (cs[m]'(by omega)):=Array.getElem?_eq_getElem (by omega)
 rw [h1]
 exact e.cell (by rw [H m hm,h1])
theorem KMk {h h':Heap} (e:Ext h h'):∀(m:Nat) (v:Vl) (cs:Array Value),sizeOf v<m→VRep h v cs→VRep h' v cs:=by
 intro m
 induction m with
 |zero=>intro v cs hm;omega
 |succ m ih=>
  rintro⟨k,n,s,l⟩ cs hm H
  obtain⟨x,h1,h2,h3,h4,h5⟩:=VRep.eq.1 H
  refine VRep.eq.2 ⟨x,h1,h2,h3,h4,h5.len,h5.cap,h5.big,VsAt.of (fun j hj=>?_)⟩
  obtain⟨a,cs',ha,hs,hc,hv⟩:=h5.at_.get hj
  refine⟨a,cs',ha,hs,e.row hs hc,ih _ _ ?_ hv⟩
  have:=List.sizeOf_lt_of_mem (List.getElem_mem hj)
  simp only [Vl.mk.sizeOf_spec]at hm
  omega
theorem VRep.ext {h h':Heap} {v:Vl} {cs:Array Value} (H:VRep h v cs) (e:Ext h h'):VRep h' v cs:=KMk e _ v cs (Nat.lt_succ_self _) H
theorem VsRep.ext {h h':Heap} {x:Sl} {l:List Vl} (H:VsRep h x l) (e:Ext h h'):VsRep h' x l:=
 ⟨H.len,H.cap,H.big,VsAt.of (fun j hj=>by
  obtain⟨a,cs',ha,hs,hc,hv⟩:=H.at_.get hj
  exact⟨a,cs',ha,hs,e.row hs hc,hv.ext e⟩)⟩
theorem VsRep.nil (h:Heap):VsRep h Sl.nil []:=⟨rfl,Nat.le_refl _,by decide,by rw [VsAt];trivial⟩
def cmpI (a b:Int):Int:=if a<b then -1 else if b<a then 1 else 0
def cOr (a b:Int):Int:=if a=0 then b else a
mutual
def cmpV:Vl→Vl→Int
 | .mk k n s l,.mk k' n' s' l'=>cOr (cmpI k k') (cOr (cmpI n n') (cOr (Lib.compareBytes s s') (Xv l l')))
def Xv:List Vl→List Vl→Int
 | [],[]=>0
 | [],_::_=>-1
 |_::_,[]=>1
 |a::l,b::l'=>cOr (cmpV a b) (Xv l l')
end
theorem ZV {β:Type} {t:TypeId} {h:Heap} {Q:β→Heap→Prop} {cs:Array Value} {f:Addr→M β} (H:∀h',Ext h h'→h'.size=h.size+1→h'[h.size]?=some (.cells cs t (0,0))→(f ⟨h.size,0,none⟩).wp h' Q):(mkB t cs>>=f).wp h Q:=
 KQT (H _ (Ext.push _ _) (by simp) ZH)
theorem ZU {h:Heap} {b i:Nat} {cs:Array Value} {t:TypeId} {z:Nat×Nat} (hb:h[b]?=some (.cells cs t z)):KM h ((⟨b,0,none⟩:Addr).add i)=cs[i]?:=by
 rw [Ke,Nat.zero_add,KP hb]
theorem KFH {a b:Int} {h:Heap} {Q:Int→Heap→Prop} (H:Q (cmpI a b) h):(V1 a b).wp h Q:=by
 unfold V1 Wv
 refine ZM (ZM (iteF (by simp) (iteF (by simp) ?_)))
 unfold cmpI at H
 refine KY (fun hc=>?_) (fun hc=>?_)
 ·rw [if_pos (of_decide_eq_true hc)]at H;exact H
 ·rw [if_neg (of_decide_eq_false hc)]at H
  refine KY (fun hc=>?_) (fun hc=>?_)
  ·rw [if_pos (of_decide_eq_true hc)]at H;exact H
  ·rw [if_neg (of_decide_eq_false hc)]at H;exact H
theorem KC0 {a b:Int} {h:Heap} {Q:Int→Heap→Prop} (H:Q (cmpI a b) h):(U4 a b).wp h Q:=by
 unfold U4 V7
 refine ZM (ZM (iteF (by simp) (iteF (by simp) ?_)))
 unfold cmpI at H
 refine KY (fun hc=>?_) (fun hc=>?_)
 ·rw [if_pos (of_decide_eq_true hc)]at H;exact H
 ·rw [if_neg (of_decide_eq_false hc)]at H
  refine KY (fun hc=>?_) (fun hc=>?_)
  ·rw [if_pos (of_decide_eq_true hc)]at H;exact H
  ·rw [if_neg (of_decide_eq_false hc)]at H;exact H
def cOrs:List Int→Int
 | []=>0
 |a::l=>cOr a (cOrs l)
theorem KMl {t:TypeId} {b n:Nat} {zs:List Int} {h:Heap} {Q:Int→Heap→Prop} (hb:h[b]?=some (.cells (zs.map (Value.int .i64)).toArray t (0,0))) (hn:n=zs.length) (hz:zs.length≤1000) (H:Q (cOrs zs) h):(Gd ⟨some ⟨b,0,none⟩,n,n⟩).wp h Q:=by
 subst hn
 unfold Gd
 refine M.loop_inv (fun(t:Int) h'=>h'=h∧∃i:Nat,t=(i:Int)∧i≤zs.length∧cOrs (zs.drop i)=cOrs zs) (fun t _=>((zs.length:Int) - t).toNat) ?_ ⟨rfl,0,rfl,Nat.zero_le _,by simp⟩
 rintro t h' ⟨rfl,i,rfl,hi,hd⟩ self hself
 unfold ND
 refine KY (fun hc=>?_) (fun hc=>?_)
 ·have hlt:i<zs.length:=by have:=of_decide_eq_true hc;dsimp only at this;omega
  refine X6 (by omega) (by dsimp only;omega) rfl ?_
  refine ZC (n:=zs[i]) (by rw [show(i:Int).toNat*1=i by omega,ZU hb];simp [hlt]) ?_
  rw [List.drop_eq_getElem_cons hlt,cOrs]at hd
  refine KY (fun hne=>?_) (fun heq=>?_)
  ·have hne:zs[i]≠0:=by simpa using hne
   rw [cOr,if_neg hne]at hd
   rw [←hd]at H
   exact KI H
  ·have heq:zs[i]=0:=by simpa using heq
   rw [cOr,if_pos heq]at hd
   rw [w64 (by omega) (by omega)]
   exact hself _ _ ⟨rfl,i+1,by simp,by omega,hd⟩ (by omega)
 ·have hge:i=zs.length:=by have:=of_decide_eq_false hc;dsimp only at this;omega
  subst hge
  rw [List.drop_length]at hd
  have hd:(0:Int)=cOrs zs:=hd
  rw [←hd]at H
  exact KI H
theorem KB3 {l l':List Vl} {h:Heap} {Q:Int→Heap→Prop} {x y:Sl} {g:Value} (hx:VsRep h x l) (hy:VsRep h y l')
  (hg:∀j (hj:j<l.length) (hj':j<l'.length) h1 c c' (Q1:Int→Heap→Prop),Ext h h1→VRep h1 l[j] c→VRep h1 l'[j] c'→(∀h2,Ext h1 h2→Q1 (cmpV l[j] l'[j]) h2)→(X4 Go.Proofs.Tryz.prog (fun r:Int=>.int .i64 r) g [.agg c,.agg c']).wp h1 Q1)
  (H:∀h',Ext h h'→Q (Xv l l') h'):(KW x y g).wp h Q:=by
 unfold KW
 have hxl:=hx.len
 have hyl:=hy.len
 have hxb:=hx.big
 have hyb:=hy.big
 have hxc:=hx.cap
 have hyc:=hy.cap
 refine M.loop_inv (fun(t:Int) h'=>Ext h h'∧∃i:Nat,t=(i:Int)∧i≤l.length∧i≤l'.length∧Xv (l.drop i) (l'.drop i)=Xv l l') (fun t _=>((l.length:Int) - t).toNat) ?_ ⟨Ext.refl h,0,rfl,Nat.zero_le _,Nat.zero_le _,by simp⟩
 rintro t h' ⟨E,i,rfl,hi,hi',hd⟩ self hself
 unfold Kj
 rw [hxl,hyl]
 refine KY (fun hc=>?_) (fun hc=>?_)
 ·have hlt:i<l.length:=by have:=of_decide_eq_true hc;omega
  obtain⟨a,c,ha,hs,hcs,hv⟩:=(hx.ext E).get hlt
  refine X6 (by omega) (by rw [hxl];omega) ha (Xc hs (fun j hj=>by rw [Addr.add_add,show(i:Int).toNat*4=i*4 by omega];exact hcs j hj) (ZV (fun h1 e1 s1 g1=>?_)))
  refine Zt hs (stR (vs:=c) g1 (by rw [hs];decide) hv.one (fun h2 u2 g2=>?_))
  have E2:Ext h' h2:=e1.upd u2 (Nat.le_refl _)
  rw [Kp (by rw [Array.length_toList,hs];rfl),Array.toArray_toList]at g2
  refine KY (fun hge=>?_) (fun hlt'=>?_)
  ·have hge:i=l'.length:=by have:=of_decide_eq_true hge;omega
   subst hge
   rw [List.drop_length,List.drop_eq_getElem_cons hlt,Xv]at hd
   have:=H _ (E.trans E2)
   rw [←hd]at this
   exact KI this
  ·have hlt':i<l'.length:=by have:=of_decide_eq_false hlt';omega
   obtain⟨a',c',ha',hs',hcs',hv'⟩:=(hy.ext (E.trans E2)).get hlt'
   refine X6 (by omega) (by rw [hyl];omega) ha' (Xc hs' (fun j hj=>by rw [Addr.add_add,show(i:Int).toNat*4=i*4 by omega];exact hcs' j hj) (ZV (fun h3 e3 s3 g3=>?_)))
   refine Zt hs' (stR (vs:=c') g3 (by rw [hs'];decide) hv'.one (fun h4 u4 g4=>?_))
   have E4:Ext h2 h4:=e3.upd u4 (Nat.le_refl _)
   rw [Kp (by rw [Array.length_toList,hs'];rfl),Array.toArray_toList]at g4
   have g2':=E4.blk g2
   refine Xc hs (fun j hj=>by rw [ZU g2']) (Xc hs' (fun j hj=>by rw [ZU g4]) ?_)
   have E':=(E.trans E2).trans E4
   refine KL (hg i hlt hlt' h4 c c' _ E' ((hv.ext E2).ext E4) (hv'.ext E4) (fun h5 e5=>?_))
   rw [List.drop_eq_getElem_cons hlt,List.drop_eq_getElem_cons hlt',Xv]at hd
   refine KY (fun hne=>?_) (fun heq=>?_)
   ·have hne:cmpV l[i] l'[i]≠0:=by simpa using hne
    rw [cOr,if_neg hne]at hd
    rw [hd]
    exact KI (H _ (E'.trans e5))
   ·have heq:cmpV l[i] l'[i]=0:=by simpa using heq
    rw [cOr,if_pos heq]at hd
    rw [w64 (by omega) (by omega)]
    exact hself _ _ ⟨E'.trans e5,i+1,by simp,by omega,by omega,hd⟩ (by omega)
 ·have hge:i=l.length:=by have:=of_decide_eq_false hc;omega
  subst hge
  rw [List.drop_length]at hd
  refine KY (fun hlt=>?_) (fun hge=>?_)
  ·have hlt:l.length<l'.length:=by have:=of_decide_eq_true hlt;omega
   rw [List.drop_eq_getElem_cons hlt,Xv]at hd
   have:=H _ E
   rw [←hd]at this
   exact KI this
  ·have hge:l'.length=l.length:=by have:=of_decide_eq_false hge;omega
   rw [←hge,List.drop_length,Xv]at hd
   have:=H _ E
   rw [←hd]at this
   exact KI this
theorem KGM:∀(m:Nat) (a b:Vl) {h:Heap} {Q:Int→Heap→Prop} {x y:Array Value},sizeOf a<m→VRep h a x→VRep h b y→(∀h',Ext h h'→Q (cmpV a b) h')→(WC x y).wp h Q:=by
 intro m
 induction m with
 |zero=>intro a b h Q x y hm;omega
 |succ m ih=>
  rintro⟨k,n,s,l⟩ ⟨k',n',s',l'⟩ h Q x y hm hx hy H
  obtain⟨xs,rfl,k1,n1,s1,r1⟩:=VRep.eq.1 hx
  obtain⟨ys,rfl,k2,n2,s2,r2⟩:=VRep.eq.1 hy
  unfold WC
  refine ZV (fun h1 e1 z1 g1=>ZV (fun h2 e2 z2 g2=>?_))
  have g1':=e2.blk g1
  have E:=e1.trans e2
  have c0:KM h2 ((⟨h.size,0,none⟩:Addr).add 0)=some (.int .i64 k):=by rw [ZU g1'];rfl
  have c1:KM h2 ((⟨h.size,0,none⟩:Addr).add 1)=some (.int .i64 n):=by rw [ZU g1'];rfl
  have c2:KM h2 ((⟨h.size,0,none⟩:Addr).add 2)=some (.string (bs s)):=by rw [ZU g1'];rfl
  have c3:KM h2 ((⟨h.size,0,none⟩:Addr).add 3)=some xs.v:=by rw [ZU g1'];rfl
  have d0:KM h2 ((⟨h1.size,0,none⟩:Addr).add 0)=some (.int .i64 k'):=by rw [ZU g2];rfl
  have d1:KM h2 ((⟨h1.size,0,none⟩:Addr).add 1)=some (.int .i64 n'):=by rw [ZU g2];rfl
  have d2:KM h2 ((⟨h1.size,0,none⟩:Addr).add 2)=some (.string (bs s')):=by rw [ZU g2];rfl
  have d3:KM h2 ((⟨h1.size,0,none⟩:Addr).add 3)=some ys.v:=by rw [ZU g2];rfl
  refine ZC (n:=k) c0 (ZC (n:=k') d0 (ZC (n:=n) c1 (ZC (n:=n') d1 (Yh (n:=bs s) c2 (Yh (n:=bs s') d2 (Jm (n:=xs) c3 (Jm (n:=ys) d3 ?_)))))))
  refine KL (KFH (X5 ⟨c0,d0,c1,d1,c2,d2,c3,d3⟩ ?_))
  refine KL (KC0 (X5 ⟨c0,d0,c1,d1,c2,d2,c3,d3⟩ ?_))
  unfold Ww Z4
  refine KL (ZM (KI (X5 ⟨c0,d0,c1,d1,c2,d2,c3,d3⟩ ?_)))
  simp only [Vl.mk.sizeOf_spec]at hm
  refine KL (KB3 (r1.ext E) (r2.ext E) (fun j hj hj' h3 c c' Q1 e3 hv hv' hq=>?_) (fun h3 e3=>?_))
  ·refine KEa NS (Ns _ _) (ih _ _ ?_ hv hv' hq)
   have:=List.sizeOf_lt_of_mem (List.getElem_mem hj)
   omega
  ·refine Nh ?_
   have e4:=Ext.push h3 (.cells #[Value.int .i64 (cmpI k k'),.int .i64 (cmpI n n'),.int .i64 (Lib.compareBytes (bs s).data.toList (bs s').data.toList),.int .i64 (Xv l l')] VE)
   refine KL (KMl (zs:=[cmpI k k',cmpI n n',Lib.compareBytes s s',Xv l l']) (t:=VE) ?_ rfl (by simp) (KI ?_))
   ·exact ZH
   ·have:=H _ ((E.trans e3).trans e4)
    rw [cmpV]at this
    have hz:∀a:Int,cOr a 0=a:=fun a=>by unfold cOr;split<;>simp_all
    simpa [cOrs,hz] using this
theorem KFI {a b:Vl} {h:Heap} {Q:Int→Heap→Prop} {x y:Array Value} (hx:VRep h a x) (hy:VRep h b y) (H:∀h',Ext h h'→Q (cmpV a b) h'):(WC x y).wp h Q:=KGM _ a b (Nat.lt_succ_self _) hx hy H
end Gx
namespace Gx
open Go
theorem Zc (l:List UInt8):(bs l).size=l.length:=by simp [bs,ByteArray.size]
theorem bs_get? (l:List UInt8) (i:Nat):(bs l)[i]?=l[i]?:=by
 rcases Nat.lt_or_ge i l.length with h|h
 ·rw [List.getElem?_eq_getElem h]
  have:i<(bs l).size:=by rw [Zc];exact h
  rw [getElem?_pos (bs l) i this]
  rfl
 ·rw [List.getElem?_eq_none h]
  have:¬i<(bs l).size:=by rw [Zc];omega
  rw [getElem?_neg (bs l) i this]
theorem KGN (l:List UInt8):(bs l).toList=l:=by rw [ByteArray.toList_eq]
theorem KD9 (a b:List UInt8):sEq (bs a) (bs b)=decide (a=b):=by
 unfold sEq
 rw [KGN,KGN,Bool.eq_iff_iff]
 simp
theorem KMm:ByteArray.empty=bs []:=rfl
theorem NI {β:Type} {h:Heap} {Q:β→Heap→Prop} {l:List UInt8} {i:Nat} {t:Int} {f:Int→M β} (ht:t=(i:Int)) (hi:i<l.length) (H:(f (l[i].toNat:Int)).wp h Q):(ixS (bs l) t>>=f).wp h Q:=
 ⟨_,⟨by omega,l[i],by subst ht;rw [Int.toNat_natCast,bs_get?,List.getElem?_eq_getElem hi],rfl⟩,H⟩
theorem KFJ {β:Type} {h:Heap} {Q:β→Heap→Prop} {x:Sl} {l:List Vl} {i:Nat} {t:Int} {f:Addr→M β} (H:VsRep h x l) (hi:i<l.length) (ht:t=(i:Int))
  (hq:∀a c,c.size=4→(∀m,m<4→KM h (a.add m)=c[m]?)→VRep h l[i] c→(f a).wp h Q):(ixL x t 4>>=f).wp h Q:=by
 obtain⟨a,c,ha,hs,hcs,hv⟩:=H.get hi
 have:=H.len
 subst ht
 refine X6 (by omega) (by omega) ha (hq _ c hs (fun m hm=>?_) hv)
 rw [Addr.add_add,show(i:Int).toNat*4=i*4 by omega]
 exact hcs m hm
theorem Nz {a b:Int} {h:Heap} {Q:Int→Heap→Prop} (H:Q (cmpI a b) h):(Zw a b).wp h Q:=by
 unfold Zw
 unfold cmpI at H
 refine KY (fun hc=>?_) (fun hc=>?_)
 ·rw [if_pos (of_decide_eq_true hc)]at H;exact H
 ·rw [if_neg (of_decide_eq_false hc)]at H
  refine KY (fun hc=>?_) (fun hc=>?_)
  ·rw [if_pos (of_decide_eq_true hc)]at H;exact H
  ·rw [if_neg (of_decide_eq_false hc)]at H;exact H
theorem u8_lt_int {a b:UInt8}:(a<b)↔((a.toNat:Int)<(b.toNat:Int)):=by
 rw [UInt8.lt_iff_toNat_lt];omega
theorem Gi (a b:UInt8) (s t:List UInt8):Lib.compareBytes (a::s) (b::t)=if a=b then Lib.compareBytes s t else cmpI (a.toNat:Int) (b.toNat:Int):=by
 rw [Lib.compareBytes]
 unfold cmpI
 have h1:=@u8_lt_int a b
 have h2:=@u8_lt_int b a
 by_cases he:a=b
 ·subst he
  rw [if_pos rfl,if_neg (by rw [h1];omega),if_neg (by rw [h1];omega)]
 ·have hne:a.toNat≠b.toNat:=fun h=>he (UInt8.toNat_inj.1 h)
  rw [if_neg he]
  by_cases hlt:a<b
  ·rw [if_pos hlt,if_pos (h1.1 hlt)]
  ·rw [if_neg hlt,if_neg (fun h=>hlt (h1.2 h))]
   have:b<a:=by rw [h2];rw [h1]at hlt;omega
   rw [if_pos this,if_pos (h2.1 this)]
theorem KJT {s t:List UInt8} {h:Heap} {Q:Int→Heap→Prop} (hs:s.length≤9223372036854775807) (ht:t.length≤9223372036854775807) (H:Q (Lib.compareBytes s t) h):(VU (bs s) (bs t)).wp h Q:=by
 unfold VU
 refine M.loop_inv (fun(x:Int) h'=>h'=h∧∃i:Nat,x=(i:Int)∧i≤s.length∧i≤t.length∧Lib.compareBytes (s.drop i) (t.drop i)=Lib.compareBytes s t) (fun x _=>((s.length:Int) - x).toNat) ?_ ⟨rfl,0,rfl,Nat.zero_le _,Nat.zero_le _,by simp⟩
 rintro x h' ⟨rfl,i,rfl,hi,hi',hd⟩ self hself
 unfold Wa
 rw [Zc,Zc]
 have fin:¬(i<s.length∧i<t.length)→(Zw (s.length:Int) (t.length:Int)).wp h' (fun r h1=>(M.pure r:M Int).wp h1 Q):=fun hno=>by
  refine Nz (KI ?_)
  have:cmpI (s.length:Int) (t.length:Int)=Lib.compareBytes s t:=by
   rw [←hd]
   unfold cmpI
   rcases Nat.lt_or_ge i s.length with h1|h1
   ·have h2:i=t.length:=by omega
    subst h2
    rw [List.drop_eq_getElem_cons h1,List.drop_length,Lib.compareBytes,if_neg (by omega),if_pos (by omega)]
   ·have h2:i=s.length:=by omega
    subst h2
    rw [List.drop_length]
    rcases Nat.lt_or_ge s.length t.length with h3|h3
    ·rw [List.drop_eq_getElem_cons h3,Lib.compareBytes,if_pos (by omega)]
    ·have:t.length=s.length:=by omega
     rw [←this,List.drop_length,Lib.compareBytes,if_neg (by omega),if_neg (by omega)]
  rw [this]
  exact H
 refine KL (KY (fun h1=>?_) (fun h1=>?_))
 ·have h1:i<s.length:=by have:=of_decide_eq_true h1;omega
  refine KI (KY (fun h2=>?_) (fun h2=>?_))
  ·have h2:i<t.length:=by have:=of_decide_eq_true h2;omega
   rw [List.drop_eq_getElem_cons h1,List.drop_eq_getElem_cons h2,Gi]at hd
   refine NI rfl h1 (NI rfl h2 (KY (fun hne=>?_) (fun heq=>?_)))
   ·have hne:s[i]≠t[i]:=fun h=>by rw [h]at hne;simp at hne
    rw [if_neg hne]at hd
    have b1:=s[i].toNat_lt
    have b2:=t[i].toNat_lt
    refine NI rfl h1 (NI rfl h2 ?_)
    rw [w64 (by omega) (by omega),w64 (by omega) (by omega)]
    refine KL (Nz (KI ?_))
    rw [hd];exact H
   ·have heq':((s[i].toNat:Int))=t[i].toNat:=by simpa using heq
    have heq:s[i]=t[i]:=UInt8.toNat_inj.1 (by omega)
    rw [if_pos heq]at hd
    rw [w64 (by omega) (by omega)]
    exact hself _ _ ⟨rfl,i+1,by simp,by omega,by omega,hd⟩ (by omega)
  ·have h2:¬i<t.length:=by have:=of_decide_eq_false h2;omega
   exact KL (fin (fun h=>h2 h.2))
 ·have h1:¬i<s.length:=by have:=of_decide_eq_false h1;omega
  exact KI (iteF rfl (KL (fin (fun h=>h1 h.1))))
theorem KGO:∀(m:Nat) (a b:Vl) {h:Heap} {Q:Int→Heap→Prop} {x y:Array Value},sizeOf a<m→VRep h a x→VRep h b y→(∀h',Ext h h'→Q (cmpV a b) h')→(JD x y).wp h Q:=by
 intro m
 induction m with
 |zero=>intro a b h Q x y hm;omega
 |succ m ih=>
  rintro⟨k,n,s,l⟩ ⟨k',n',s',l'⟩ h Q x y hm hx hy H
  obtain⟨xs,rfl,k1,n1,s1,r1⟩:=VRep.eq.1 hx
  obtain⟨ys,rfl,k2,n2,s2,r2⟩:=VRep.eq.1 hy
  simp only [Vl.mk.sizeOf_spec]at hm
  have hxl:=r1.len
  have hyl:=r2.len
  have hxb:=r1.big
  have hyb:=r2.big
  have hxc:=r1.cap
  have hyc:=r2.cap
  unfold JD
  refine ZV (fun h1 e1 z1 g1=>ZV (fun h2 e2 z2 g2=>?_))
  have g1':=e2.blk g1
  have E:=e1.trans e2
  rw [cmpV]at H
  refine ZC (n:=k) (by rw [ZU g1'];rfl) (ZC (n:=k') (by rw [ZU g2];rfl) (KL (Nz ?_)))
  refine KY (fun hne=>?_) (fun heq=>?_)
  ·have hne:cmpI k k'≠0:=by simpa using hne
   have:=H _ E
   rw [cOr,if_neg hne]at this
   exact KI this
  have heq:cmpI k k'=0:=by simpa using heq
  rw [cOr,if_pos heq]at H
  refine ZC (n:=n) (by rw [ZU g1'];rfl) (ZC (n:=n') (by rw [ZU g2];rfl) (KL (Nz ?_)))
  refine KY (fun hne=>?_) (fun heq=>?_)
  ·have hne:cmpI n n'≠0:=by simpa using hne
   have:=H _ E
   rw [cOr,if_neg hne]at this
   exact KI this
  have heq:cmpI n n'=0:=by simpa using heq
  rw [cOr,if_pos heq]at H
  refine Yh (n:=bs s) (by rw [ZU g1'];rfl) (Yh (n:=bs s') (by rw [ZU g2];rfl) (KL (KJT s1 s2 ?_)))
  refine KY (fun hne=>?_) (fun heq=>?_)
  ·have hne:Lib.compareBytes s s'≠0:=by simpa using hne
   have:=H _ E
   rw [cOr,if_neg hne]at this
   exact KI this
  have heq:Lib.compareBytes s s'=0:=by simpa using heq
  rw [cOr,if_pos heq]at H
  refine M.loop_inv (fun(t:Int) h'=>Ext h2 h'∧∃i:Nat,t=(i:Int)∧i≤l.length∧i≤l'.length∧Xv (l.drop i) (l'.drop i)=Xv l l') (fun t _=>((l.length:Int) - t).toNat) ?_ ⟨Ext.refl h2,0,rfl,Nat.zero_le _,Nat.zero_le _,by simp⟩
  rintro t h' ⟨E',i,rfl,hi,hi',hd⟩ self hself
  have f1:=E'.blk g1'
  have f2:=E'.blk g2
  have c3:KM h' ((⟨h.size,0,none⟩:Addr).add 3)=some xs.v:=by rw [ZU f1];rfl
  have d3:KM h' ((⟨h1.size,0,none⟩:Addr).add 3)=some ys.v:=by rw [ZU f2];rfl
  have EE:=E.trans E'
  have fin:¬(i<l.length∧i<l'.length)→(ldL ((⟨h.size,0,none⟩:Addr).add 3)>>=fun Xx48=>ldL ((⟨h1.size,0,none⟩:Addr).add 3)>>=fun Xx49=>Zw (Xx48.len:Int) (Xx49.len:Int)>>=fun Xx50=>M.pure Xx50).wp h' Q:=fun hno=>by
   refine Jm (n:=xs) c3 (Jm (n:=ys) d3 (KL (Nz (KI ?_))))
   have:cmpI (xs.len:Int) (ys.len:Int)=Xv l l':=by
    rw [←hd,hxl,hyl]
    unfold cmpI
    rcases Nat.lt_or_ge i l.length with h1|h1
    ·have h2:i=l'.length:=by omega
     subst h2
     rw [List.drop_eq_getElem_cons h1,List.drop_length,Xv,if_neg (by omega),if_pos (by omega)]
    ·have h2:i=l.length:=by omega
     subst h2
     rw [List.drop_length]
     rcases Nat.lt_or_ge l.length l'.length with h3|h3
     ·rw [List.drop_eq_getElem_cons h3,Xv,if_pos (by omega)]
     ·have:l'.length=l.length:=by omega
      rw [←this,List.drop_length,Xv,if_neg (by omega),if_neg (by omega)]
   rw [this]
   exact H _ EE
  unfold Vh
  refine Jm (n:=xs) c3 (KL (KY (fun h3=>?_) (fun h3=>?_)))
  ·have h3:i<l.length:=by have:=of_decide_eq_true h3;omega
   refine Jm (n:=ys) d3 (KI (KY (fun h4=>?_) (fun h4=>?_)))
   ·have h4:i<l'.length:=by have:=of_decide_eq_true h4;omega
    rw [List.drop_eq_getElem_cons h3,List.drop_eq_getElem_cons h4,Xv]at hd
    refine Jm (n:=xs) c3 (KFJ (r1.ext EE) h3 rfl (fun a c hs hcs hv=>Xc hs hcs (Jm (n:=ys) d3 (KFJ (r2.ext EE) h4 rfl (fun a' c' hs' hcs' hv'=>Xc hs' hcs' ?_)))))
    refine KL (GI (Yl _ _) (ih _ _ ?_ hv hv' (fun h5 e5=>?_)))
    ·have:=List.sizeOf_lt_of_mem (List.getElem_mem h3)
     omega
    refine KY (fun hne=>?_) (fun heq=>?_)
    ·have hne:cmpV l[i] l'[i]≠0:=by simpa using hne
     rw [cOr,if_neg hne]at hd
     rw [hd]
     exact KI (H _ (EE.trans e5))
    ·have heq:cmpV l[i] l'[i]=0:=by simpa using heq
     rw [cOr,if_pos heq]at hd
     rw [w64 (by omega) (by omega)]
     exact hself _ _ ⟨E'.trans e5,i+1,by simp,by omega,by omega,hd⟩ (by omega)
   ·have h4:¬i<l'.length:=by have:=of_decide_eq_false h4;omega
    exact fin (fun h=>h4 h.2)
  ·have h3:¬i<l.length:=by have:=of_decide_eq_false h3;omega
   exact KI (iteF rfl (fin (fun h=>h3 h.1)))
theorem KAo {a b:Vl} {h:Heap} {Q:Int→Heap→Prop} {x y:Array Value} (hx:VRep h a x) (hy:VRep h b y) (H:∀h',Ext h h'→Q (cmpV a b) h'):(JD x y).wp h Q:=KGO _ a b (Nat.lt_succ_self _) hx hy H
theorem KJU {β:Type} {h:Heap} {Q:β→Heap→Prop} {b:Nat} {t:TypeId} {z:Nat×Nat} {v:Vl} {cs:Array Value} {f:Array Value→M β} (hb:h[b]?=some (.cells cs t z)) (hv:cs.size=4) (H:(f cs).wp h Q):(ldG 4 ⟨b,0,none⟩>>=f).wp h Q:=
 Xc hv (fun i _=>by rw [ZU hb]) H
theorem KJV {a b:Vl} {h:Heap} {Q:Bool→Heap→Prop} {x y:Array Value} (hx:VRep h a x) (hy:VRep h b y) (H:∀h',Ext h h'→Q (decide (cmpV a b=0)) h'):(VW x y).wp h Q:=by
 unfold VW
 refine ZV (fun h1 e1 z1 g1=>ZV (fun h2 e2 z2 g2=>?_))
 have E:=e1.trans e2
 refine KJU (v:=a) (e2.blk g1) hx.size (KJU (v:=b) g2 hy.size (KL (KAo (hx.ext E) (hy.ext E) (fun h3 e3=>KI ?_))))
 have:=H _ (E.trans e3)
 rwa [show(cmpV a b==0)=decide (cmpV a b=0)from rfl]
end Gx
namespace Gx
open Go
def N0:List Vl→Bool
 |a::_::c::r=>decide (cmpV a c<0)&&N0 (c::r)
 |_=>true
def KC1 (s:List UInt8) (l:List Vl):Bool:=decide (s=[])&&l.isEmpty
def mayV:Nat→Vl→Bool
 |0,_=>false
 |d+1,.mk k n s l=>
  if k=1 then KC1 s l
  else if k=3 then KC1 s l&&(decide (n=0)||decide (n=1))
  else if k=6∨k=7 then KC1 s l&&decide (1≤n)&&decide (n≤281474976710656)
  else if k=2 then decide (n=0)&&l.isEmpty&&decide (s.length≤128)
  else if k=4 then decide (l.length≤256)&&(decide (n=0)&&decide (s=[])&&l.all (mayV d))
  else if k=5 then decide (l.length≤512)&&decide (l.length%2=0)&&N0 l&&(decide (n=0)&&decide (s=[])&&l.all (mayV d))
  else false
theorem Wf {β:Type} {h:Heap} {Q:β→Heap→Prop} {b c:Bool} {m:M Bool} {f:Bool→M β} (hm:b=true→∀Q':Bool→Heap→Prop,Q' c h→m.wp h Q') (H:(f (b&&c)).wp h Q):(M.ite b m (M.pure false)>>=f).wp h Q:=by
 cases b with
 |true=>exact hm rfl _ H
 |false=>exact H
theorem or_b {β:Type} {h:Heap} {Q:β→Heap→Prop} {b c:Bool} {m:M Bool} {f:Bool→M β} (hm:b=false→∀Q':Bool→Heap→Prop,Q' c h→m.wp h Q') (H:(f (b||c)).wp h Q):(M.ite b (M.pure true) m>>=f).wp h Q:=by
 cases b with
 |true=>exact H
 |false=>exact hm rfl _ H
theorem len0 {n:Nat} {l:List Vl} (h:n=l.length):((n:Int)==0)=l.isEmpty:=by
 subst h
 cases l with
 |nil=>rfl
 |cons a l=>simp;omega
theorem sEq0 (s:List UInt8):sEq (bs s) ByteArray.empty=decide (s=[]):=by rw [KMm,KD9]
theorem eqI (a b:Int):(a==b)=decide (a=b):=rfl
theorem KDu {h:Heap} {Q:Bool→Heap→Prop} {x:Sl} {l:List Vl} {g:Value} {p:Vl→Bool} (hx:VsRep h x l)
  (hg:∀j (hj:j<l.length) h1 c (Q1:Bool→Heap→Prop),Ext h h1→VRep h1 l[j] c→(∀h2,Ext h1 h2→Q1 (p l[j]) h2)→(X4 Go.Proofs.Tryz.prog (fun r:Bool=>.bool r) g [.agg c]).wp h1 Q1)
  (H:∀h',Ext h h'→Q (l.any p) h'):(Ko x g).wp h Q:=by
 unfold Ko ZT
 have hxl:=hx.len
 have hxb:=hx.big
 have hxc:=hx.cap
 refine KL (M.loop_inv (fun(t:Int) h'=>Ext h h'∧∃i:Nat,t=(i:Int)∧i≤l.length∧(l.drop i).any p=l.any p) (fun t _=>((l.length:Int) - t).toNat) ?_ ⟨Ext.refl h,0,rfl,Nat.zero_le _,by simp⟩)
 rintro t h' ⟨E,i,rfl,hi,hd⟩ self hself
 unfold Zp
 refine KY (fun hc=>?_) (fun hc=>?_)
 ·have hlt:i<l.length:=by have:=of_decide_eq_true hc;omega
  rw [List.drop_eq_getElem_cons hlt,List.any_cons]at hd
  refine KFJ (hx.ext E) hlt rfl (fun a c hs hcs hv=>Xc hs hcs (KL (hg i hlt h' c _ E hv (fun h2 e2=>?_))))
  refine KY (fun ht=>KI (KI ?_)) (fun hf=>?_)
  ·rw [ht]at hd
   rw [show decide ((i:Int)≥0)=l.any p by rw [←hd];simp]
   exact H _ (E.trans e2)
  ·rw [hf,Bool.false_or]at hd
   rw [w64 (by omega) (by omega)]
   exact hself _ _ ⟨E.trans e2,i+1,by simp,by omega,hd⟩ (by omega)
 ·have hge:i=l.length:=by have:=of_decide_eq_false hc;omega
  subst hge
  rw [List.drop_length]at hd
  refine KI (KI ?_)
  rw [show decide ((-1:Int)≥0)=l.any p by rw [←hd];rfl]
  exact H _ E
theorem KEA {l:List Vl} {i:Nat} (h2:2≤i) (hi:i<l.length):N0 (l.drop (i - 2))=(decide (cmpV (l[i - 2]'(by omega)) l[i]<0)&&N0 (l.drop i)):=by
 rw [List.drop_eq_getElem_cons (show i - 2<l.length by omega),List.drop_eq_getElem_cons (show i - 2+1<l.length by omega)]
 have e:i - 2+1+1=i:=by omega
 simp only [e]
 rw [List.drop_eq_getElem_cons hi,N0]
theorem KGP {l:List Vl} {i:Nat} (h2:2≤i) (hi:l.length≤i):N0 (l.drop (i - 2))=true:=by
 have hl:(l.drop (i - 2)).length≤2:=by rw [List.length_drop];omega
 match h:l.drop (i - 2),hl with
 | [],_=>rfl
 | [_],_=>rfl
 | [_,_],_=>rfl
theorem KPE (l:List Vl) (p:Vl→Bool):(!l.any fun x=>!p x)=l.all p:=by
 induction l with
 |nil=>rfl
 |cons a l ih=>simp [List.any_cons,List.all_cons,←ih]
theorem KKv:∀(d:Nat) (v:Vl) {h:Heap} {Q:Bool→Heap→Prop} {x:Array Value},d≤8→VRep h v x→(∀h',Ext h h'→Q (mayV d v) h')→(Xo x ((9 - d:Nat):Int)).wp h Q:=by
 intro d
 induction d with
 |zero=>
  rintro v h Q x _ hx H
  unfold Xo
  refine ZV (fun h1 e1 z1 g1=>ZV (fun h2 e2 z2 g2=>?_))
  refine ZC (n:=((9 - 0:Nat):Int)) (by rw [show(⟨h1.size,0,none⟩:Addr)=(⟨h1.size,0,none⟩:Addr).add 0 from rfl,ZU g2];rfl) (iteT rfl (KI (H _ (e1.trans e2))))
 |succ d ih=>
  rintro⟨k,n,s,l⟩ h Q x hd hx H
  obtain⟨xs,rfl,k1,n1,s1,r1⟩:=VRep.eq.1 hx
  have hxl:=r1.len
  have hxb:=r1.big
  have hxc:=r1.cap
  unfold Xo
  refine ZV (fun h1 e1 z1 g1=>ZV (fun h2 e2 z2 g2=>?_))
  have g1':=e2.blk g1
  have E:=e1.trans e2
  have c0:KM h2 ((⟨h.size,0,none⟩:Addr).add 0)=some (.int .i64 k):=by rw [ZU g1'];rfl
  have c1:KM h2 ((⟨h.size,0,none⟩:Addr).add 1)=some (.int .i64 n):=by rw [ZU g1'];rfl
  have c2:KM h2 ((⟨h.size,0,none⟩:Addr).add 2)=some (.string (bs s)):=by rw [ZU g1'];rfl
  have c3:KM h2 ((⟨h.size,0,none⟩:Addr).add 3)=some xs.v:=by rw [ZU g1'];rfl
  have cd:KM h2 ⟨h1.size,0,none⟩=some (.int .i64 ((9 - (d+1):Nat):Int)):=by rw [show(⟨h1.size,0,none⟩:Addr)=(⟨h1.size,0,none⟩:Addr).add 0 from rfl,ZU g2];rfl
  have H2:Q (mayV (d+1) (.mk k n s l)) h2:=H _ E
  unfold mayV at H H2
  refine ZC cd (iteF (by simp;omega) (Yh c2 (Wf (c:=l.isEmpty) (fun _ Q' hq=>Jm c3 (KI (by rw [len0 hxl];exact hq))) ?_)))
  rw [sEq0]
  have hb:(decide (s=[])&&l.isEmpty)=KC1 s l:=rfl
  rw [hb]
  have tail:(∀h',Ext h h'→Q (decide (n=0)&&decide (s=[])&&l.all (mayV d)) h')→∀h3,Ext h2 h3→(Yp ⟨h.size,0,none⟩ ⟨h1.size,0,none⟩).wp h3 Q:=fun HT h3 e3=>by
   unfold Yp
   refine ZC (e3.cell c1) (Wf (c:=decide (s=[])) (fun _ Q' hq=>Yh (e3.cell c2) (KI (by rw [sEq0];exact hq))) ?_)
   rw [eqI]
   cases hns:(decide (n=0)&&decide (s=[]))with
   |false=>
    have:=HT h3 (E.trans e3)
    rw [hns]at this
    exact ZM (KI this)
   |true=>
    rw [hns]at HT
    refine KL (iteT rfl (Jm (e3.cell c3) (KL (KDu (p:=fun x=>!mayV d x) (r1.ext (E.trans e3)) (fun j hj h4 c Q1 e4 hv hq=>?_) (fun h4 e4=>KI (KI ?_))))))
    ·refine KEa KDp (KFD _ _) ?_
     unfold KCy
     refine ZV (fun h5 e5 z5 g5=>KJU (v:=l[j]) g5 hv.size (ZC (e5.cell (e4.cell (e3.cell cd))) ?_))
     rw [show IntKind.wrap .i64 (((9 - (d+1):Nat):Int)+1)=((9 - d:Nat):Int) by rw [w64 (by omega) (by omega)];omega]
     exact KL (ih _ (by omega) (hv.ext e5) (fun h6 e6=>KI (hq _ (e5.trans e6))))
    ·rw [KPE]
     exact HT _ ((E.trans e3).trans e4)
  refine ZC c0 (KY (fun h1k=>?_) (fun h1k=>?_))
  ·have h1k:k=1:=by simpa using h1k
   rw [if_pos h1k]at H2
   exact KI H2
  have h1k:¬k=1:=by simpa using h1k
  rw [if_neg h1k]at H2
  simp only [if_neg h1k]at H
  refine KY (fun h3k=>?_) (fun h3k=>?_)
  ·have h3k:k=3:=by simpa using h3k
   rw [if_pos h3k]at H2
   refine Wf (c:=(decide (n=0)||decide (n=1))) (fun _ Q' hq=>ZC c1 (or_b (c:=decide (n=1)) (fun _ Q'' hq'=>ZC c1 (KI hq')) (KI hq))) (KI H2)
  have h3k:¬k=3:=by simpa using h3k
  rw [if_neg h3k]at H2
  simp only [if_neg h3k]at H
  have j2:(Yq ⟨h.size,0,none⟩ ⟨h1.size,0,none⟩ (KC1 s l) k (decide (k=6∨k=7))).wp h2 Q:=by
   unfold Yq
   refine KY (fun h67=>?_) (fun h67=>?_)
   ·rw [if_pos (of_decide_eq_true h67)]at H2
    refine Wf (c:=decide (1≤n)) (fun _ Q' hq=>ZC c1 (KI hq)) (Wf (c:=decide (n≤281474976710656)) (fun _ Q' hq=>ZC c1 (KI hq)) (KI H2))
   rw [if_neg (of_decide_eq_false h67)]at H2
   simp only [if_neg (of_decide_eq_false h67)]at H
   refine KY (fun h2k=>?_) (fun h2k=>?_)
   ·have h2k:k=2:=by simpa using h2k
    rw [if_pos h2k]at H2
    refine ZC c1 (Wf (c:=l.isEmpty) (fun _ Q' hq=>Jm c3 (KI (by rw [len0 hxl];exact hq))) (Wf (c:=decide (s.length≤128)) (fun _ Q' hq=>Yh c2 (KI (by rw [show decide (((bs s).size:Int)≤128)=decide (s.length≤128) by rw [Zc,Bool.eq_iff_iff];simp only [decide_eq_true_eq];omega];exact hq))) (KI ?_)))
    exact H2
   have h2k:¬k=2:=by simpa using h2k
   rw [if_neg h2k]at H2
   simp only [if_neg h2k]at H
   refine KY (fun h4k=>?_) (fun h4k=>?_)
   ·have h4k:k=4:=by simpa using h4k
    rw [if_pos h4k]at H2
    simp only [if_pos h4k]at H
    refine Jm c3 (KY (fun hbig=>?_) (fun hsm=>?_))
    ·have:¬l.length≤256:=by have:=of_decide_eq_true hbig;omega
     rw [decide_eq_false this,Bool.false_and]at H2
     exact KI H2
    ·have:l.length≤256:=by have:=of_decide_eq_false hsm;omega
     simp only [decide_eq_true this,Bool.true_and]at H
     exact tail H h2 (Ext.refl _)
   have h4k:¬k=4:=by simpa using h4k
   rw [if_neg h4k]at H2
   simp only [if_neg h4k]at H
   refine KY (fun h5k=>?_) (fun h5k=>?_)
   ·have h5k:k=5:=by simpa using h5k
    rw [if_pos h5k]at H2
    simp only [if_pos h5k]at H
    have hodd:((Int.tmod (xs.len:Int) 2)==1)=!decide (l.length%2=0):=by
     rw [hxl,Int.tmod_eq_emod_of_nonneg (by omega),Bool.eq_iff_iff]
     simp
     omega
    refine Jm c3 (or_b (c:=!decide (l.length%2=0)) (fun _ Q' hq=>Jm c3 (KI (by rw [hodd];exact hq))) ?_)
    have hbig:decide ((xs.len:Int)>512)=!decide (l.length≤512):=by
     rw [hxl,Bool.eq_iff_iff];simp;omega
    rw [hbig]
    cases h512:decide (l.length≤512)with
    |false=>rw [h512]at H2;exact iteT rfl (KI (by simpa using H2))
    |true=>
     cases heven:decide (l.length%2=0)with
     |false=>rw [h512,heven]at H2;exact iteT rfl (KI (by simpa using H2))
     |true=>
      simp only [h512,heven,Bool.true_and]at H
      refine iteF rfl ?_
      refine M.loop_inv (fun(t:Int) h'=>Ext h2 h'∧∃i:Nat,t=(i:Int)∧2≤i∧i≤l.length+2∧N0 (l.drop (i - 2))=N0 l) (fun t _=>((l.length:Int)+2 - t).toNat) ?_ ⟨Ext.refl h2,2,rfl,Nat.le_refl _,by omega,by simp⟩
      rintro t h' ⟨E',i,rfl,hi2,hi,hd'⟩ self hself
      unfold Nt
      have hl512:=of_decide_eq_true h512
      refine Jm (E'.cell c3) (KY (fun hc=>?_) (fun hc=>?_))
      ·have hlt:i<l.length:=by have:=of_decide_eq_true hc;omega
       rw [KEA hi2 hlt]at hd'
       have EE:=E.trans E'
       refine Jm (E'.cell c3) (KFJ (i:=i - 2) (r1.ext EE) (by omega) (by rw [w64 (by omega) (by omega)];omega) (fun a c hs hcs hv=>Xc hs hcs (Jm (E'.cell c3) (KFJ (r1.ext EE) hlt rfl (fun a' c' hs' hcs' hv'=>Xc hs' hcs' ?_)))))
       refine KL (KFI hv hv' (fun h3 e3=>?_))
       refine KY (fun hge=>?_) (fun hlt'=>?_)
       ·have hge:¬cmpV (l[i - 2]'(by omega)) l[i]<0:=by have:=of_decide_eq_true hge;omega
        rw [decide_eq_false hge,Bool.false_and]at hd'
        have:=H _ (EE.trans e3)
        rw [←hd',Bool.false_and]at this
        exact KI this
       ·have hlt':cmpV (l[i - 2]'(by omega)) l[i]<0:=by have:=of_decide_eq_false hlt';omega
        rw [decide_eq_true hlt',Bool.true_and]at hd'
        rw [w64 (by omega) (by omega)]
        exact hself _ _ ⟨E'.trans e3,i+2,by simp,by omega,by omega,by simpa using hd'⟩ (by omega)
      ·have hge:l.length≤i:=by have:=of_decide_eq_false hc;omega
       rw [KGP hi2 hge]at hd'
       refine tail (fun h3 e3=>?_) h' E'
       have:=H h3 e3
       rw [←hd',Bool.true_and]at this
       exact this
   ·have h5k:¬k=5:=by simpa using h5k
    rw [if_neg h5k]at H2
    exact KI H2
  refine KY (fun h6k=>?_) (fun h6k=>?_)
  ·have h6k:k=6:=by simpa using h6k
   have e:(k==6)=decide (k=6∨k=7):=by subst h6k;rfl
   rw [e]
   exact j2
  ·have h6k:¬k=6:=by simpa using h6k
   have e:(k==7)=decide (k=6∨k=7):=by rw [eqI,Bool.eq_iff_iff];simp [h6k]
   rw [e]
   exact j2
def KBj (v:Vl):Int:=if mayV 8 v=true then 0 else 20
theorem KC2 {v:Vl} {h:Heap} {Q:Int→Heap→Prop} {x:Array Value} (hx:VRep h v x) (H:∀h',Ext h h'→Q (KBj v) h'):(YR x).wp h Q:=by
 unfold YR
 refine ZV (fun h1 e1 z1 g1=>KJU (v:=v) g1 hx.size (KL (KKv 8 v (Nat.le_refl _) (hx.ext e1) (fun h2 e2=>?_))))
 have:=H _ (e1.trans e2)
 unfold KBj at this
 cases hm:mayV 8 v with
 |true=>rw [hm,if_pos rfl]at this;exact iteF rfl (KI this)
 |false=>rw [hm,if_neg (by simp)]at this;exact iteT rfl (KI this)
end Gx
namespace Gx
open Go
theorem KHR {l:List Vl} {h:Heap} {Q:Bool→Heap→Prop} {x:Sl} (hx:VsRep h x l) (hb:l.length≤9223372036854775000) (H:∀h',Ext h h'→Q (N0 l) h'):(U0 x).wp h Q:=by
 unfold U0
 have hxl:=hx.len
 refine M.loop_inv (fun(t:Int) h'=>Ext h h'∧∃i:Nat,t=(i:Int)∧2≤i∧i≤l.length+2∧N0 (l.drop (i - 2))=N0 l) (fun t _=>((l.length:Int)+2 - t).toNat) ?_ ⟨Ext.refl h,2,rfl,Nat.le_refl _,by omega,by simp⟩
 rintro t h' ⟨E,i,rfl,hi2,hi,hd'⟩ self hself
 unfold WM
 rw [hxl]
 refine KY (fun hc=>?_) (fun hc=>?_)
 ·have hlt:i<l.length:=by have:=of_decide_eq_true hc;omega
  rw [KEA hi2 hlt]at hd'
  refine KFJ (i:=i - 2) (hx.ext E) (by omega) (by rw [w64 (by omega) (by omega)];omega) (fun a c hs hcs hv=>KFJ (hx.ext E) hlt rfl (fun a' c' hs' hcs' hv'=>Xc hs hcs (Xc hs' hcs' ?_)))
  refine KL (KAo hv hv' (fun h3 e3=>?_))
  refine KY (fun hge=>?_) (fun hlt'=>?_)
  ·have hge:¬cmpV (l[i - 2]'(by omega)) l[i]<0:=by have:=of_decide_eq_true hge;omega
   rw [decide_eq_false hge,Bool.false_and]at hd'
   have:=H _ (E.trans e3)
   rw [←hd']at this
   exact KI this
  ·have hlt':cmpV (l[i - 2]'(by omega)) l[i]<0:=by have:=of_decide_eq_false hlt';omega
   rw [decide_eq_true hlt',Bool.true_and]at hd'
   rw [w64 (by omega) (by omega)]
   exact hself _ _ ⟨E.trans e3,i+2,by simp,by omega,by omega,by simpa using hd'⟩ (by omega)
 ·have hge:l.length≤i:=by have:=of_decide_eq_false hc;omega
  rw [KGP hi2 hge]at hd'
  have:=H _ E
  rw [←hd']at this
  exact KI this
theorem KKw {d:Nat} (hd:d≤7) {l:List Vl} {h:Heap} {Q:Bool→Heap→Prop} {x:Sl} (hx:VsRep h x l)
  (hg:∀j (hj:j<l.length) h1 c (Q1:Bool→Heap→Prop),Ext h h1→VRep h1 l[j] c→(∀h2,Ext h1 h2→Q1 (mayV d l[j]) h2)→(UN c ((8 - d:Nat):Int)).wp h1 Q1)
  (H:∀h',Ext h h'→Q (l.all (mayV d)) h'):(Xq x ((8 - (d+1):Nat):Int)).wp h Q:=by
 unfold Xq
 have hxl:=hx.len
 have hxb:=hx.big
 have hxc:=hx.cap
 refine M.loop_inv (fun(t:Int) h'=>Ext h h'∧∃i:Nat,t=(i:Int)∧i≤l.length∧(l.drop i).all (mayV d)=l.all (mayV d)) (fun t _=>((l.length:Int) - t).toNat) ?_ ⟨Ext.refl h,0,rfl,Nat.zero_le _,by simp⟩
 rintro t h' ⟨E,i,rfl,hi,hd'⟩ self hself
 unfold Wx
 rw [hxl]
 refine KY (fun hc=>?_) (fun hc=>?_)
 ·have hlt:i<l.length:=by have:=of_decide_eq_true hc;omega
  rw [List.drop_eq_getElem_cons hlt,List.all_cons]at hd'
  refine KFJ (hx.ext E) hlt rfl (fun a c hs hcs hv=>Xc hs hcs ?_)
  rw [show IntKind.wrap .i64 (((8 - (d+1):Nat):Int)+1)=((8 - d:Nat):Int) by rw [w64 (by omega) (by omega)];omega]
  refine KL (GI (GZ _ _) (hg i hlt h' c _ E hv (fun h2 e2=>?_)))
  refine KY (fun hf=>?_) (fun ht=>?_)
  ·have hf:mayV d l[i]=false:=by simpa using hf
   rw [hf,Bool.false_and]at hd'
   have:=H _ (E.trans e2)
   rw [←hd']at this
   exact KI this
  ·have ht:mayV d l[i]=true:=by simpa using ht
   rw [ht,Bool.true_and]at hd'
   rw [w64 (by omega) (by omega)]
   exact hself _ _ ⟨E.trans e2,i+1,by simp,by omega,hd'⟩ (by omega)
 ·have hge:i=l.length:=by have:=of_decide_eq_false hc;omega
  subst hge
  rw [List.drop_length]at hd'
  have:=H _ E
  rw [←hd']at this
  exact KI this
theorem KKx:∀(d:Nat) (v:Vl) {h:Heap} {Q:Bool→Heap→Prop} {x:Array Value},d≤8→VRep h v x→(∀h',Ext h h'→Q (mayV d v) h')→(UN x ((8 - d:Nat):Int)).wp h Q:=by
 intro d
 induction d with
 |zero=>
  rintro v h Q x _ hx H
  unfold UN
  exact ZV (fun h1 e1 z1 g1=>iteT rfl (KI (H _ e1)))
 |succ d ih=>
  rintro⟨k,n,s,l⟩ h Q x hd hx H
  obtain⟨xs,rfl,k1,n1,s1,r1⟩:=VRep.eq.1 hx
  have hxl:=r1.len
  have hxb:=r1.big
  have hxc:=r1.cap
  unfold UN
  refine ZV (fun h1 E z1 g1=>?_)
  have c0:KM h1 ((⟨h.size,0,none⟩:Addr).add 0)=some (.int .i64 k):=by rw [ZU g1];rfl
  have c1:KM h1 ((⟨h.size,0,none⟩:Addr).add 1)=some (.int .i64 n):=by rw [ZU g1];rfl
  have c2:KM h1 ((⟨h.size,0,none⟩:Addr).add 2)=some (.string (bs s)):=by rw [ZU g1];rfl
  have c3:KM h1 ((⟨h.size,0,none⟩:Addr).add 3)=some xs.v:=by rw [ZU g1];rfl
  have H2:Q (mayV (d+1) (.mk k n s l)) h1:=H _ E
  unfold mayV at H H2
  have bare:∀{β:Type} {Q':β→Heap→Prop} {f:Bool→M β},(f (KC1 s l)).wp h1 Q'→(ldS ((⟨h.size,0,none⟩:Addr).add 2)>>=fun x=>M.ite (sEq x ByteArray.empty) (ldL ((⟨h.size,0,none⟩:Addr).add 3)>>=fun y=>M.pure ((y.len:Int)==0)) (M.pure false)>>=f).wp h1 Q':=fun hq=>by
   refine Yh c2 (Wf (c:=l.isEmpty) (fun _ Q' hq=>Jm c3 (KI (by rw [len0 hxl];exact hq))) ?_)
   rw [sEq0]
   exact hq
  have all:∀{Q':Bool→Heap→Prop},(∀h',Ext h1 h'→Q' (l.all (mayV d)) h')→(ldL ((⟨h.size,0,none⟩:Addr).add 3)>>=fun y=>X3 Go.Proofs.Tryz.prog Ub #[y.v,.int .i64 ((8 - (d+1):Nat):Int)] (fun r:Bool=>.bool r)>>=fun r=>M.pure r).wp h1 Q':=fun hq=>
   Jm c3 (KL (GI (KBK _ _) (KKw (by omega) (r1.ext E) (fun j hj h4 c Q1 e4 hv hq'=>ih _ (by omega) hv hq') (fun h2 e2=>KI (hq _ e2)))))
  refine iteF (by simp;omega) (ZC c0 (KY (fun h1k=>?_) (fun h1k=>?_)))
  ·have h1k:k=1:=by simpa using h1k
   rw [if_pos h1k]at H2
   exact bare (KI H2)
  have h1k:¬k=1:=by simpa using h1k
  rw [if_neg h1k]at H2
  simp only [if_neg h1k]at H
  refine KY (fun h3k=>?_) (fun h3k=>?_)
  ·have h3k:k=3:=by simpa using h3k
   rw [if_pos h3k]at H2
   refine bare (Wf (c:=(decide (n=0)||decide (n=1))) (fun _ Q' hq=>ZC c1 (or_b (c:=decide (n=1)) (fun _ Q'' hq'=>ZC c1 (KI hq')) (KI hq))) (KI H2))
  have h3k:¬k=3:=by simpa using h3k
  rw [if_neg h3k]at H2
  simp only [if_neg h3k]at H
  have j2:(Ue ((8 - (d+1):Nat):Int) ⟨h.size,0,none⟩ k (decide (k=6∨k=7))).wp h1 Q:=by
   unfold Ue
   refine KY (fun h67=>?_) (fun h67=>?_)
   ·rw [if_pos (of_decide_eq_true h67)]at H2
    exact bare (Wf (c:=decide (1≤n)) (fun _ Q' hq=>ZC c1 (KI hq)) (Wf (c:=decide (n≤281474976710656)) (fun _ Q' hq=>ZC c1 (KI hq)) (KI H2)))
   rw [if_neg (of_decide_eq_false h67)]at H2
   simp only [if_neg (of_decide_eq_false h67)]at H
   refine KY (fun h2k=>?_) (fun h2k=>?_)
   ·have h2k:k=2:=by simpa using h2k
    rw [if_pos h2k]at H2
    refine ZC c1 (Wf (c:=l.isEmpty) (fun _ Q' hq=>Jm c3 (KI (by rw [len0 hxl];exact hq))) (Wf (c:=decide (s.length≤128)) (fun _ Q' hq=>Yh c2 (KI (by rw [show decide (((bs s).size:Int)≤128)=decide (s.length≤128) by rw [Zc,Bool.eq_iff_iff];simp only [decide_eq_true_eq];omega];exact hq))) (KI ?_)))
    exact H2
   have h2k:¬k=2:=by simpa using h2k
   rw [if_neg h2k]at H2
   simp only [if_neg h2k]at H
   have zero:∀{β:Type} {Q':β→Heap→Prop} {f:Bool→M β},(f (decide (n=0)&&decide (s=[]))).wp h1 Q'→(ldI .i64 ((⟨h.size,0,none⟩:Addr).add 1)>>=fun x=>M.ite (x==0) (ldS ((⟨h.size,0,none⟩:Addr).add 2)>>=fun y=>M.pure (sEq y ByteArray.empty)) (M.pure false)>>=f).wp h1 Q':=fun hq=>
    ZC c1 (Wf (c:=decide (s=[])) (fun _ Q' hq=>Yh c2 (KI (by rw [sEq0];exact hq))) hq)
   refine KY (fun h4k=>?_) (fun h4k=>?_)
   ·have h4k:k=4:=by simpa using h4k
    rw [if_pos h4k]at H2
    simp only [if_pos h4k]at H
    refine zero (Wf (c:=decide (l.length≤256)) (fun _ Q' hq=>Jm c3 (KI (by rw [show decide ((xs.len:Int)≤256)=decide (l.length≤256) by rw [hxl,Bool.eq_iff_iff];simp only [decide_eq_true_eq];omega];exact hq))) ?_)
    cases hz:(decide (n=0)&&decide (s=[]))with
    |false=>
     rw [hz]at H2
     exact ZM (KI (by simpa using H2))
    |true=>
     cases hl:decide (l.length≤256)with
     |false=>rw [hl]at H2;exact ZM (KI (by simpa using H2))
     |true=>
      simp only [hz,hl,Bool.true_and]at H
      exact KL (iteT rfl (all (fun h2 e2=>KI (H _ (E.trans e2)))))
   have h4k:¬k=4:=by simpa using h4k
   rw [if_neg h4k]at H2
   simp only [if_neg h4k]at H
   refine KY (fun h5k=>?_) (fun h5k=>?_)
   ·have h5k:k=5:=by simpa using h5k
    rw [if_pos h5k]at H2
    simp only [if_pos h5k]at H
    have heven:((Int.tmod (xs.len:Int) 2)==0)=decide (l.length%2=0):=by
     rw [hxl,Int.tmod_eq_emod_of_nonneg (by omega),Bool.eq_iff_iff]
     simp
     omega
    refine zero (Wf (c:=decide (l.length≤512)) (fun _ Q' hq=>Jm c3 (KI (by rw [show decide ((xs.len:Int)≤512)=decide (l.length≤512) by rw [hxl,Bool.eq_iff_iff];simp only [decide_eq_true_eq];omega];exact hq))) ?_)
    refine Wf (c:=decide (l.length%2=0)) (fun _ Q' hq=>Jm c3 (KI (by rw [heven];exact hq))) ?_
    cases hz:(decide (n=0)&&decide (s=[]))with
    |false=>
     rw [hz]at H2
     exact ZM (ZM (KI (by simpa using H2)))
    |true=>
     cases hl:decide (l.length≤512)with
     |false=>rw [hl]at H2;exact ZM (ZM (KI (by simpa using H2)))
     |true=>
      cases hev:decide (l.length%2=0)with
      |false=>rw [hev]at H2;exact ZM (ZM (KI (by simpa using H2)))
      |true=>
       simp only [hz,hl,hev,Bool.true_and]at H
       refine KL (iteT rfl (all (fun h2 e2=>?_)))
       cases ha:l.all (mayV d)with
       |false=>
        have:=H _ (E.trans e2)
        rw [ha,Bool.and_false]at this
        exact ZM (KI this)
       |true=>
        refine KL (iteT rfl (Jm (e2.cell c3) (KL (KHR (r1.ext (E.trans e2)) (by have:=of_decide_eq_true hl;omega) (fun h3 e3=>KI (KI ?_))))))
        have:=H _ ((E.trans e2).trans e3)
        rw [ha,Bool.and_true]at this
        exact this
   ·have h5k:¬k=5:=by simpa using h5k
    rw [if_neg h5k]at H2
    exact KI H2
  refine KY (fun h6k=>?_) (fun h6k=>?_)
  ·have h6k:k=6:=by simpa using h6k
   have e:(k==6)=decide (k=6∨k=7):=by subst h6k;rfl
   rw [e]
   exact j2
  ·have h6k:¬k=6:=by simpa using h6k
   have e:(k==7)=decide (k=6∨k=7):=by rw [eqI,Bool.eq_iff_iff];simp [h6k]
   rw [e]
   exact j2
theorem KHS {v:Vl} {h:Heap} {Q:Int→Heap→Prop} {x:Array Value} (hx:VRep h v x) (H:∀h',Ext h h'→Q (KBj v) h'):(U1 x).wp h Q:=by
 unfold U1
 refine ZV (fun h1 e1 z1 g1=>KJU (v:=v) g1 hx.size (KL (KKx 8 v (Nat.le_refl _) (hx.ext e1) (fun h2 e2=>?_))))
 have:=H _ (e1.trans e2)
 unfold KBj at this
 cases hm:mayV 8 v with
 |true=>rw [hm,if_pos rfl]at this;exact iteF rfl (KI this)
 |false=>rw [hm,if_neg (by simp)]at this;exact iteT rfl (KI this)
end Gx
namespace Gx
open Go Go.Proofs Go.Shelf Go.RowKit Go.Lib
theorem KPF {s:List UInt8} {a b:Nat}:(bs s).extract a b=bs ((s.drop a).take (b - a)):=by
 apply ByteArray.ext
 simp [bs,ByteArray.extract,ByteArray.copySlice]
theorem KJW (l:List UInt8):UM (bs l)=l.map bv:=rfl
theorem KN6 {β:Type} {h:Heap} {Q:β→Heap→Prop} {s:List UInt8} {a b:Nat} {lo hi:Int} {f:ByteArray→M β} (hl:lo=(a:Int)) (hh:hi=(b:Int)) (h1:a≤b) (h2:b≤s.length) (H:(f (bs ((s.drop a).take (b - a)))).wp h Q):(slS (bs s) lo hi>>=f).wp h Q:=by
 subst hl;subst hh
 refine⟨_,⟨by omega,by omega,by rw [Zc];omega,rfl⟩,?_⟩
 rw [Int.toNat_natCast,Int.toNat_natCast,KPF]
 exact H
theorem KDv {h:Heap} {Q:Bool→Heap→Prop} {x:Sl} {l:List UInt8} {g:Value} {p:UInt8→Bool} (hx:Bys h x l) (hl:l.length≤4611686018427387904)
  (hg:∀(c:UInt8) (Q1:Bool→Heap→Prop),Q1 (p c) h→(X4 Go.Proofs.Tryz.prog (fun r:Bool=>.bool r) g [.int .u8 (c.toNat:Int)]).wp h Q1)
  (H:Q (l.any p) h):(Zb x g).wp h Q:=by
 unfold Zb JJ
 have hxl:=hx.len
 refine KL (M.loop_inv (fun(t:Int) h'=>h'=h∧∃i:Nat,t=(i:Int)∧i≤l.length∧(l.drop i).any p=l.any p) (fun t _=>((l.length:Int) - t).toNat) ?_ ⟨rfl,0,rfl,Nat.zero_le _,by simp⟩)
 rintro t h' ⟨rfl,i,rfl,hi,hd⟩ self hself
 unfold Jr
 refine KY (fun hc=>?_) (fun hc=>?_)
 ·have hlt:i<l.length:=by have:=of_decide_eq_true hc;omega
  rw [List.drop_eq_getElem_cons hlt,List.any_cons]at hd
  obtain⟨b,hb,KM⟩:=hx.get hlt
  refine X6 (by omega) (by omega) hb (ZC (n:=(l[i].toNat:Int)) ?_ (KL (hg l[i] _ ?_)))
  ·rw [show(i:Int).toNat*1=i by omega];exact KM
  refine KY (fun ht=>KI (KI ?_)) (fun hf=>?_)
  ·rw [ht]at hd
   rw [show decide ((i:Int)≥0)=l.any p by rw [←hd];simp]
   exact H
  ·rw [hf,Bool.false_or]at hd
   rw [w64 (by omega) (by omega)]
   exact hself _ _ ⟨rfl,i+1,by simp,by omega,hd⟩ (by omega)
 ·have hge:i=l.length:=by have:=of_decide_eq_false hc;omega
  subst hge
  rw [List.drop_length]at hd
  refine KI (KI ?_)
  rw [show decide ((-1:Int)≥0)=l.any p by rw [←hd];rfl]
  exact H
def digB (c:UInt8):Bool:=decide (48≤c.toNat)&&decide (c.toNat≤57)
theorem KJX {c:UInt8} {h:Heap} {Q:Bool→Heap→Prop} (H:Q (!digB c) h):(zi (c.toNat:Int)).wp h Q:=by
 unfold zi
 refine or_b (c:=decide ((c.toNat:Int)>57)) (fun _ Q' hq=>KI hq) (KI ?_)
 rw [show(decide ((c.toNat:Int)<48)||decide ((c.toNat:Int)>57))=!digB c by
  unfold digB
  by_cases h1:c.toNat<48
  ·simp [show((c.toNat:Int)<48) by omega,show ¬48≤c.toNat by omega]
  ·by_cases h2:c.toNat>57
   ·simp [show((c.toNat:Int)>57) by omega,show ¬c.toNat≤57 by omega]
   ·simp [show ¬((c.toNat:Int)<48) by omega,show ¬((c.toNat:Int)>57) by omega,show 48≤c.toNat by omega,show c.toNat≤57 by omega]]
 exact H
def ErrV (h:Heap):Prop:=∃t p,KM h ⟨gER,0,none⟩=some (.iface t p)
theorem ErrV.ext {h h':Heap} (H:ErrV h) (e:Ext h h'):ErrV h':=by obtain⟨t,p,hc⟩:=H;exact⟨t,p,e.cell hc⟩
theorem KJY {t:List UInt8} {h:Heap} {Q:ByteArray→Heap→Prop} (ht:t.length≤281474976710656) (H:∀h',Ext h h'→Q (bs t) h'):(Zz (bs t)).wp h Q:=by
 unfold Zz
 rw [Zc]
 refine KY (fun h0=>?_) (fun h0=>?_)
 ·have:t=[]:=by have:=eq_of_beq h0;exact List.length_eq_zero_iff.1 (by omega)
  subst this
  exact KI (H _ (Ext.refl _))
 ·have hne:t≠[]:=fun e=>by subst e;exact absurd h0 (by decide)
  have hpos:0<t.length:=List.length_pos_iff.2 hne
  refine⟨by omega,by omega,by omega,by omega,?_⟩
  rw [Int.toNat_natCast,Nat.mul_one]
  have e1:=Ext.push h (.cells (zRow #[.int .u8 0] t.length) ZJ)
  have g1:(h.push (.cells (zRow #[.int .u8 0] t.length) ZJ))[h.size]?=some (.cells (zRow #[.int .u8 0] t.length) ZJ (0,0)):=ZH
  have s1:(h.push (.cells (zRow #[.int .u8 0] t.length) ZJ)).size=h.size+1:=Array.size_push _
  generalize h.push (.cells (zRow #[.int .u8 0] t.length) ZJ)=h1 at e1 g1 s1⊢
  have hz:(zRow #[.int .u8 0] t.length).size=t.length:=KFt _ _
  refine⟨by rw [Zc];exact Nat.le_refl _,?_,?_⟩
  ·intro a ha j hj
   cases ha
   rw [Zc]at hj
   rw [Ke,Nat.zero_add]
   refine⟨⟨(zRow #[.int .u8 0] t.length)[j]'(by omega),?_⟩,ZL g1⟩
   rw [KP g1];exact Array.getElem?_eq_getElem (by omega)
  show M.wp _ (hsetL h1 ((⟨h.size,0,none⟩:Addr).add 0) (UM (bs t)) 0) Q
  rw [Ke,Nat.zero_add]
  have g2:=KCA (o:=0) (UM (bs t)) h1 0 _ g1
  have e2:Ext h (hsetL h1 ⟨h.size,0,none⟩ (UM (bs t)) 0):=e1.hsetL (Nat.le_refl _)
  have s2:=GW (a:=⟨h.size,0,none⟩) (UM (bs t)) h1 0
  have hlen:(UM (bs t)).length=(zRow #[.int .u8 0] t.length).size:=by rw [hz];simp [UM,bs]
  rw [Nat.add_zero,Kp hlen]at g2
  generalize hsetL h1 ⟨h.size,0,none⟩ (UM (bs t)) 0=h2 at g2 e2 s2⊢
  refine X6 (b:=⟨h.size,0,none⟩) (by decide) (by show(0:Int)<((t.length:Nat):Int);omega) rfl (.inr ⟨h.size,_,_,t,?_,rfl,hne,?_,by omega,g2,?_,?_⟩)
  ·rw [Ke];rfl
  ·rw [List.size_toArray,hlen,hz];exact Nat.le_refl _
  ·intro j x hx
   rw [List.getElem?_toArray]
   simp [UM,bs,hx]
  ·intro h3 hs3 same3
   refine KI (H _ ⟨by have:=e2.size;omega,fun i hi=>?_⟩)
   rw [same3 i (by omega)]
   exact e2.same i hi
theorem KFK {fn t:List UInt8} {h:Heap} {Q:Option Addr→Heap→Prop} (ht:t.length≤281474976710656) (hv:ErrV h) (H:∀h' a,Ext h h'→Q (some a) h'):(Uh (bs fn) (bs t)).wp h Q:=by
 obtain⟨ty,p,hc⟩:=hv
 unfold Uh
 refine⟨_,hc,KL (KJY ht (fun h1 e1=>X5 (e1.cell hc) ?_))⟩
 refine⟨_,rfl,KQT (KI (H _ _ (e1.pushed _)))⟩
theorem KJZ {fn t:List UInt8} {h:Heap} {Q:Value→Heap→Prop} (ht:t.length≤281474976710656) (hv:ErrV h) (H:∀h' u x,Ext h h'→Q (.iface u x) h'):(V8 (bs fn) (bs t) 10 64 (.iface Kw (.int .i64 1))).wp h Q:=by
 unfold V8
 refine⟨false,⟨_,_,_,rfl,rfl,rfl⟩,iteF rfl ⟨true,⟨_,_,_,rfl,rfl,rfl⟩,iteT rfl (KL (KFK ht hv (fun h1 a e1=>KI (H _ _ _ e1))))⟩⟩
def numD (t:List UInt8):List UInt8:=if t.head?=some 45 then t.tail else t
def numP (t:List UInt8):Int×Int:=
 if numD t=[]then(0,10)else if(numD t).all digB=false then(0,10)else if(numD t).head?=some 48∧t≠[48]then(0,10)
 else match Lib.parseIntB 64 t with| .ok n=>(n,0)|_=>(0,7)
def KQq {α:Type}:Lib.NumEnd α→Bool
 | .ok _=>true
 | .range=>true
 |_=>false
theorem KEB (M:Nat):∀(r:List UInt8) (acc:Nat),r.all digB=true→KQq (parseUintM M acc r)=true
 | [],acc,_=>by rw [parseUintM];rfl
 |c::r,acc,h=>by
  rw [List.all_cons,Bool.and_eq_true]at h
  have h1:=h.1
  unfold digB at h1
  rw [Bool.and_eq_true,decide_eq_true_iff,decide_eq_true_iff]at h1
  rw [parseUintM,if_pos h1]
  split
  ·rfl
  ·split
   ·rfl
   ·exact KEB M r _ h.2
theorem KPG {c:UInt8}:((c.toNat:Int)==45)=decide (some c=some (45:UInt8)):=by
 rw [eqI]
 refine decide_eq_decide.2 ⟨fun h=>?_,fun h=>by cases h;rfl⟩
 have:c=45:=UInt8.toNat_inj.1 (by show c.toNat=45;omega)
 rw [this]
theorem KQr {c:UInt8}:((c.toNat:Int)==48)=decide (some c=some (48:UInt8)):=by
 rw [eqI]
 refine decide_eq_decide.2 ⟨fun h=>?_,fun h=>by cases h;rfl⟩
 have:c=48:=UInt8.toNat_inj.1 (by show c.toNat=48;omega)
 rw [this]
theorem KJa {t:List UInt8} (h1:numD t≠[]) (h2:(numD t).all digB=true):KQq (Lib.parseIntB 64 t)=true:=by
 cases t with
 |nil=>exact absurd rfl h1
 |cons c r=>
  have hd:numD (c::r)=(if c.toNat=43∨c.toNat=45 then r else c::r):=by
   unfold numD
   rw [List.head?_cons,List.tail_cons]
   by_cases h45:c=45
   ·subst h45;rfl
   ·have hn:c.toNat≠45:=fun e=>h45 (UInt8.toNat_inj.1 (by rw [e];rfl))
    rw [if_neg (by simpa using h45)]
    by_cases h43:c.toNat=43
    ·exfalso
     unfold numD at h2
     rw [List.head?_cons,if_neg (by simpa using h45),List.all_cons,Bool.and_eq_true]at h2
     have:=h2.1
     unfold digB at this
     rw [Bool.and_eq_true,decide_eq_true_iff,decide_eq_true_iff]at this
     omega
    ·rw [if_neg (by omega)]
  rw [hd]at h1 h2
  unfold parseIntB
  dsimp only
  unfold parseUintB
  rw [if_neg h1]
  have:=KEB (2^64 - 1) _ 0 h2
  split
  ·rename_i hh;rw [hh]at this;cases this
  ·rfl
  ·split
   ·rfl
   ·split<;>rfl
theorem KC3 {t:List UInt8} {h:Heap} {Q:Int×Int→Heap→Prop} (ht:t.length≤281474976710656) (hv:ErrV h) (H:∀h',Ext h h'→Q (numP t) h'):(Yu (bs t) (bs (numD t))).wp h Q:=by
 have hdl:(numD t).length≤t.length:=by unfold numD;split<;>simp
 have hdl2:t.length≤(numD t).length+1:=by unfold numD;split<;>simp<;>omega
 unfold Yu
 refine Kf ?_
 have fin:∀(b:Bool) (h1:Heap),Ext h h1→b=(decide (numD t=[])|| !(numD t).all digB)→(M.wp (M.ite b (M.pure true) (do
  let Xx11←ixS (bs (numD t)) 0
  let Xx12←M.ite (Xx11==48) (do
   M.pure (!(sEq (bs t) (⟨#[48]⟩:ByteArray)))
   ) (do
   M.pure false
   )
  M.pure Xx12
  )>>=fun Xx10=>M.ite Xx10 (do
  M.pure (0,10)
  ) (do
  let Xx15←Va (bs t) 10 64
  let Xx17←isNI Xx15.2
  let Xx18←N9 Xx15.1 Xx17
  M.pure (Xx18.1,Xx18.2)
  )) h1 Q):=by
  intro b h1 e1 hb
  refine KKQ (fun hbt=>?_) (fun hbf=>?_)
  ·refine ZM (iteT rfl (KI ?_))
   have:numP t=(0,10):=by
    unfold numP
    rw [hb,Bool.or_eq_true,decide_eq_true_iff,Bool.not_eq_true']at hbt
    by_cases h0:numD t=[]
    ·rw [if_pos h0]
    ·rw [if_neg h0,if_pos (hbt.resolve_left h0)]
   rw [←this]
   exact H _ e1
  ·rw [hb,Bool.or_eq_false_iff,decide_eq_false_iff_not,Bool.not_eq_false']at hbf
   obtain⟨hd0,hda⟩:=hbf
   have hpos:0<(numD t).length:=List.length_pos_iff.2 hd0
   refine NI (i:=0) rfl hpos ?_
   have hhead:(numD t).head?=some ((numD t)[0]'hpos):=by rw [List.head?_eq_getElem?];exact List.getElem?_eq_getElem hpos
   refine Kf (Wf (c:=decide (t≠[48])) (fun _ Q' hq=>KI ?_) (ZM ?_))
   ·rw [show(⟨#[48]⟩:ByteArray)=bs [48]from rfl,KD9]
    rw [show(!decide (t=[48]))=decide (t≠[48]) by simp]
    exact hq
   rw [KQr]
   have hnp:∀X,numP t=(if(numD t).head?=some 48∧t≠[48]then(0,10)else X)↔numP t=(if(numD t).head?=some 48∧t≠[48]then(0,10)else X):=fun _=>Iff.rfl
   refine KY (fun hz=>KI ?_) (fun hz=>?_)
   ·rw [Bool.and_eq_true,decide_eq_true_iff,decide_eq_true_iff,←hhead]at hz
    have:numP t=(0,10):=by
     unfold numP
     rw [if_neg hd0,if_neg (by rw [hda];decide),if_pos hz]
    rw [←this]
    exact H _ e1
   ·have hz':¬((numD t).head?=some 48∧t≠[48]):=fun hh=>by
     rw [hhead]at hh
     rw [decide_eq_true hh.1,decide_eq_true hh.2]at hz
     cases hz
    have hres:numP t=(match Lib.parseIntB 64 t with| .ok n=>(n,0)|_=>(0,7)):=by
     unfold numP
     rw [if_neg hd0,if_neg (by rw [hda];decide),if_neg hz']
    have hns:=KJa hd0 hda
    refine KL ?_
    unfold Va
    refine KL ⟨rfl,rfl,by rw [Zc];omega,fun h2 s2 same2=>?_⟩
    have e2:Ext h h2:=e1.trans ⟨s2,same2⟩
    rw [show(bs t).data.toList=t from rfl]
    cases hp:Lib.parseIntB 64 t with
    |ok n=>
     rw [hp]at hres
     refine⟨true,.inl ⟨rfl,rfl⟩,iteF rfl (KI ⟨true,.inl ⟨rfl,rfl⟩,KL ?_⟩)⟩
     unfold N9
     refine iteF rfl (KI (KI ?_))
     show Q (n,0) h2
     rw [show(n,(0:Int))=numP t from hres.symm]
     exact H _ e2
    |range=>
     rw [hp]at hres
     refine⟨false,.inr ⟨⟨_,_,rfl⟩,rfl⟩,iteT rfl (KL (KJZ (fn:=[80,97,114,115,101,73,110,116]) ht (hv.ext e2) (fun h3 u x e3=>KI ⟨false,.inr ⟨⟨_,_,rfl⟩,rfl⟩,KL ?_⟩)))⟩
     unfold N9
     refine iteT rfl (KI (KI ?_))
     show Q (0,7) h3
     rw [show((0:Int),(7:Int))=numP t from hres.symm]
     exact H _ (e2.trans e3)
    |_=>rw [hp]at hns;cases hns
 refine KKQ (fun h0=>ZM ?_) (fun h0=>?_)
 ·rw [sEq0]at h0
  exact fin _ _ (Ext.refl _) (by rw [h0];rfl)
 ·rw [sEq0]at h0
  refine fun cap hcap mk hmk=>?_
  refine KL (KDv (l:=numD t) (p:=fun c=>!digB c) ⟨?_,.inr ⟨_,rfl,fun j v hj=>?_⟩⟩ (by omega) (fun c Q1 hq=>KEa (KDk) (KFG _) (KJX hq)) (ZM ?_))
  ·show(numD t).length=(bs (numD t)).size
   rw [Zc]
  ·rw [Ke,Nat.zero_add,KP ZH]
   rw [List.getElem?_map]at hj
   have hjl:j<(numD t).length:=by
    by_cases hh:j<(numD t).length
    ·exact hh
    ·rw [List.getElem?_eq_none (by omega)]at hj;cases hj
   rw [Array.getElem?_append_left (by simp [UM,bs];exact hjl)]
   rw [List.getElem?_toArray,KJW,List.getElem?_map]
   exact hj
  ·refine fin _ _ (Ext.push _ _) ?_
   rw [h0,Bool.false_or]
   rw [List.any_eq_not_all_not]
   simp
theorem KDw {t:List UInt8} {h:Heap} {Q:Int×Int→Heap→Prop} (ht:t.length≤281474976710656) (hv:ErrV h) (H:∀h',Ext h h'→Q (numP t) h'):(KCz (bs t)).wp h Q:=by
 unfold KCz
 cases t with
 |nil=>
  refine Wf (c:=false) (fun hb _ _=>?_) ?_
  ·rw [sEq0]at hb;exact absurd hb (by decide)
  ·rw [Bool.and_false]
   exact iteF rfl (KC3 ht hv H)
 |cons c r=>
  refine Wf (c:=decide (some c=some (45:UInt8))) (fun hb Q' hq=>?_) ?_
  ·refine NI (i:=0) rfl (by simp) (KI ?_)
   rw [List.getElem_cons_zero,KPG]
   exact hq
  ·rw [sEq0]
   refine KY (fun hb=>?_) (fun hb=>?_)
   ·rw [Bool.and_eq_true,decide_eq_true_iff (p:=some c=some 45)]at hb
    refine KN6 (a:=1) (b:=(c::r).length) rfl (by rw [Zc]) (by simp) (Nat.le_refl _) ?_
    have:(((c::r).drop 1).take ((c::r).length - 1))=numD (c::r):=by
     unfold numD
     rw [List.head?_cons,if_pos hb.2]
     simp
    rw [this]
    exact KC3 ht hv H
   ·have:numD (c::r)=c::r:=by
     unfold numD
     rw [List.head?_cons,if_neg]
     intro hc
     rw [decide_eq_true hc]at hb
     simp at hb
    have h2:=KC3 ht hv H
    rw [this]at h2
    exact h2
end Gx
namespace Gx
open Go Go.Proofs Go.Shelf Go.RowKit Go.Lib Gx.Last
abbrev vz:Array Value:=#[.int .i64 0,.int .i64 0,.string ByteArray.empty,.slice none 0 0]
def KIL (x0 x1 x2 x4:Addr):M Unit:=do
 let Xx2←ldI .i64 ((x4).add 0)
 M.need (vz.size=4)
 stG x0 vz
 chk (fun h:Heap=>(KM h ((x4).add 0)=some (.int .i64 Xx2)))
 stV x1 (.int .i64 Xx2)
 stV x2 (.bool false)
 M.pure ()
def NJ (p2 p3 p4:Addr):M (Array Value×Int×Bool):=do
 let c←ldG 4 p2
 let i←ldI .i64 p3
 let b←ldB p4
 M.pure (c,i,b)
def Gj (p2 p3 p4:Addr) (u:Value):M Unit:=do
 let i←M.get (fun _ i=>u=.iface JP (.agg #[.int .i64 i]))
 let q←mkB JP (#[.int .i64 0]:Array Value)
 M.need ((#[.int .i64 i]:Array Value).size=1)
 stG q (#[.int .i64 i]:Array Value)
 KIL p2 p3 p4 q
def KFL (p2 p3 p4:Addr):M (Array Value×Int×Bool):=do
 let x←ldG 4 p2
 M.need (x.size=4)
 stG p2 x
 stV p3 (.int .i64 0)
 stV p4 (.bool true)
 NJ p2 p3 p4
def KPH (x0:ByteArray):M (Array Value×Int×Bool):=do
 let p2←mkB KH vz
 let p3←mkB VE (#[.int .i64 0]:Array Value)
 let p4←mkB KCd (#[.bool false]:Array Value)
 let r←mkB Xe (#[.string x0,.int .i64 0]:Array Value)
 let v←J5 (some r) 1
 match v with
 | .inl u=>Gj p2 p3 p4 u>>=fun _=>NJ p2 p3 p4
 | .inr cs=>do
  M.need (cs.size=4)
  stG p2 cs
  let i←ldI .i64 (r.add 1)
  M.ite (decide (i<(x0.size:Int))) (do
   let v←ZE (some r)
   match v with
   | .inl u=>Gj p2 p3 p4 u>>=fun _=>NJ p2 p3 p4
   | .inr _=>M.fail) (KFL p2 p3 p4)
def KC4 (r:Array Value×Int×Bool):Value:=.tuple #[.agg r.1,.int .i64 r.2.1,.bool r.2.2]
theorem KMn:Wl Go.Proofs.Tryz.prog 229 0=some 0:=by kernel_rfl
theorem KQs:szB Go.Proofs.Tryz.prog 229 1=true:=by kernel_rfl
theorem zr4':((Go.Proofs.Tryz.prog.info? 4).bind (·.zero))=some (.bool false):=by kernel_rfl
theorem sz4':szB Go.Proofs.Tryz.prog 4 1=true:=by kernel_rfl
theorem sc4':scB Go.Proofs.Tryz.prog 4=true:=by kernel_rfl
theorem KIM:ifB Go.Proofs.Tryz.prog 20=true:=by kernel_rfl
theorem KQt:((Go.Proofs.Tryz.prog.info? 233).bind (·.zero))=some (.agg (#[.string ByteArray.empty,.int .i64 0]:Array Value)):=by kernel_rfl
theorem KQu:WA Go.Proofs.Tryz.prog 233=some [(0,1),(1,1)]:=by kernel_rfl
theorem KMo:Wl Go.Proofs.Tryz.prog 233 1=some 1:=by kernel_rfl
theorem un9':Go.Proofs.Tryz.prog.underlying 9=some .string:=Tryz.underlying9
theorem KPI:GS Go.Proofs.Tryz.f226 5 [[],[],[1],[0,0],[2,3,0,1,2,3],[4,0,1,2,3,4]] [[],[],[1],[0],[2],[]] [[],[],[1],[0],[0,1,2,3],[0,1,2,3,4]]=true:=by kernel_rfl
theorem KCE {c:Code} {P:Program} {N:Act→World→Prop} {R:Act→World→Prop} {Q:Exit→Act→List Frame→World→Prop} {a:Act} {cs:List Frame} {w:World} (h:c.wpIn (Fw none) 1 P (Ps N X0 R) a w)
  (hn:∀a w,N a w→Q .normal a cs w) (hr:∀a w,R a w→Q .ret a cs w):c.wpS P Q a cs w:=by
 refine wpS_of_wp (wp_mono (wpIn_wide.1 h) ?_)
 intro e a w hh
 cases e with
 |normal=>exact hn _ _ hh
 |ret=>exact hr _ _ hh
 |exit i=>exact hh.2.elim
 |goto l=>exact hh.elim
 |panic c=>obtain⟨_,_,hh⟩:=hh;exact hh.elim
 |outgrown=>exact hh.elim
theorem NK {dst:Option Tmp} {ty:TypeId} {pos:String} {aft:Array Edge} {ρ:Operand→Value} {P:Program} {w:World}:(execOp ρ ⟨dst,.call {callee:=.builtin .recover,args:=#[],argTypes:=#[]},ty,pos,aft,none⟩).run P w=.ok .recover w:=by
 simp [execOp,resolve,invoke,builtin]
theorem qq {P:Program} {Q:Exit→Act→List Frame→World→Prop} {a:Act} {cs cs':List Frame} {w:World} {id d1 d2:Nat} {ty1 ty2:TypeId} {pos1 pos2:String} {aft1 aft2:Array Edge} {n:Frm} {l:List (Nat×Value)} {v:Value}
  (hE:Env n a l) (hn1:Nat.blt d1 n.size=true) (hn2:Nat.blt d2 n.size=true) (hv:recoverD cs=some (v,cs')∨(recoverD cs=none∧v=.nilIface∧cs'=cs))
  (h:∀a',Env n a' ((d2,v)::(d1,v)::l)→Q .normal a' cs' w):
  (Code.region id #[⟨some d1,.call {callee:=.builtin .recover,args:=#[],argTypes:=#[]},ty1,pos1,aft1,none⟩,⟨some d2,.assign (.tmp d1),ty2,pos2,aft2,none⟩] false).wpS P Q a cs w:=by
 refine wpS_region ?_
 have e1:=hE.put d1 v hn1
 have hr2:(execOp (a.put (some d1) v).eval ⟨some d2,.assign (.tmp d1),ty2,pos2,aft2,none⟩).run P w=.ok (.value v) w:=KQ e1 (by simp [opv,look])
 have hf:=h _ (e1.put d2 v hn2)
 show wpOpsS P _ Q [0,1] a cs w
 rcases hv with hv|⟨hv,rfl,rfl⟩
 ·simp [wpOpsS,Region.wanted,NK,hv,hr2]
  exact hf
 ·simp [wpOpsS,Region.wanted,NK,hv,hr2]
  exact hf
abbrev a226 (p2 p3 p4:Addr):Act:={tmps:=#[.pointer (some p2),.pointer (some p3),.pointer (some p4)]++Array.replicate (20 - 3) undef,defers:=[]}
theorem KIN (p2 p3 p4:Addr):Env ⟨20,[]⟩ (a226 p2 p3 p4) [(0,.pointer (some p2)),(1,.pointer (some p3)),(2,.pointer (some p4))]:=
 Env.enter (n:=20) #[.pointer (some p2),.pointer (some p3),.pointer (some p4)] _ (Nat.le_of_ble_eq_true rfl) (Z8 ⟨rfl,rfl,rfl,trivial⟩)
theorem KKy {p2 p3 p4:Addr} {w:World} {R:Ending→FrameMode→World→Prop} (h:R (.returned (.tuple #[])) .returning w):CallsD Go.Proofs.Tryz.prog 226 #[.pointer (some p2),.pointer (some p3),.pointer (some p4)] .returning w R:=by
 refine callsD_of_wpS Go.Proofs.Tryz.func226 rfl (fun c₀ cs hu=>?_)
 refine wpS_seq (qq (v:=.nilIface) (cs':=c₀::cs) (KIN p2 p3 p4) rfl rfl (.inr ⟨by simp [recoverD,hu],rfl,rfl⟩) (fun a hE=>?_))
 refine KCE (N:=fun _ _=>False) (R:=fun a w'=>w'=w∧Env ⟨20,[]⟩ a [(0,.pointer (some p2))]) ?_ (fun _ _ h=>h.elim) (fun a w' hh=>?_)
 ·refine KR (fun K hK_1=>?_)
  refine KR (fun K hK_2=>?_)
  refine KC ?_
  refine KB (v:=.nilIface) rfl rfl hE rfl (KF hE rfl) (fun a hE=>?_)
  refine KB (v:=.bool true) rfl rfl hE rfl (Kk hE rfl rfl (g_ni (b:=true) (.inl ⟨rfl,rfl⟩)) (KFs KIM (.inl ⟨rfl,rfl⟩))) (fun a hE=>?_)
  refine KN ?_
  refine hK_2 _ _ ?_
  refine ZA true hE rfl (fun _=>?_) (fun hb=>by cases hb)
  exact Uv ⟨rfl,hE.cut (.cons rfl Subs.nil)⟩
 ·obtain⟨rfl,hE⟩:=hh
  refine⟨hE.defers,.returning,by rw [←hu],_,Kn (rs:=[]) (vs:=[]) hE rfl RV.nil,h⟩
theorem KGQ {n:Frm} {a:Act} {w:World} {l:List (Nat×Value)} {P:Program} {dst:Option Tmp} {ty xt t:TypeId} {pos:String} {aft:Array Edge} {g:Option (Nat×Bool)} {x:Operand} {v:Value} {fs:Array Field} (hE:Env n a l) (hx:opv l x=some (.iface t v)) (ht:P.underlying t=some (.struct fs)):
  (execOp a.eval ⟨dst,.typeAssert x xt t true,ty,pos,aft,g⟩).run P w=.ok (.value (.tuple #[v,.bool true])) w:=by
 simp [execOp,hE.opv hx,Instr.typeAssert,run_underlying ht]
theorem KKz {p2 p3 p4:Addr} {w:World} {u:Value} {Q:Unit→Heap→Prop} {R:Ending→FrameMode→World→Prop} (H:(Gj p2 p3 p4 u).wp w.heap Q)
  (h:∀w',Rest w w'→Q () w'.heap→R (.returned (.tuple #[])) (.panicking [{v:=u,recovered:=true}]) w'):CallsD Go.Proofs.Tryz.prog 226 #[.pointer (some p2),.pointer (some p3),.pointer (some p4)] (.panicking [{v:=u,recovered:=false}]) w R:=by
 refine callsD_of_wpS Go.Proofs.Tryz.func226 rfl (fun c₀ cs hu=>?_)
 obtain⟨i,hi,H⟩:=H
 subst hi
 refine wpS_seq (qq (v:=.iface JP (.agg #[.int .i64 i])) (cs':={c₀ with mode:=.panicking [{v:=.iface JP (.agg #[.int .i64 i]),recovered:=true}]}::cs) (KIN p2 p3 p4) rfl rfl (.inl (by simp [recoverD,hu])) (fun a hE=>?_))
 have hR:Rest w w:=Rest.refl w
 refine KCE (N:=fun a w'=>Rest w w'∧Q () w'.heap∧Env ⟨20,[]⟩ a [(0,.pointer (some p2))]) (R:=fun _ _=>False) ?_ (fun a w' hh=>?_) (fun _ _ h=>h.elim)
 ·refine KR (fun K hK_1=>?_)
  refine KR (fun K hK_2=>?_)
  refine KC ?_
  refine KB (v:=.iface JP (.agg #[.int .i64 i])) rfl rfl hE rfl (KF hE rfl) (fun a hE=>?_)
  refine KB (v:=.bool false) rfl rfl hE rfl (Kk hE rfl rfl (g_ni (b:=false) (.inr ⟨⟨_,_,rfl⟩,rfl⟩)) (KFs KIM (.inr ⟨⟨_,_,rfl⟩,rfl⟩))) (fun a hE=>?_)
  refine KN ?_
  refine hK_2 _ _ ?_
  refine ZA false hE rfl (fun hb=>by cases hb) (fun _=>?_)
  refine Zq ?_
  refine hK_1 _ _ ?_
  refine KR (fun K hK_3=>?_)
  refine KC ?_
  refine KB (v:=.iface JP (.agg #[.int .i64 i])) rfl rfl hE rfl (KF hE rfl) (fun a hE=>?_)
  refine KB (v:=.tuple #[.agg #[.int .i64 i],.bool true]) rfl rfl hE rfl (KGQ hE rfl Tryz.underlying229) (fun a hE=>?_)
  refine KB (v:=.tuple #[.agg #[.int .i64 i],.bool true]) rfl rfl hE rfl (KF hE rfl) (fun a hE=>?_)
  refine KB (v:=.agg #[.int .i64 i]) rfl rfl hE rfl (JQ hE rfl rfl) (fun a hE=>?_)
  refine KB (v:=.bool true) rfl rfl hE rfl (JQ hE rfl rfl) (fun a hE=>?_)
  obtain⟨q,hq,H⟩:=H
  refine JM (v:=.pointer (some q)) rfl rfl hE rfl hR (Z0 KQk hq) (fun a w hE hR hh=>?_)
  replace H:=M.at hh H;clear hh
  obtain⟨qz,H⟩:=H
  obtain⟨u_3,qu_3,H⟩:=H
  refine JA rfl rfl hE hR (Kh hE rfl rfl KQs qz qu_3) (fun a w hE hR hh=>?_)
  replace H:=M.at hh H;clear hh
  refine KB (v:=.bool true) rfl rfl hE rfl (KQ hE rfl) (fun a hE=>?_)
  refine KN ?_
  refine hK_3 _ _ ?_
  refine KR (fun K hK_4=>?_)
  refine KR (fun K hK_5=>?_)
  refine KC ?_
  refine KB (v:=.bool true) rfl rfl hE rfl (KF hE rfl) (fun a hE=>?_)
  refine KB (v:=.bool false) rfl rfl hE rfl (r_un hE rfl KJA) (fun a hE=>?_)
  refine KN ?_
  refine hK_5 _ _ ?_
  refine ZA false hE rfl (fun hb=>by cases hb) (fun _=>?_)
  refine Zq ?_
  refine hK_4 _ _ ?_
  replace hE:Env ⟨20,[]⟩ a [(0,.pointer (some p2)),(1,.pointer (some p3)),(2,.pointer (some p4)),(4,.pointer (some q))]:=hE.cut (.cons rfl (.cons rfl (.cons rfl (.cons rfl Subs.nil))))
  obtain⟨Xx2,qXx2,H⟩:=H
  have hT:=VT KPI rfl rfl
  refine Jv (fun w:World=>(fun h:Heap=>(KM h ((q).add 0)=some (.int .i64 Xx2))) w.heap) [4,5] #[false,false,false,false,false,false] mo hR rfl rfl (fun w' e=>by rw [e];exact qXx2) (fun w hh hR hs=>?_)
  replace H:=M.at hh H;clear hh
  refine KG (i:=0) (v:=.agg vz) #[true,false,false,false,false,false] rfl rfl hT (by kernel_rfl) hE rfl (KA rfl) (fun w=>Gr bd54) (fun a hE=>?_)
  refine KG (i:=1) (v:=.pointer (some ((q).add 0))) #[true,true,false,false,false,false] rfl rfl hT (by kernel_rfl) hE rfl (KA rfl) (fun w=>KD hE rfl KMn) (fun a hE=>?_)
  refine Zs (i:=2) (v:=.int .i64 Xx2) #[true,true,true,false,false,false] rfl rfl hT (by kernel_rfl) hE rfl (KA rfl) hs (fun w s=>KS hE rfl sc3 s) (fun a hE=>?_)
  obtain⟨qz,H⟩:=H
  obtain⟨u_3,qu_3,H⟩:=H
  obtain⟨_,sA,H⟩:=H
  refine KJF (i:=3) #[true,true,true,true,false,false] rfl rfl hT (by kernel_rfl) rfl hE hR (KA rfl) (Kh hE rfl rfl sz54 qz qu_3)  (fun w' e=>by rw [e];exact sA) (fun a w hE hR hh hs=>?_)
  replace H:=M.at hh H;clear hh
  obtain⟨u_4,qu_4,H⟩:=H
  refine YD (i:=4) #[true,true,true,true,true,false] rfl rfl hT (by kernel_rfl) rfl hE hR (KA rfl) (ZB hE rfl rfl sz3 qu_4)  (fun a w hE hR hh=>?_)
  replace H:=M.at hh H;clear hh
  obtain⟨u_5,qu_5,H⟩:=H
  refine YD (i:=5) #[true,true,true,true,true,true] rfl rfl hT (by kernel_rfl) rfl hE hR (KA rfl) (ZB hE rfl rfl sz4' qu_5)  (fun a w hE hR hh=>?_)
  replace H:=M.at hh H;clear hh
  refine VD hT (by kernel_rfl) ?_
  exact⟨hR,H,hE.cut (.cons rfl Subs.nil)⟩
 ·obtain⟨hR,hq,hE⟩:=hh
  exact⟨hE.defers,_,rfl,_,Kn (rs:=[]) (vs:=[]) hE rfl RV.nil,h _ hR hq⟩
theorem KEC {Q:Array Value×Int×Bool→Heap→Prop} {w0 w:World} {a:Act} {l:List (Nat×Value)} {p2 p3 p4:Addr} {l0:List Deferred} (hE:EnvD l0 22 a l) (h2:look l 2=some (.pointer (some p2))) (h3:look l 3=some (.pointer (some p3))) (h4:look l 4=some (.pointer (some p4))) (hR:Rest w0 w) (H:(NJ p2 p3 p4).wp w.heap Q):
  ∃v,(results Tryz.f213 a.tmps).run Tryz.prog w=.ok v w∧∃r,Ending.returned v=.returned (KC4 r)∧Q r w.heap∧Rest w0 w:=by
 obtain⟨c,qc,H⟩:=H
 obtain⟨i,qi,H⟩:=H
 obtain⟨b,qb,H⟩:=H
 exact⟨_,Kn (a:={tmps:=a.tmps,defers:=[]}) (rs:=[.cell 2 54,.cell 3 3,.cell 4 4]) hE.env rfl (RV.cellG h2 ag54 qc (RV.cell h3 sc3 qi (RV.cell h4 sc4' qb RV.nil))),(c,i,b),rfl,H,hR⟩
abbrev dfr (p2 p3 p4:Addr):Deferred:={target:=.fn (.func 226) #[.pointer (some p2),.pointer (some p3),.pointer (some p4)],args:=#[]}
theorem KGR {p2 p3 p4:Addr} {w:World}:(invoke (.fn (.func 226) #[.pointer (some p2),.pointer (some p3),.pointer (some p4)]) #[]).run Tryz.prog w=.ok (.enter 226 #[.pointer (some p2),.pointer (some p3),.pointer (some p4)]) w:=by
 have h:=KJ Tryz.func226 (by kernel_rfl) rfl #[.pointer (some p2),.pointer (some p3),.pointer (some p4)] w
 simp [invoke,h]
theorem KMp {Q:Array Value×Int×Bool→Heap→Prop} {w0 w:World} {a:Act} {l:List (Nat×Value)} {p2 p3 p4:Addr} (hE:EnvD [dfr p2 p3 p4] 22 a l) (h2:look l 2=some (.pointer (some p2))) (h3:look l 3=some (.pointer (some p3))) (h4:look l 4=some (.pointer (some p4))) (hR:Rest w0 w) (H:(NJ p2 p3 p4).wp w.heap Q):
  Leaves Tryz.prog Tryz.f213 a.tmps (fun e w'=>∃r,e=.returned (KC4 r)∧Q r w'.heap∧Rest w0 w') a.defers .returning w:=by
 rw [hE.def_]
 refine leaves_cons (by simp) KGR (KKy ?_)
 exact KEC hE h2 h3 h4 hR H
theorem KIO {Q:Array Value×Int×Bool→Heap→Prop} {w0 w:World} {a:Act} {l:List (Nat×Value)} {p2 p3 p4:Addr} {u:Value} (hE:EnvD [dfr p2 p3 p4] 22 a l) (h2:look l 2=some (.pointer (some p2))) (h3:look l 3=some (.pointer (some p3))) (h4:look l 4=some (.pointer (some p4))) (hR:Rest w0 w) (H:(Gj p2 p3 p4 u>>=fun _=>NJ p2 p3 p4).wp w.heap Q):
  Leaves Tryz.prog Tryz.f213 a.tmps (fun e w'=>∃r,e=.returned (KC4 r)∧Q r w'.heap∧Rest w0 w') a.defers (.panicking [{v:=u,recovered:=false}]) w:=by
 rw [hE.def_]
 refine leaves_cons (by simp) KGR (KKz (M.unbind H) (fun w' hR' H'=>?_))
 show Leaves _ _ _ _ [] (settle (.panicking [{v:=u,recovered:=true}])) w'
 exact KEC hE h2 h3 h4 (hR.trans hR') H'
theorem KQv (x0:ByteArray):ZG Go.Proofs.Tryz.prog XL #[.string x0] KC4 (KPH x0):=by
 intro W0 Q H
 refine calls_of_wp_defers Go.Proofs.Tryz.func213 rfl ?_
 refine(fun hs=>wpIn_wide.1 hs) (?_:Code.wpIn (Fw none) 1 _ _ _ _ _)
 have hE0:Env ⟨22,[]⟩ {tmps:=#[.string x0]++Array.replicate (22 - 1) undef,defers:=[]} [(0,.string x0)]:=Env.enter (n:=22) #[.string x0] _ (Nat.le_of_ble_eq_true rfl) (Z8 ⟨rfl,trivial⟩)
 have hE:EnvD [] 22 {tmps:=#[.string x0]++Array.replicate (22 - 1) undef,defers:=[]} [(0,.string x0)]:=⟨hE0,rfl⟩
 have hR:Rest W0 W0:=Rest.refl W0
 obtain⟨p2,q2,H⟩:=H
 refine wpIn_seq (Uo ?_)
 refine KCa (v:=.pointer (some p2)) rfl rfl hE rfl hR (fun b hE=>Z0 zr54 q2) (fun a w1 hE hR hh=>?_)
 replace H:=M.at hh H;clear hh
 obtain⟨p3,q3,H⟩:=H
 refine KCa (v:=.pointer (some p3)) rfl rfl hE rfl hR (fun b hE=>Z0 zr3 q3) (fun a w1 hE hR hh=>?_)
 replace H:=M.at hh H;clear hh
 obtain⟨p4,q4,H⟩:=H
 refine KCa (v:=.pointer (some p4)) rfl rfl hE rfl hR (fun b hE=>Z0 zr4' q4) (fun a w1 hE hR hh=>?_)
 replace H:=M.at hh H;clear hh
 refine z8 ?_
 refine wpIn_seq (Uo ?_)
 refine VI (v:=.func (.func 226) #[] #[.pointer (some p2),.pointer (some p3),.pointer (some p4)]) rfl rfl hE rfl (fun b hE=>GU hE rfl) (fun a hE=>?_)
 refine KKY hE rfl (fun a hE=>?_)
 replace hE:EnvD [dfr p2 p3 p4] 22 a [(0,.string x0),(2,.pointer (some p2)),(3,.pointer (some p3)),(4,.pointer (some p4))]:=⟨hE.env.cut (.cons rfl (.cons rfl (.cons rfl (.cons rfl Subs.nil)))),hE.def_⟩
 refine z8 ?_
 refine wpIn_seq (Uo ?_)
 refine VI (v:=.string x0) rfl rfl hE rfl (fun b hE=>KF hE rfl) (fun a hE=>?_)
 refine VI (v:=.agg (#[.string x0,.int .i64 0]:Array Value)) rfl rfl hE rfl (fun b hE=>Vs hE rfl KQt KQu (by rfl)) (fun a hE=>?_)
 obtain⟨r,qr,H⟩:=H
 refine KCa (v:=.pointer (some r)) rfl rfl hE rfl hR (fun b hE=>KFj hE rfl qr) (fun a w1 hE hR hh=>?_)
 replace H:=M.at hh H;clear hh
 refine VI (v:=.pointer (some r)) rfl rfl hE rfl (fun b hE=>KQ hE rfl) (fun a hE=>?_)
 replace hE:EnvD [dfr p2 p3 p4] 22 a [(0,.string x0),(2,.pointer (some p2)),(3,.pointer (some p3)),(4,.pointer (some p4)),(5,.pointer (some r))]:=⟨hE.env.cut (.cons rfl (.cons rfl (.cons rfl (.cons rfl (.cons rfl Subs.nil))))),hE.def_⟩
 refine z8 ?_
 refine wpIn_seq (Uo ?_)
 refine VI (v:=.pointer (some r)) rfl rfl hE rfl (fun b hE=>KF hE rfl) (fun a hE=>?_)
 refine KHG hE hR Vx rfl (XH (some r) 1) (M.unbind H) (fun u w1 hR H=>?_) (fun cs a1 w1 ea hR H=>?_)
 ·exact KIO hE rfl rfl rfl hR H
 replace hE:EnvD [dfr p2 p3 p4] 22 a1 _:=ea▸hE.put 11 (.agg cs) rfl
 obtain⟨qz,H⟩:=H
 obtain⟨u_6,qu_6,H⟩:=H
 refine KFx rfl rfl hE hR (fun b hE=>Kh hE rfl rfl sz54 qz qu_6) (fun a w hE hR hh=>?_)
 replace H:=M.at hh H;clear hh
 replace hE:EnvD [dfr p2 p3 p4] 22 a [(0,.string x0),(2,.pointer (some p2)),(3,.pointer (some p3)),(4,.pointer (some p4)),(5,.pointer (some r))]:=⟨hE.env.cut (.cons rfl (.cons rfl (.cons rfl (.cons rfl (.cons rfl Subs.nil))))),hE.def_⟩
 refine z8 ?_
 obtain⟨i,qi,H⟩:=H
 refine wpIn_seq (wpIn_mono (Q:=Exit.then (fun a w1=>EnvD [dfr p2 p3 p4] 22 a [(0,.string x0),(2,.pointer (some p2)),(3,.pointer (some p3)),(4,.pointer (some p4)),(5,.pointer (some r))]∧Rest W0 w1∧(KFL p2 p3 p4).wp w1.heap Q)
  (bodyPostD Tryz.prog Tryz.f213 (fun e w'=>∃r,e=.returned (KC4 r)∧Q r w'.heap∧Rest W0 w'))) ?_ ?_)
 ·refine wpIn_seq (Uo ?_)
  refine VI (v:=.pointer (some r)) rfl rfl hE rfl (fun b hE=>KF hE rfl) (fun a hE=>?_)
  refine VI (v:=.pointer (some r)) rfl rfl hE rfl (fun b hE=>KO hE rfl) (fun a hE=>?_)
  refine VI (v:=.pointer (some (r.add 1))) rfl rfl hE rfl (fun b hE=>KD hE rfl KMo) (fun a hE=>?_)
  refine VI (v:=.int .i64 i) rfl rfl hE rfl (fun b hE=>KS hE rfl sc3 qi) (fun a hE=>?_)
  refine VI (v:=.string x0) rfl rfl hE rfl (fun b hE=>KF hE rfl) (fun a hE=>?_)
  refine VI (v:=.int .i64 (x0.size:Int)) rfl rfl hE rfl (fun b hE=>Yg hE rfl un9') (fun a hE=>?_)
  refine VI (v:=.bool (decide (i<(x0.size:Int)))) rfl rfl hE rfl (fun b hE=>Kk hE rfl rfl Ki NU) (fun a hE=>?_)
  refine z8 ?_
  refine KKZ (decide (i<(x0.size:Int))) hE rfl (fun hb=>?_) (fun hb=>?_)
  ·replace H:=M.ite_t hb H
   refine Uo ?_
   refine VI (v:=.pointer (some r)) rfl rfl hE rfl (fun b hE=>KF hE rfl) (fun a hE=>?_)
   refine KHG hE hR ZK rfl (ZS (some r)) (M.unbind H) (fun u w1 hR H=>?_) (fun cs a1 w1 ea hR H=>H.elim)
   exact KIO hE rfl rfl rfl hR H
  ·replace H:=M.ite_f hb H
   refine wpIn_skip ?_
   exact⟨⟨hE.env.cut (.cons rfl (.cons rfl (.cons rfl (.cons rfl (.cons rfl Subs.nil))))),hE.def_⟩,hR,H⟩
 ·intro e a w hh
  cases e with
  |normal=>
   obtain⟨hE,hR,H⟩:=hh
   obtain⟨x,qx,H⟩:=H
   obtain⟨qz,H⟩:=H
   obtain⟨u_6,qu_6,H⟩:=H
   refine wpIn_seq (Uo ?_)
   refine VI (v:=.agg x) rfl rfl hE rfl (fun b hE=>Ui hE rfl ag54 qx) (fun a hE=>?_)
   refine KFx rfl rfl hE hR (fun b hE=>Kh hE rfl rfl sz54 qz qu_6) (fun a w hE hR hh=>?_)
   replace H:=M.at hh H;clear hh
   obtain⟨u_7,qu_7,H⟩:=H
   refine KFx rfl rfl hE hR (fun b hE=>ZB hE rfl rfl sz3 qu_7) (fun a w hE hR hh=>?_)
   replace H:=M.at hh H;clear hh
   obtain⟨u_8,qu_8,H⟩:=H
   refine KFx rfl rfl hE hR (fun b hE=>ZB hE rfl rfl sz4' qu_8) (fun a w hE hR hh=>?_)
   replace H:=M.at hh H;clear hh
   refine z8 ?_
   refine wpIn_ret ?_
   exact KMp hE rfl rfl rfl hR H
  |exit i=>exact hh
  |ret=>exact hh
  |goto l=>exact hh
  |panic c=>exact hh
  |outgrown=>exact hh
end Gx
namespace Gx
open Go
mutual
def JE (S:Nat→Prop) (h:Heap):Vl→Array Value→Prop
 | .mk k n s l,cs=>∃x:Sl,cs=UH k n s x∧I64 k∧I64 n∧s.length≤9223372036854775807∧(x.len=l.length∧x.len≤x.cap∧x.len≤9223372036854775807∧X7 S h l x.base 0)
def X7 (S:Nat→Prop) (h:Heap):List Vl→Option Addr→Nat→Prop
 | [],_,_=>True
 |v::l,b,i=>(∃a cs,b=some a∧S a.block∧cs.size=4∧(∀j,j<4→KM h (a.add (i*4+j))=cs[j]?)∧JE S h v cs)∧X7 S h l b (i+1)
end
structure VsRepS (S:Nat→Prop) (h:Heap) (x:Sl) (l:List Vl):Prop where
 len:x.len=l.length
 cap:x.len≤x.cap
 big:x.len≤9223372036854775807
 at_:X7 S h l x.base 0
theorem JE.eq {S:Nat→Prop} {h:Heap} {k n:Int} {s:List UInt8} {l:List Vl} {cs:Array Value}:JE S h (.mk k n s l) cs↔∃x:Sl,cs=UH k n s x∧I64 k∧I64 n∧s.length≤9223372036854775807∧VsRepS S h x l:=by
 rw [JE]
 constructor
 ·rintro⟨x,h1,h2,h3,h4,h5,h6,h7,h8⟩;exact⟨x,h1,h2,h3,h4,h5,h6,h7,h8⟩
 ·rintro⟨x,h1,h2,h3,h4,h5,h6,h7,h8⟩;exact⟨x,h1,h2,h3,h4,h5,h6,h7,h8⟩
theorem X7.get {S:Nat→Prop} {h:Heap}:∀{l:List Vl} {b:Option Addr} {i:Nat},X7 S h l b i→∀{j:Nat} (hj:j<l.length),∃a cs,b=some a∧S a.block∧cs.size=4∧(∀m,m<4→KM h (a.add ((i+j)*4+m))=cs[m]?)∧JE S h l[j] cs
 | [],_,_,_,j,hj=>by simp at hj
 |v::l,b,i,H,0,hj=>by rw [X7]at H;exact H.1
 |v::l,b,i,H,j+1,hj=>by
  rw [X7]at H
  have:=X7.get H.2 (j:=j) (by simpa using hj)
  rw [show i+(j+1)=i+1+j by omega]
  exact this
theorem X7.of {S:Nat→Prop} {h:Heap}:∀{l:List Vl} {b:Option Addr} {i:Nat},(∀j (hj:j<l.length),∃a cs,b=some a∧S a.block∧cs.size=4∧(∀m,m<4→KM h (a.add ((i+j)*4+m))=cs[m]?)∧JE S h l[j] cs)→X7 S h l b i
 | [],_,_,_=>by rw [X7];trivial
 |v::l,b,i,H=>by
  rw [X7]
  refine⟨H 0 (by simp),X7.of (fun j hj=>?_)⟩
  have:=H (j+1) (by simpa using hj)
  rw [show i+1+j=i+(j+1) by omega]
  exact this
theorem VsRepS.get {S:Nat→Prop} {h:Heap} {x:Sl} {l:List Vl} (H:VsRepS S h x l) {j:Nat} (hj:j<l.length):∃a cs,x.base=some a∧S a.block∧cs.size=4∧(∀m,m<4→KM h (a.add (j*4+m))=cs[m]?)∧JE S h l[j] cs:=by
 have:=H.at_.get hj
 rw [Nat.zero_add]at this
 exact this
theorem KMq {k n:Int} {s:List UInt8} {l:List Vl} {m j:Nat} (hm:sizeOf (Vl.mk k n s l)<m+1) (hj:j<l.length):sizeOf l[j]<m:=by
 have:=List.sizeOf_lt_of_mem (List.getElem_mem hj)
 simp only [Vl.mk.sizeOf_spec]at hm
 omega
theorem KBN {S T:Nat→Prop} {h h':Heap} (e:∀b,S b→h'[b]?=h[b]?) (hT:∀b,S b→T b):∀(m:Nat) (v:Vl) (cs:Array Value),sizeOf v<m→JE S h v cs→JE T h' v cs:=by
 intro m
 induction m with
 |zero=>intro v cs hm;omega
 |succ m ih=>
  rintro⟨k,n,s,l⟩ cs hm H
  obtain⟨x,h1,h2,h3,h4,h5⟩:=JE.eq.1 H
  refine JE.eq.2 ⟨x,h1,h2,h3,h4,h5.len,h5.cap,h5.big,X7.of (fun j hj=>?_)⟩
  obtain⟨a,cs',ha,hS,hs,hc,hv⟩:=h5.at_.get hj
  refine⟨a,cs',ha,hT _ hS,hs,fun i hi=>?_,ih _ _ (KMq hm hj) hv⟩
  rw [←hc i hi]
  unfold KM
  rw [JS,e _ hS]
theorem JE.same {S:Nat→Prop} {h h':Heap} {v:Vl} {cs:Array Value} (H:JE S h v cs) (e:∀b,S b→h'[b]?=h[b]?):JE S h' v cs:=KBN e (fun _ h=>h) _ v cs (Nat.lt_succ_self _) H
theorem JE.mono {S T:Nat→Prop} {h:Heap} {v:Vl} {cs:Array Value} (H:JE S h v cs) (e:∀b,S b→T b):JE T h v cs:=KBN (fun _ _=>rfl) e _ v cs (Nat.lt_succ_self _) H
theorem KMr {S:Nat→Prop} {h:Heap}:∀(m:Nat) (v:Vl) (cs:Array Value),sizeOf v<m→JE S h v cs→VRep h v cs:=by
 intro m
 induction m with
 |zero=>intro v cs hm;omega
 |succ m ih=>
  rintro⟨k,n,s,l⟩ cs hm H
  obtain⟨x,h1,h2,h3,h4,h5⟩:=JE.eq.1 H
  refine VRep.eq.2 ⟨x,h1,h2,h3,h4,h5.len,h5.cap,h5.big,VsAt.of (fun j hj=>?_)⟩
  obtain⟨a,cs',ha,hS,hs,hc,hv⟩:=h5.at_.get hj
  exact⟨a,cs',ha,hs,hc,ih _ _ (KMq hm hj) hv⟩
theorem JE.to {S:Nat→Prop} {h:Heap} {v:Vl} {cs:Array Value} (H:JE S h v cs):VRep h v cs:=KMr _ v cs (Nat.lt_succ_self _) H
theorem XT {h:Heap} {a:Addr} {v:Value} (H:KM h a=some v):a.block<h.size:=by
 rcases Nat.lt_or_ge a.block h.size with h1|h1
 ·exact h1
 ·unfold KM at H
  rw [Array.getElem?_eq_none h1]at H
  cases H
theorem KPJ {h:Heap}:∀(m:Nat) (v:Vl) (cs:Array Value),sizeOf v<m→VRep h v cs→JE (· <h.size) h v cs:=by
 intro m
 induction m with
 |zero=>intro v cs hm;omega
 |succ m ih=>
  rintro⟨k,n,s,l⟩ cs hm H
  obtain⟨x,h1,h2,h3,h4,h5⟩:=VRep.eq.1 H
  refine JE.eq.2 ⟨x,h1,h2,h3,h4,h5.len,h5.cap,h5.big,X7.of (fun j hj=>?_)⟩
  obtain⟨a,cs',ha,hs,hc,hv⟩:=h5.at_.get hj
  refine⟨a,cs',ha,?_,hs,hc,ih _ _ (KMq hm hj) hv⟩
  have h0:=hc 0 (by decide)
  rw [Array.getElem?_eq_getElem (by omega)]at h0
  have:=XT h0
  rwa [JS]at this
theorem VRep.lt {h:Heap} {v:Vl} {cs:Array Value} (H:VRep h v cs):JE (· <h.size) h v cs:=KPJ _ v cs (Nat.lt_succ_self _) H
theorem VsRepS.to {S:Nat→Prop} {h:Heap} {x:Sl} {l:List Vl} (H:VsRepS S h x l):VsRep h x l:=
 ⟨H.len,H.cap,H.big,VsAt.of (fun j hj=>by obtain⟨a,cs,h1,h2,h3,h4,h5⟩:=H.at_.get hj;exact⟨a,cs,h1,h3,h4,h5.to⟩)⟩
theorem VsRepS.same {S T:Nat→Prop} {h h':Heap} {x:Sl} {l:List Vl} (H:VsRepS S h x l) (e:∀b,S b→h'[b]?=h[b]?) (hT:∀b,S b→T b):VsRepS T h' x l:=
 ⟨H.len,H.cap,H.big,X7.of (fun j hj=>by
  obtain⟨a,cs,h1,h2,h3,h4,h5⟩:=H.at_.get hj
  refine⟨a,cs,h1,hT _ h2,h3,fun i hi=>?_,KBN e hT _ _ _ (Nat.lt_succ_self _) h5⟩
  rw [←h4 i hi]
  unfold KM
  rw [JS,e _ h2])⟩
theorem VsRep.lt {h:Heap} {x:Sl} {l:List Vl} (H:VsRep h x l):VsRepS (· <h.size) h x l:=
 ⟨H.len,H.cap,H.big,X7.of (fun j hj=>by
  obtain⟨a,cs,h1,h3,h4,h5⟩:=H.at_.get hj
  refine⟨a,cs,h1,?_,h3,h4,h5.lt⟩
  have h0:=h4 0 (by decide)
  rw [Array.getElem?_eq_getElem (by omega)]at h0
  have:=XT h0
  rwa [JS]at this)⟩
theorem JE.size {S:Nat→Prop} {h:Heap} {v:Vl} {cs:Array Value} (H:JE S h v cs):cs.size=4:=H.to.size
def wt:Vl→Nat
 | .mk _ _ s l=>1+s.length+wts l
where wts:List Vl→Nat
 | []=>0
 |v::l=>wt v+wts l
theorem KQw (v:Vl):1≤wt v:=by cases v;rw [wt];omega
end Gx
namespace Gx
open Go
def Jh (css:List (Array Value)):List Value:=css.flatMap Array.toList
def W4 (css:List (Array Value)):Prop:=∀c∈css,c.size=4∧∀u∈c.toList,one u=true
theorem WT:∀{css:List (Array Value)},W4 css→(Jh css).length=css.length*4
 | [],_=>rfl
 |c::r,h=>by
  have:=WT (css:=r) (fun x hx=>h x (List.mem_cons_of_mem _ hx))
  have hc:=(h c (by simp)).1
  unfold Jh at this⊢
  rw [List.flatMap_cons,List.length_append,this,Array.length_toList,hc,List.length_cons];omega
theorem KC5:∀{css:List (Array Value)},W4 css→∀(i j:Nat),j<4→(Jh css)[i*4+j]?=(css[i]?).bind (fun c=>c[j]?)
 | [],_,i,j,_=>by simp [Jh]
 |c::r,h,i,j,hj=>by
  have hc:=(h c (by simp)).1
  unfold Jh
  rw [List.flatMap_cons]
  cases i with
  |zero=>rw [List.getElem?_append_left (by rw [Array.length_toList];omega)];simp
  |succ i=>
   rw [List.getElem?_append_right (by rw [Array.length_toList];omega),Array.length_toList,hc,show(i+1)*4+j - 4=i*4+j by omega]
   have:=KC5 (css:=r) (fun x hx=>h x (List.mem_cons_of_mem _ hx)) i j hj
   unfold Jh at this
   rw [this];simp
theorem KK0 {css:List (Array Value)} (h:W4 css):∀v∈Jh css,one v=true:=fun v hv=>by
 obtain⟨c,hc,hv⟩:=List.mem_flatMap.1 hv
 exact(h c hc).2 v hv
theorem W4.append {a b:List (Array Value)} (ha:W4 a) (hb:W4 b):W4 (a++b):=fun c hc=>(List.mem_append.1 hc).elim (ha c) (hb c)
theorem W4.set {a:List (Array Value)} (ha:W4 a) {i:Nat} {c:Array Value} (hc:c.size=4) (h1:∀u∈c.toList,one u=true):W4 (a.set i c):=fun x hx=>by
 rcases List.mem_or_eq_of_mem_set hx with h|rfl
 ·exact ha x h
 ·exact⟨hc,h1⟩
theorem KGS:∀{css:List (Array Value)},W4 css→∀(i:Nat) (c:Array Value),c.size=4→i<css.length→Jh (css.set i c)=(Jh css).take (i*4)++c.toList++(Jh css).drop (i*4+4)
 | [],_,i,c,_,hi=>by simp at hi
 |x::r,h,0,c,hc,_=>by
  have hx:=(h x (by simp)).1
  simp only [Jh,List.set_cons_zero,List.flatMap_cons]
  rw [show(0*4+4)=x.toList.length by rw [Array.length_toList,hx]]
  simp
 |x::r,h,i+1,c,hc,hi=>by
  have hx:=(h x (by simp)).1
  have ih:=KGS (css:=r) (fun y hy=>h y (List.mem_cons_of_mem _ hy)) i c hc (by simpa using hi)
  simp only [Jh,List.set_cons_succ,List.flatMap_cons]at ih⊢
  rw [ih]
  have e1:(i+1)*4=x.toList.length+i*4:=by rw [Array.length_toList,hx];omega
  rw [e1,List.take_length_add_append,show x.toList.length+i*4+4=x.toList.length+(i*4+4) by omega,List.drop_length_add_append]
  simp
theorem Gw.row4 {lo:Nat} {h:Heap} {r:Sl} {css:List (Array Value)} (G:Gw lo h r 4 (Jh css)) (hw:W4 css) {i:Nat} (hi:i<css.length):∃b,r.base=some ⟨b,0,none⟩∧Sl.on r b∧∀j,j<4→KM h ((⟨b,0,none⟩:Addr).add (i*4+j))=css[i][j]?:=by
 have hl:=WT hw
 rcases G with⟨rfl,he⟩|⟨b,ty,cells,R⟩
 ·rw [he]at hl;simp at hl;omega
 ·refine⟨b,R.base,⟨_,R.base,rfl⟩,fun j hj=>?_⟩
  rw [Ke,Nat.zero_add,KP R.blk]
  have h1:=KC5 hw i j hj
  rw [List.getElem?_eq_getElem hi]at h1
  have hc:=(hw _ (List.getElem_mem hi)).1
  have h2:css[i][j]?=some (css[i][j]'(by omega)):=Array.getElem?_eq_getElem (by omega)
  rw [h2]
  refine R.get _ _ ?_
  rw [h1]
  exact h2
theorem Gw.len4 {lo:Nat} {h:Heap} {r:Sl} {css:List (Array Value)} (G:Gw lo h r 4 (Jh css)) (hw:W4 css):r.len=css.length:=by
 have:=G.len
 rw [WT hw]at this
 omega
theorem KQx {β:Type} {lo:Nat} {h:Heap} {Q:β→Heap→Prop} {r:Sl} {css:List (Array Value)} {i:Nat} {t:Int} {c:Array Value} {f:Unit→M β} (G:Gw lo h r 4 (Jh css)) (hw:W4 css) (hi:i<css.length) (ht:t=(i:Int)) (hc:c.size=4) (h1:∀u∈c.toList,one u=true)
  (H:∀b h',r.base=some ⟨b,0,none⟩→Upd b h h'→Gw lo h' r 4 (Jh (css.set i c))→(f ()).wp h' Q):(ixL r t 4>>=fun a=>M.need (c.size=4)>>=fun _=>stG a c>>=f).wp h Q:=by
 subst ht
 have hl:=G.len4 hw
 obtain⟨b0,hb0,_,_⟩:=G.row4 hw hi
 rcases G with⟨rfl,he⟩|⟨b,ty,cells,R⟩
 ·cases hb0
 ·have hsz:=R.size
  have hcap:=R.cap
  refine X6 (by omega) (by omega) R.base (Zt hc ?_)
  rw [Ke,show 0+(i:Int).toNat*4=i*4 by omega]
  refine stR (vs:=c) R.blk (by omega) h1 (fun h' u g=>H b h' R.base u (.inr ⟨b,ty,_,R.base,R.lo,g,by rw [Gv];exact R.size,R.cap,?_,fun j v hj=>?_⟩))
  ·rw [WT (hw.set hc h1),List.length_set,hl]
  ·rw [KGS hw i c hc hi]at hj
   have hfl:=WT hw
   rw [←Array.getElem?_toList,N6 _ _ _ (by rw [Array.length_toList];omega),Array.length_toList,hc]
   have hlen1:((Jh css).take (i*4)).length=i*4:=by rw [List.length_take];omega
   have hlen2:(cells.toList.take (i*4)).length=i*4:=by rw [List.length_take,Array.length_toList];omega
   by_cases h1:j<i*4
   ·rw [List.append_assoc,List.getElem?_append_left (by omega),List.getElem?_take,if_pos h1]at hj
    rw [List.append_assoc,List.getElem?_append_left (by omega),List.getElem?_take,if_pos h1,Array.getElem?_toList]
    exact R.get j v hj
   ·by_cases h2:j<i*4+4
    ·rw [List.append_assoc,List.getElem?_append_right (by omega),hlen1,List.getElem?_append_left (by rw [Array.length_toList,hc];omega)]at hj
     rw [List.append_assoc,List.getElem?_append_right (by omega),hlen2,List.getElem?_append_left (by rw [Array.length_toList,hc];omega)]
     exact hj
    ·rw [List.getElem?_append_right (by rw [List.length_append,hlen1,Array.length_toList,hc];omega),List.length_append,hlen1,Array.length_toList,hc,List.getElem?_drop]at hj
     rw [List.getElem?_append_right (by rw [List.length_append,hlen2,Array.length_toList,hc];omega),List.length_append,hlen2,Array.length_toList,hc,List.getElem?_drop,Array.getElem?_toList]
     exact R.get _ v hj
structure VGw (lo:Nat) (S:Nat→Prop) (h:Heap) (r:Sl) (css:List (Array Value)) (l:List Vl):Prop where
 gw:Gw lo h r 4 (Jh css)
 w4:W4 css
 len:css.length=l.length
 rep:∀j (h1:j<l.length) (h2:j<css.length),JE S h l[j] css[j]
theorem VGw.nil (lo:Nat) (S:Nat→Prop) (h:Heap):VGw lo S h Sl.nil [] []:=⟨Gw.nil _ _ _,fun c hc=>(by cases hc),rfl,fun j h1=>(by cases h1)⟩
theorem VGw.rep_ {lo:Nat} {S:Nat→Prop} {h:Heap} {r:Sl} {css:List (Array Value)} {l:List Vl} (G:VGw lo S h r css l) (hl:l.length≤9223372036854775807):VsRepS (fun b=>S b∨Sl.on r b) h r l:=
 ⟨by rw [G.gw.len4 G.w4,G.len],G.gw.cap,by rw [G.gw.len4 G.w4,G.len];exact hl,X7.of (fun j hj=>by
  obtain⟨b,hb,hon,hc⟩:=G.gw.row4 G.w4 (i:=j) (by rw [G.len];exact hj)
  exact⟨_,css[j]'(by rw [G.len];exact hj),hb,.inr hon,(G.w4 _ (List.getElem_mem _)).1,fun m hm=>by rw [Nat.zero_add];exact hc m hm,(G.rep j hj (by rw [G.len];exact hj)).mono (fun b hb=>.inl hb)⟩)⟩
theorem VGw.same {lo:Nat} {S:Nat→Prop} {h h':Heap} {r:Sl} {css:List (Array Value)} {l:List Vl} (G:VGw lo S h r css l) (e1:∀b,Sl.on r b→h'[b]?=h[b]?) (e2:∀b,S b→h'[b]?=h[b]?):VGw lo S h' r css l:=
 ⟨G.gw.same e1,G.w4,G.len,fun j h1 h2=>(G.rep j h1 h2).same e2⟩
theorem VGw.mono {lo:Nat} {S T:Nat→Prop} {h:Heap} {r:Sl} {css:List (Array Value)} {l:List Vl} (G:VGw lo S h r css l) (e:∀b,S b→T b):VGw lo T h r css l:=
 ⟨G.gw,G.w4,G.len,fun j h1 h2=>(G.rep j h1 h2).mono e⟩
theorem KIP {lo:Nat} {S:Nat→Prop} {h:Heap} {Q:Sl→Heap→Prop} {r x:Sl} {css css':List (Array Value)} {l l':List Vl} (G:VGw lo S h r css l) (hlo:lo≤h.size) (hS:∀b,S b→b<h.size∧¬Sl.on r b) (hw:W4 css') (hl':css'.length=l'.length) (hx:x.len=l'.length) (hr:Gq h x.base (Jh css')) (hv:∀j (h1:j<l'.length) (h2:j<css'.length),JE S h l'[j] css'[j])
  (hm:l.length+l'.length≤2199023255552)
  (hq:∀h' r',VGw lo S h' r' (css++css') (l++l')→h.size≤h'.size→(∀i,i<h.size→¬Sl.on r i→h'[i]?=h[i]?)→(∀i,Sl.on r' i→Sl.on r i∨h.size≤i)→Q r' h'):(apL KH 4 56 (#[.int .i64 0,.int .i64 0,.string ByteArray.empty,.slice none 0 0]:Array Value) r x).wp h Q:=by
 have hrl:=G.gw.len4 G.w4
 have hgl:=G.len
 refine KA7 (vs:=Jh css) (news:=Jh css') rfl G.gw (by rw [WT hw,hl',hx]) hr (KK0 hw) (by omega) (by omega) hlo (fun h' r' G' hlen hs same on_=>?_)
 have he:∀b,S b→h'[b]?=h[b]?:=fun b hb=>same b (hS b hb).1 (hS b hb).2
 refine hq h' r' ⟨?_,G.w4.append hw,by rw [List.length_append,List.length_append,G.len,hl'],fun j h1 h2=>?_⟩ hs same on_
 ·unfold Jh at G'⊢
  rw [List.flatMap_append]
  exact G'
 ·by_cases hj:j<l.length
  ·rw [List.getElem_append_left hj,List.getElem_append_left (by rw [G.len];exact hj)]
   exact(G.rep j hj _).same he
  ·rw [List.getElem_append_right (by omega),List.getElem_append_right (by omega)]
   have h3:css.length=l.length:=G.len
   simp only [h3]
   exact(hv _ (by rw [List.length_append]at h1;omega) _).same he
end Gx
namespace Gx
open Go
theorem KMs {S:Nat→Prop} {h:Heap}:∀(m:Nat) (v:Vl) (cs:Array Value),sizeOf v<m→JE S h v cs→JE (fun b=>S b∧b<h.size) h v cs:=by
 intro m
 induction m with
 |zero=>intro v cs hm;omega
 |succ m ih=>
  rintro⟨k,n,s,l⟩ cs hm H
  obtain⟨x,h1,h2,h3,h4,h5⟩:=JE.eq.1 H
  refine JE.eq.2 ⟨x,h1,h2,h3,h4,h5.len,h5.cap,h5.big,X7.of (fun j hj=>?_)⟩
  obtain⟨a,cs',ha,hS,hs,hc,hv⟩:=h5.at_.get hj
  refine⟨a,cs',ha,⟨hS,?_⟩,hs,hc,ih _ _ (KMq hm hj) hv⟩
  have h0:=hc 0 (by decide)
  rw [Array.getElem?_eq_getElem (by omega)]at h0
  have:=XT h0
  rwa [JS]at this
theorem JE.lt2 {S:Nat→Prop} {h:Heap} {v:Vl} {cs:Array Value} (H:JE S h v cs):JE (fun b=>S b∧b<h.size) h v cs:=KMs _ v cs (Nat.lt_succ_self _) H
theorem Zy (k n:Int) (s:List UInt8) (x:Sl):∀v∈(UH k n s x).toList,one v=true:=fun v hv=>by
 simp only [UH,List.mem_cons,List.not_mem_nil,or_false]at hv
 rcases hv with rfl|rfl|rfl|rfl<;>first|rfl|exact qy _
def vl0:Vl:=.mk 0 0 [] []
theorem KHT (S:Nat→Prop) (h:Heap):JE S h vl0 (#[.int .i64 0,.int .i64 0,.string ByteArray.empty,.slice none 0 0]:Array Value):=
 JE.eq.2 ⟨Sl.nil,rfl,⟨by decide,by decide⟩,⟨by decide,by decide⟩,by decide,rfl,Nat.le_refl _,by decide,by rw [X7];trivial⟩
end Gx
namespace Gx
open Go Go.Proofs Go.Shelf Go.RowKit Go.Lib
structure Rd (h:Heap) (b:Nat) (s:List UInt8) (i:Nat):Prop where
 blk:h[b]?=some (.cells #[.string (bs s),.int .i64 (i:Int)] Xe (0,0))
 le:i≤s.length
 small:s.length≤1099511627776
def KV (s:List UInt8) (i:Nat):UInt8:=(s[i]?).getD 0
def N1 (e:Nat):Value:=.iface JP (.agg #[.int .i64 (e:Int)])
abbrev Kb (b:Nat):Heap→Heap→Prop:=Km (fun k=>k=b)
theorem Rd.ext {h h':Heap} {b:Nat} {s:List UInt8} {i:Nat} (R:Rd h b s i) (e:Ext h h'):Rd h' b s i:=⟨e.blk R.blk,R.le,R.small⟩
theorem Rd.lt {h:Heap} {b:Nat} {s:List UInt8} {i:Nat} (R:Rd h b s i):b<h.size:=JT R.blk
theorem ErrV.km {h h':Heap} {b:Nat} (H:ErrV h) (k:Kb b h h') (hb:b≠gER):ErrV h':=by
 obtain⟨t,p,hc⟩:=H
 refine⟨t,p,?_⟩
 have h5:gER<h.size:=XT hc
 have:=k.same gER h5 (fun e=>hb e.symm)
 unfold KM at hc⊢
 rw [this]
 exact hc
theorem Vi {s:List UInt8} {i:Nat} (h:KV s i≠0):i<s.length:=by
 by_cases hi:i<s.length
 ·exact hi
 ·unfold KV at h
  rw [List.getElem?_eq_none (by omega)]at h
  exact absurd rfl h
theorem GH {s:List UInt8} {i:Nat} (hi:i<s.length):KV s i=s[i]:=by unfold KV;rw [List.getElem?_eq_getElem hi];rfl
section
variable {β:Type} {h:Heap} {Q:β→Heap→Prop} {b i:Nat} {s:List UInt8}
theorem KHU {f:ByteArray→M β} (R:Rd h b s i) (H:(f (bs s)).wp h Q):(ldS ((⟨b,0,none⟩:Addr).add 0)>>=f).wp h Q:=Yh (by rw [Ke,KP R.blk];rfl) H
theorem KB4 {f:Int→M β} (R:Rd h b s i) (H:(f (i:Int)).wp h Q):(ldI .i64 ((⟨b,0,none⟩:Addr).add 1)>>=f).wp h Q:=ZC (by rw [Ke,KP R.blk];rfl) H
theorem KR0 {f:Unit→M β} (R:Rd h b s i) (hi:i<s.length) (H:∀h',Upd b h h'→Rd h' b s (i+1)→(f ()).wp h' Q):(stV ((⟨b,0,none⟩:Addr).add 1) (.int .i64 (IntKind.wrap .i64 ((i:Int)+1)))>>=f).wp h Q:=by
 have hsm:=R.small
 rw [w64 (by omega) (by omega)]
 refine Gu (x:=.int .i64 (i:Int)) (by rw [Ke,KP R.blk];rfl) (by rw [Ke];exact ZL R.blk) rfl ?_
 rw [Ke]
 exact H _ (Upd.hset _ _ _ _) ⟨Ul R.blk,hi,hsm⟩
theorem KC6 {f:Unit→M β} (R:Rd h b s i) (hi:i<s.length) (H:∀h',Upd b h h'→Rd h' b s (i+1)→(f ()).wp h' Q):
  (nilP (some ⟨b,0,none⟩)>>=fun x=>ldI .i64 (x.add 1)>>=fun y=>nilP (some ⟨b,0,none⟩)>>=fun z=>stV (z.add 1) (.int .i64 (IntKind.wrap .i64 (y+1)))>>=f).wp h Q:=
 Zi (KB4 R (Zi (KR0 R hi H)))
end
theorem Vb {h:Heap} {Q:Int→Heap→Prop} {b i:Nat} {s:List UInt8} (R:Rd h b s i) (H:Q ((KV s i).toNat:Int) h):(Ku (some ⟨b,0,none⟩)).wp h Q:=by
 unfold Ku
 refine Zi (Zi (KB4 R (KHU R ?_)))
 rw [Zc]
 refine KY (fun hc=>?_) (fun hc=>KI ?_)
 ·have hi:i<s.length:=by have:=of_decide_eq_true hc;omega
  refine Zi (Zi (KHU R (KB4 R (NI rfl hi (KI ?_)))))
  rw [←GH hi]
  exact H
 ·have hi:¬i<s.length:=by have:=of_decide_eq_false hc;omega
  unfold KV at H
  rw [List.getElem?_eq_none (by omega)]at H
  exact H
theorem WU {h:Heap} {Q:Value⊕Unit→Heap→Prop} {b i:Nat} {s:List UInt8} (R:Rd h b s i) (H:Q (.inl (N1 i)) h):(ZE (some ⟨b,0,none⟩)).wp h Q:=by
 unfold ZE
 exact Zi (KB4 R (KI H))
theorem KBO {c:UInt8} {h:Heap} {Q:Bool→Heap→Prop} (H:Q (digB c) h):(YU (c.toNat:Int)).wp h Q:=by
 unfold YU
 refine Wf (c:=decide ((c.toNat:Int)≤57)) (fun _ Q' hq=>KI hq) (KI ?_)
 rw [show(decide ((c.toNat:Int)≥48)&&decide ((c.toNat:Int)≤57))=digB c by
  unfold digB
  congr 1
  ·exact decide_eq_decide.2 (by omega)
  ·exact decide_eq_decide.2 (by omega)]
 exact H
def GM (s:List UInt8):List UInt8→Nat→Except Nat Nat
 | [],i=>.ok i
 |c::r,i=>if s[i]?=some c then GM s r (i+1)else .error i
theorem Vm {s:List UInt8}:∀{lit:List UInt8} {i j:Nat},GM s lit i=.ok j→j=i+lit.length∧(lit≠[]→j≤s.length)∧(s.drop i).take lit.length=lit
 | [],i,j,h=>by cases h;exact⟨rfl,fun h=>absurd rfl h,by simp⟩
 |c::r,i,j,h=>by
  unfold GM at h
  split at h
  ·rename_i hc
   obtain⟨h1,h2,h3⟩:=Vm h
   have hi:i<s.length:=(List.getElem?_eq_some_iff.1 hc).1
   refine⟨by rw [h1,List.length_cons];omega,fun _=>?_,?_⟩
   ·by_cases hr:r=[]
    ·subst hr;rw [h1];exact hi
    ·exact h2 hr
   ·rw [List.drop_eq_getElem_cons hi,List.length_cons,List.take_succ_cons,h3]
    rw [(List.getElem?_eq_some_iff.1 hc).2]
  ·cases h
theorem Yv {h:Heap} {Q:Value⊕Unit→Heap→Prop} {b i:Nat} {s lit:List UInt8} (R:Rd h b s i) (hl:lit.length≤1000)
  (H1:∀j h',GM s lit i=.ok j→Kb b h h'→Rd h' b s j→Q (.inr ()) h') (H2:∀e h',GM s lit i=.error e→Kb b h h'→Q (.inl (N1 e)) h'):(ZO (some ⟨b,0,none⟩) (bs lit)).wp h Q:=by
 unfold ZO
 rw [Zc]
 refine M.loop_inv (fun(x:Int) hh=>∃k i':Nat,x=(k:Int)∧k≤lit.length∧Kb b h hh∧Rd hh b s i'∧GM s (lit.drop k) i'=GM s lit i) (fun x _=>((lit.length:Int) - x).toNat) ?_ ⟨0,i,rfl,Nat.zero_le _,Km.refl _ _,R,rfl⟩
 rintro x hh ⟨k,i',rfl,hk,K,R',hm⟩ self hself
 unfold Ut
 refine KY (fun hc=>?_) (fun hc=>?_)
 ·have hkl:k<lit.length:=by have:=of_decide_eq_true hc;omega
  rw [List.drop_eq_getElem_cons hkl,GM]at hm
  refine Zi (Zi (KB4 R' (KHU R' ?_)))
  rw [Zc]
  have hfail:s[i']?≠some lit[k]→(Z2 self (some ⟨b,0,none⟩) (k:Int) true).wp hh Q:=fun hne=>by
   unfold Z2
   refine iteT rfl (WU R' ?_)
   rw [if_neg hne]at hm
   exact H2 _ _ hm.symm K
  refine KY (fun hge=>?_) (fun hlt=>?_)
  ·refine hfail ?_
   have:=of_decide_eq_true hge
   rw [List.getElem?_eq_none (by omega)]
   intro h;cases h
  ·have hil:i'<s.length:=by have:=of_decide_eq_false hlt;omega
   refine Zi (Zi (NI rfl hkl (KHU R' (KB4 R' (NI rfl hil ?_)))))
   by_cases he:s[i']=lit[k]
   ·rw [show(((s[i']).toNat:Int) !=((lit[k]).toNat:Int))=false by rw [he];simp]
    unfold Z2 UF
    refine iteF rfl (KC6 R' hil (fun h2 u R2=>?_))
    rw [w64 (by omega) (by omega)]
    rw [if_pos (by rw [List.getElem?_eq_getElem hil,he])]at hm
    exact hself _ _ ⟨k+1,i'+1,by omega,by omega,K.trans (Km.upd u rfl),R2,hm⟩ (by omega)
   ·rw [show(((s[i']).toNat:Int) !=((lit[k]).toNat:Int))=true by
     rw [bne_iff_ne]
     intro h
     exact he (UInt8.toNat_inj.1 (by omega))]
    refine hfail ?_
    rw [List.getElem?_eq_getElem hil]
    intro h
    exact he (Option.some.inj h)
 ·have hkl:k=lit.length:=by have:=of_decide_eq_false hc;omega
  subst hkl
  rw [List.drop_length,GM]at hm
  exact KI (H1 _ _ hm.symm K R')
def numL (s:List UInt8) (fr:Nat):Nat→Nat→Int→Except Nat (Int×Nat)
 |0,i,n=>.ok (n,i)
 |f+1,i,n=>if digB (KV s i)=true then
   (if(numP ((s.drop fr).take (i+1 - fr))).2=7 then .error i else if(numP ((s.drop fr).take (i+1 - fr))).2≠0 then .ok (n,i)else numL s fr f (i+1) (numP ((s.drop fr).take (i+1 - fr))).1)
  else .ok (n,i)
def numJ (s:List UInt8) (i:Nat):Nat:=if KV s i=45 then i+1 else i
def numF (s:List UInt8) (i:Nat):Except Nat (Int×Nat):=
 if digB (KV s (numJ s i))=false∨(i<numJ s i∧KV s (numJ s i)=48)then .error (numJ s i)else numL s i (s.length - numJ s i) (numJ s i) 0
theorem KIQ {s:List UInt8} {i:Nat} (h:digB (KV s i)=true):i<s.length:=by
 refine Vi (fun e=>?_)
 rw [e]at h
 exact absurd h (by decide)
theorem KK1 {h:Heap} {Q:Value⊕Int→Heap→Prop} {b i fr:Nat} {s:List UInt8} (R:Rd h b s i) (he:ErrV h) (hb:b≠gER) (hfr:fr≤i)
  (H1:∀n j h',numL s fr (s.length - i) i 0=.ok (n,j)→Kb b h h'→Rd h' b s j→Q (.inr n) h') (H2:∀e h',numL s fr (s.length - i) i 0=.error e→Kb b h h'→Q (.inl (N1 e)) h'):(Z6 (some ⟨b,0,none⟩) (fr:Int)).wp h Q:=by
 unfold Z6
 refine M.loop_inv (fun(x:Int) hh=>∃i':Nat,fr≤i'∧Kb b h hh∧Rd hh b s i'∧(∃hx:hh[b]?=some (.cells #[.string (bs s),.int .i64 (i':Int)] Xe (0,0)),True)∧numL s fr (s.length - i') i' x=numL s fr (s.length - i) i 0)
  (fun x hh=>match hh[b]? with|some (.cells #[_,.int _ z] _ _)=>s.length - z.toNat|_=>0) ?_ ⟨i,hfr,Km.refl _ _,R,⟨R.blk,trivial⟩,rfl⟩
 rintro x hh ⟨i',hfi,K,R',⟨hx,_⟩,hm⟩ self hself
 have hsm:=R'.small
 unfold UV
 refine KL (Vb R' (KL (KBO ?_)))
 refine KY (fun hd=>?_) (fun hd=>?_)
 ·have hil:=KIQ hd
  rw [show s.length - i'=(s.length - (i'+1))+1 by omega,numL,if_pos hd]at hm
  refine Zi (Zi (KHU R' (KB4 R' ?_)))
  rw [w64 (by omega) (by omega)]
  refine KN6 (a:=fr) (b:=i'+1) rfl (by omega) (by omega) (by omega) (KL (GI (KHQ _) (KDw ?_ (he.km K hb) (fun h2 e2=>?_))))
  ·rw [List.length_take,List.length_drop];omega
  have R2:=R'.ext e2
  refine KY (fun h7=>?_) (fun h7=>?_)
  ·rw [eqI,decide_eq_true_iff]at h7
   rw [if_pos h7]at hm
   exact WU R2 (H2 _ _ hm.symm (K.trans (Km.ext e2)))
  ·rw [eqI,decide_eq_false_iff_not]at h7
   rw [if_neg h7]at hm
   unfold Jl
   refine KY (fun h0=>?_) (fun h0=>?_)
   ·rw [bne_iff_ne]at h0
    rw [if_pos h0]at hm
    exact KI (H1 _ _ _ hm.symm (K.trans (Km.ext e2)) R2)
   ·have h0:¬(numP ((s.drop fr).take (i'+1 - fr))).2≠0:=by
     intro hne
     rw [(bne_iff_ne).2 hne]at h0
     cases h0
    rw [if_neg h0]at hm
    refine KC6 R2 hil (fun h3 u3 R3=>?_)
    refine hself _ _ ⟨i'+1,by omega,(K.trans (Km.ext e2)).trans (Km.upd u3 rfl),R3,⟨R3.blk,trivial⟩,hm⟩ ?_
    rw [R3.blk,hx]
    show s.length - ((i'+1:Nat):Int).toNat<s.length - ((i':Nat):Int).toNat
    omega
 ·have:numL s fr (s.length - i') i' x=.ok (x,i'):=by
   cases hf:s.length - i' with
   |zero=>rfl
   |succ f=>rw [numL,if_neg (by rw [hd];decide)]
  rw [this]at hm
  exact KI (H1 _ _ _ hm.symm K R')
theorem KC7 {h:Heap} {Q:Value⊕Int→Heap→Prop} {b i:Nat} {s:List UInt8} (R:Rd h b s i) (he:ErrV h) (hb:b≠gER)
  (H1:∀n j h',numF s i=.ok (n,j)→Kb b h h'→Rd h' b s j→Q (.inr n) h') (H2:∀e h',numF s i=.error e→Kb b h h'→Q (.inl (N1 e)) h'):(Jp (some ⟨b,0,none⟩)).wp h Q:=by
 unfold Jp
 have key:∀h1,Kb b h h1→Rd h1 b s (numJ s i)→(Z7 (some ⟨b,0,none⟩) (i:Int)).wp h1 Q:=by
  intro h1 K1 R1
  unfold Z7
  have hij:i≤numJ s i:=by unfold numJ;split<;>omega
  refine Zi (KB4 R1 (KL (Vb R1 (KL (KBO ?_)))))
  refine or_b (c:=decide (i<numJ s i)&&decide (KV s (numJ s i)=48)) (fun hd Q' hq=>?_) ?_
  ·refine Kf (Wf (c:=decide (KV s (numJ s i)=48)) (fun _ Q2 hq2=>KL (Vb R1 (KI ?_))) (ZM (KI ?_)))
   ·rw [KQr,decide_eq_decide.2 (show some (KV s (numJ s i))=some 48↔KV s (numJ s i)=48 from⟨Option.some.inj,congrArg _⟩)]
    exact hq2
   ·rw [show decide (((numJ s i:Nat):Int)>(i:Int))=decide (i<numJ s i)from decide_eq_decide.2 (by omega)]
    exact hq
  ·refine KY (fun hbad=>?_) (fun hok=>?_)
   ·refine WU R1 (H2 _ _ ?_ K1)
    unfold numF
    rw [if_pos]
    rw [Bool.or_eq_true,Bool.and_eq_true,decide_eq_true_iff,decide_eq_true_iff,Bool.not_eq_true']at hbad
    exact hbad
   ·have hn:¬(digB (KV s (numJ s i))=false∨(i<numJ s i∧KV s (numJ s i)=48)):=by
     intro hh
     rw [←Bool.not_eq_true',←decide_eq_true_iff (p:=i<numJ s i),←decide_eq_true_iff (p:=KV s (numJ s i)=48),←Bool.and_eq_true,←Bool.or_eq_true,hok]at hh
     cases hh
    have hF:numF s i=numL s i (s.length - numJ s i) (numJ s i) 0:=by unfold numF;rw [if_neg hn]
    rw [hF]at H1 H2
    exact KK1 R1 (he.km K1 hb) hb hij (fun n j h2 e K2 R2=>H1 n j h2 e (K1.trans K2) R2) (fun e h2 hm K2=>H2 e h2 hm (K1.trans K2))
 refine Zi (KB4 R (KL (Vb R ?_)))
 refine KY (fun hc=>?_) (fun hc=>?_)
 ·have h45:KV s i=45:=by
   rw [KPG,decide_eq_true_iff]at hc
   exact Option.some.inj hc
  refine KC6 R (Vi (by rw [h45];decide)) (fun h1 u1 R1=>key _ (Km.upd u1 rfl) ?_)
  unfold numJ
  rw [if_pos h45]
  exact R1
 ·have h45:¬KV s i=45:=by
   rw [KPG,decide_eq_false_iff_not]at hc
   exact fun e=>hc (congrArg _ e)
  refine key _ (Km.refl _ _) ?_
  unfold numJ
  rw [if_neg h45]
  exact R
end Gx
namespace Gx
open Go Go.Proofs Go.Shelf Go.RowKit Go.Lib
def hexD:List UInt8:=[48,49,50,51,52,53,54,55,56,57,97,98,99,100,101,102]
def hexN (c:UInt8):Int:=Lib.indexByte hexD c
theorem KBk:∀(l:List UInt8) (c:UInt8),Lib.indexByte l c+1≤(l.length:Int)
 | [],c=>by simp [Lib.indexByte]
 |b::l,c=>by
  have:=KBk l c
  unfold Lib.indexByte
  rw [List.length_cons]
  split
  ·omega
  ·split<;>omega
theorem KC8 (c:UInt8):hexN c≤15:=by
 have:=KBk hexD c
 have h2:(hexD.length:Int)=16:=rfl
 unfold hexN
 omega
theorem KGT:hexN 0=-1:=by decide+kernel
theorem KMt:∀a b:Fin 16,IntKind.wrap .u8 (iOr .i64 (iShl .i64 (a.val:Int) 4) (b.val:Int))=((UInt8.ofNat (((a.val:Int)*16+(b.val:Int)).toNat)).toNat:Int):=by decide+kernel
theorem hexb {x y:Int} (hx:0≤x) (hx2:x≤15) (hy:0≤y) (hy2:y≤15):IntKind.wrap .u8 (iOr .i64 (iShl .i64 x 4) y)=((UInt8.ofNat ((x*16+y).toNat)).toNat:Int):=by
 have:=KMt ⟨x.toNat,by omega⟩ ⟨y.toNat,by omega⟩
 simp only [Int.toNat_of_nonneg hx,Int.toNat_of_nonneg hy]at this
 exact this
theorem KIR {c:UInt8} {h:Heap} {Q:Int→Heap→Prop} (H:Q (hexN c) h):(JG (⟨#[48,49,50,51,52,53,54,55,56,57,97,98,99,100,101,102]⟩:ByteArray) (c.toNat:Int)).wp h Q:=by
 unfold JG Zf
 refine KL (KI (KI ?_))
 have:(c.toNat:Int).toNat.toUInt8=c:=by rw [Int.toNat_natCast];simp
 rw [this]
 exact H
def escP (s:List UInt8) (i:Nat):Except Nat (UInt8×Nat):=
 if KV s i=39∨KV s i=92 then .ok (KV s i,i+1)
 else match GM s [120] i with
  | .error e=>.error e
  | .ok j=>if hexN (KV s j)<0∨(1<hexN (KV s j)∧hexN (KV s j)<7)then .error j
   else if hexN (KV s (j+1))<0∨(hexN (KV s j)=7∧hexN (KV s (j+1))<15)then .error (j+1)
   else .ok (UInt8.ofNat ((hexN (KV s j)*16+hexN (KV s (j+1))).toNat),j+2)
theorem KK2 {s:List UInt8} {i:Nat} (h:0≤hexN (KV s i)):i<s.length:=by
 refine Vi (fun e=>?_)
 rw [e,KGT]at h
 omega
theorem u8_c {c d:UInt8} {n:Int} (hn:n=(d.toNat:Int)):((c.toNat:Int)==n)=decide (c=d):=by
 subst hn
 rw [eqI]
 refine decide_eq_decide.2 ⟨fun h=>UInt8.toNat_inj.1 (by omega),fun h=>by rw [h]⟩
theorem KMu {h:Heap} {Q:Value⊕Int→Heap→Prop} {b i:Nat} {s:List UInt8} (R:Rd h b s i)
  (H1:∀(c:UInt8) j h',escP s i=.ok (c,j)→Kb b h h'→Rd h' b s j→Q (.inr (c.toNat:Int)) h') (H2:∀e h',escP s i=.error e→Kb b h h'→Q (.inl (N1 e)) h'):(UG (some ⟨b,0,none⟩)).wp h Q:=by
 unfold UG
 refine KL (Vb R ?_)
 rw [u8_c (d:=39) (n:=39) rfl,u8_c (d:=92) (n:=92) rfl]
 refine or_b (c:=decide (KV s i=92)) (fun _ Q' hq=>KI hq) ?_
 refine KY (fun hc=>?_) (fun hc=>?_)
 ·rw [Bool.or_eq_true,decide_eq_true_iff,decide_eq_true_iff]at hc
  have hi:i<s.length:=Vi (by rcases hc with h|h<;>(rw [h];decide))
  refine KC6 R hi (fun h1 u1 R1=>KI (H1 _ _ _ ?_ (Km.upd u1 rfl) R1))
  unfold escP
  rw [if_pos hc]
 ·have hc':¬(KV s i=39∨KV s i=92):=by
   intro hh
   rw [←decide_eq_true_iff (p:=KV s i=39),←decide_eq_true_iff (p:=KV s i=92),←Bool.or_eq_true,hc]at hh
   cases hh
  refine Zv (Yv (lit:=[120]) R (by decide) (fun j h1 hj K1 R1=>?_) (fun e h1 hj K1=>?_))
  ·have hE:escP s i=if hexN (KV s j)<0∨(1<hexN (KV s j)∧hexN (KV s j)<7)then .error j
     else if hexN (KV s (j+1))<0∨(hexN (KV s j)=7∧hexN (KV s (j+1))<15)then .error (j+1)
     else .ok (UInt8.ofNat ((hexN (KV s j)*16+hexN (KV s (j+1))).toNat),j+2):=by
    unfold escP
    rw [if_neg hc',hj]
   refine KL (Vb R1 (KL (KIR ?_)))
   refine Zi (Zi (KB4 R1 (KHU R1 ?_)))
   have hbad:(hexN (KV s j)<0∨(1<hexN (KV s j)∧hexN (KV s j)<7))→(Ky (some ⟨b,0,none⟩) (hexN (KV s j)) true).wp h1 Q:=fun hb=>by
    unfold Ky
    rw [if_pos hb]at hE
    exact iteT rfl (WU R1 (H2 _ _ hE K1))
   have hgood:¬(hexN (KV s j)<0∨(1<hexN (KV s j)∧hexN (KV s j)<7))→(Ky (some ⟨b,0,none⟩) (hexN (KV s j)) false).wp h1 Q:=fun hb=>by
    unfold Ky JV
    rw [if_neg hb]at hE
    have hjl:j<s.length:=KK2 (by omega)
    refine iteF rfl (KC6 R1 hjl (fun h2 u2 R2=>?_))
    have K2:Kb b h h2:=K1.trans (Km.upd u2 rfl)
    refine KL (Vb R2 (KL (KIR ?_)))
    refine Zi (Zi (KB4 R2 (KHU R2 ?_)))
    have hbad2:(hexN (KV s (j+1))<0∨(hexN (KV s j)=7∧hexN (KV s (j+1))<15))→(Kx (some ⟨b,0,none⟩) (hexN (KV s j)) (hexN (KV s (j+1))) true).wp h2 Q:=fun hb=>by
     unfold Kx
     rw [if_pos hb]at hE
     exact iteT rfl (WU R2 (H2 _ _ hE K2))
    have hgood2:¬(hexN (KV s (j+1))<0∨(hexN (KV s j)=7∧hexN (KV s (j+1))<15))→(Kx (some ⟨b,0,none⟩) (hexN (KV s j)) (hexN (KV s (j+1))) false).wp h2 Q:=fun hb2=>by
     unfold Kx JU
     rw [if_neg hb2]at hE
     have hjl2:j+1<s.length:=KK2 (by omega)
     refine iteF rfl (KC6 R2 hjl2 (fun h3 u3 R3=>KI ?_))
     rw [hexb (by omega) (KC8 _) (by omega) (KC8 _)]
     exact H1 _ _ _ hE (K2.trans (Km.upd u3 rfl)) R3
    refine KY (fun hge=>?_) (fun hlt=>?_)
    ·refine hbad2 (.inl ?_)
     have hge:=of_decide_eq_true hge
     rw [Zc]at hge
     have:KV s (j+1)=0:=by unfold KV;rw [List.getElem?_eq_none (by omega)];rfl
     rw [this,KGT];decide
    ·refine KY (fun hn=>hbad2 (.inl (of_decide_eq_true hn))) (fun hn=>?_)
     have hn:=of_decide_eq_false hn
     refine KY (fun h7=>?_) (fun h7=>?_)
     ·rw [eqI,decide_eq_true_iff]at h7
      by_cases h15:hexN (KV s (j+1))<15
      ·rw [decide_eq_true h15]
       exact hbad2 (.inr ⟨h7,h15⟩)
      ·rw [decide_eq_false h15]
       exact hgood2 (fun hh=>hh.elim hn (fun hh=>h15 hh.2))
     ·rw [eqI,decide_eq_false_iff_not]at h7
      exact hgood2 (fun hh=>hh.elim hn (fun hh=>h7 hh.1))
   refine KY (fun hge=>?_) (fun hlt=>?_)
   ·refine hbad (.inl ?_)
    have hge:=of_decide_eq_true hge
    rw [Zc]at hge
    have:KV s j=0:=by unfold KV;rw [List.getElem?_eq_none (by omega)];rfl
    rw [this,KGT];decide
   ·refine KY (fun hn=>hbad (.inl (of_decide_eq_true hn))) (fun hn=>?_)
    have hn:=of_decide_eq_false hn
    refine KY (fun h1'=>?_) (fun h1'=>?_)
    ·have h1':=of_decide_eq_true h1'
     by_cases h7:hexN (KV s j)<7
     ·rw [decide_eq_true h7]
      exact hbad (.inr ⟨h1',h7⟩)
     ·rw [decide_eq_false h7]
      exact hgood (fun hh=>hh.elim hn (fun hh=>h7 hh.2))
    ·have h1':=of_decide_eq_false h1'
     exact hgood (fun hh=>hh.elim hn (fun hh=>h1' hh.1))
  ·refine H2 e h1 ?_ K1
   unfold escP
   rw [if_neg hc',hj]
theorem KK5 {s:List UInt8} {i j:Nat} {c:UInt8} (h:escP s i=.ok (c,j)):i<j∧j≤s.length:=by
 unfold escP at h
 split at h
 ·rename_i hc
  have hi:i<s.length:=Vi (by rcases hc with h|h<;>(rw [h];decide))
  cases h
  omega
 ·split at h
  ·cases h
  ·rename_i j' hj
   obtain⟨h1,h2,_⟩:=Vm hj
   split at h
   ·cases h
   ·split at h
    ·cases h
    ·rename_i hn
     have:=KK2 (s:=s) (i:=j'+1) (by omega)
     cases h
     have:j'=i+1:=h1
     omega
def strL (s:List UInt8):Nat→Nat→List UInt8→Except Nat (List UInt8×Nat)
 |0,i,_=>.error i
 |f+1,i,acc=>
  if KV s i=39 then .ok (acc,i+1)
  else if(KV s i).toNat<32∨126<(KV s i).toNat then .error i
  else if KV s i=92 then(match escP s (i+1)with| .error e=>.error e| .ok (d,j)=>strL s f j (acc++[d]))
  else strL s f (i+1) (acc++[KV s i])
def strP (s:List UInt8) (i:Nat):Except Nat (List UInt8×Nat):=match GM s [39] i with| .error e=>.error e| .ok j=>strL s (s.length+1 - j) j []
theorem KMv {β:Type} {lo:Nat} {h:Heap} {Q:β→Heap→Prop} {r:Sl} {l:List UInt8} {c:UInt8} {f:Sl→M β} (G:Gw lo h r 1 (l.map bv)) (hle:lo≤h.size) (hm:l.length≤1099511627776)
  (H:∀h' r',Gw lo h' r' 1 ((l++[c]).map bv)→h.size≤h'.size→(∀j,j<lo→h'[j]?=h[j]?)→(f r').wp h' Q):(bdL ZJ 1 #[.int .u8 (c.toNat:Int)]>>=fun x=>apL ZJ 1 1 (#[.int .u8 0]:Array Value) r x>>=f).wp h Q:=by
 refine Nh ?_
 have e6:=Ext.push h (.cells #[.int .u8 (c.toNat:Int)] ZJ)
 have g6:(h.push (.cells #[.int .u8 (c.toNat:Int)] ZJ))[h.size]?=some (.cells #[.int .u8 (c.toNat:Int)] ZJ (0,0)):=ZH
 generalize h.push (.cells #[.int .u8 (c.toNat:Int)] ZJ)=h6 at e6 g6⊢
 have G6:=G.ext e6
 have hrl:=G6.len
 rw [List.length_map,Nat.mul_one]at hrl
 refine KA7 (vs:=l.map bv) (news:=[bv c]) rfl G6 rfl (.inr ⟨_,rfl,fun j v hj=>?_⟩) (fun v hv=>by simp at hv;subst hv;rfl) (by dsimp only;omega) (by dsimp only;omega) (by have:=e6.size;omega) (fun h7 r7 G7 hlen7 hs7 same7 on7=>?_)
 ·rw [Ke,Nat.zero_add,KP g6]
  rw [show(#[.int .u8 (c.toNat:Int)]:Array Value)=[bv c].toArray from rfl]
  simpa using hj
 ·refine H h7 r7 (by rw [List.map_append];exact G7) (Nat.le_trans e6.size hs7) (fun j hj=>(same7 j (by have:=e6.size;omega) (fun ho=>by have:=(G6.lt ho).2;omega)).trans (e6.same j (by omega)))
theorem KMw {h:Heap} {Q:Value⊕ByteArray→Heap→Prop} {b i:Nat} {s:List UInt8} (R:Rd h b s i)
  (H1:∀t j h',strP s i=.ok (t,j)→Kb b h h'→Rd h' b s j→Q (.inr (bs t)) h') (H2:∀e h',strP s i=.error e→Kb b h h'→Q (.inl (N1 e)) h'):(VZ (some ⟨b,0,none⟩)).wp h Q:=by
 unfold VZ
 refine Zv (Yv (lit:=[39]) R (by decide) (fun j h1 hj K1 R1=>?_) (fun e h1 hj K1=>?_))
 ·have hP:strP s i=strL s (s.length+1 - j) j []:=by unfold strP;rw [hj]
  rw [hP]at H1 H2
  have hb:=R1.lt
  refine M.loop_inv (fun(x:Sl) hh=>∃(acc:List UInt8) (f i':Nat),s.length<f+i'∧acc.length≤i'∧Kb b h1 hh∧Rd hh b s i'∧Gw h1.size hh x 1 (acc.map bv)∧strL s f i' acc=strL s (s.length+1 - j) j [])
   (fun x _=>s.length+1 - x.len) ?_ ⟨[],_,j,by have:=R1.le;omega,Nat.zero_le _,Km.refl _ _,R1,Gw.nil _ _ _,rfl⟩
  rintro x hh ⟨acc,f,i',hf,hai,K,R',G,hm⟩ self hself
  have hsm:=R'.small
  have hle:=R'.le
  have hxl:=G.len
  rw [List.length_map,Nat.mul_one]at hxl
  obtain⟨f,rfl⟩:∃g,f=g+1:=⟨f - 1,by omega⟩
  rw [strL]at hm
  unfold VQ
  refine KL (Vb R' ?_)
  rw [show(((KV s i').toNat:Int) !=39)=!decide (KV s i'=39) by rw [←u8_c (d:=39) (n:=39) rfl];rfl]
  refine KY (fun hne=>?_) (fun heq=>?_)
  ·have hne:KV s i'≠39:=by simpa using hne
   rw [if_neg hne]at hm
   refine KL (Vb R' ?_)
   refine or_b (c:=decide (((KV s i').toNat:Int)>126)) (fun _ Q' hq=>KI hq) ?_
   refine KY (fun hbad=>?_) (fun hok=>?_)
   ·rw [Bool.or_eq_true,decide_eq_true_iff,decide_eq_true_iff]at hbad
    rw [if_pos (by omega)]at hm
    exact WU R' (H2 _ _ hm.symm (K1.trans K))
   ·rw [Bool.or_eq_false_iff,decide_eq_false_iff_not,decide_eq_false_iff_not]at hok
    rw [if_neg (by omega)]at hm
    have hil:i'<s.length:=Vi (fun e=>by rw [e]at hok;exact absurd hok.1 (by decide))
    unfold UR
    refine KC6 R' hil (fun h2 u2 R2=>?_)
    have K2:Kb b h1 h2:=K.trans (Km.upd u2 rfl)
    have G2:Gw h1.size h2 x 1 (acc.map bv):=G.same (fun k hk=>u2.ne k (fun e=>by have:=(G.lt hk).2;omega))
    have hs2:h1.size≤h2.size:=K2.size
    have next:∀(c:UInt8) (i2:Nat) (h3:Heap),i'<i2→Kb b h1 h3→Rd h3 b s i2→Gw h1.size h3 x 1 (acc.map bv)→strL s f i2 (acc++[c])=strL s (s.length+1 - j) j []→(Jq self x (c.toNat:Int)).wp h3 Q:=by
     intro c i2 h3 hi2 K3 R3 G3 hm3
     unfold Jq
     refine KMv G3 K3.size (by omega) (fun h4 r4 G4 hs4 same4=>?_)
     have hl4:=G4.len
     rw [List.length_map,List.length_append,List.length_singleton,Nat.mul_one]at hl4
     refine hself _ _ ⟨acc++[c],f,i2,by omega,by rw [List.length_append,List.length_singleton];omega,⟨Nat.le_trans K3.size hs4,fun k hk hkb=>(same4 k hk).trans (K3.same k hk hkb)⟩,⟨by rw [same4 b hb];exact R3.blk,R3.le,R3.small⟩,G4,hm3⟩ ?_
     omega
    by_cases h92:KV s i'=92
    ·rw [if_pos h92]at hm
     refine iteT (by rw [u8_c (d:=92) (n:=92) rfl,decide_eq_true h92]) (Zv (KMu R2 (fun c j2 h3 he K3 R3=>?_) (fun e h3 he K3=>?_)))
     ·rw [he]at hm
      exact next c j2 h3 (by have:=KK5 he;omega) (K2.trans K3) R3 (G2.same (fun k hk=>K3.same k (G2.lt hk).1 (fun e=>by have:=(G2.lt hk).2;omega))) hm
     ·rw [he]at hm
      exact H2 _ _ hm.symm (K1.trans (K2.trans K3))
    ·rw [if_neg h92]at hm
     refine iteF (by rw [u8_c (d:=92) (n:=92) rfl,decide_eq_false h92]) ?_
     exact next _ (i'+1) h2 (by omega) K2 R2 G2 hm
  ·have heq:KV s i'=39:=by simpa using heq
   rw [if_pos heq]at hm
   have hil:i'<s.length:=Vi (by rw [heq];decide)
   refine KC6 R' hil (fun h2 u2 R2=>?_)
   have G2:Gw h1.size h2 x 1 (acc.map bv):=G.same (fun k hk=>u2.ne k (fun e=>by have:=(G.lt hk).2;omega))
   refine KOk (ns:=acc) hxl G2.reads (KI ?_)
   exact H1 _ _ _ hm.symm (K1.trans (K.trans (Km.upd u2 rfl))) R2
 ·refine H2 e h1 ?_ K1
  unfold strP
  rw [hj]
end Gx
namespace Gx
open Go Go.Proofs Go.Shelf Go.RowKit Go.Lib
def KAp (k:Int) (s:List UInt8) (i:Nat):Except Nat (Vl×Nat):=
 match GM s [91] (i+1)with
 | .error e=>.error e
 | .ok j=>match numF s j with
  | .error e=>.error e
  | .ok (n,j2)=>match GM s [93] j2 with
   | .error e=>.error e
   | .ok j3=>.ok (.mk k n [] [],j3)
def X8 (pv:Nat→Except Nat (Vl×Nat)) (two:Bool) (s:List UInt8) (i:Nat):Except Nat (List Vl×Nat):=
 match pv i with
 | .error e=>.error e
 | .ok (v,j)=>if two=true then(match GM s [58,32] j with
   | .error e=>.error e
   | .ok j2=>match pv j2 with
    | .error e=>.error e
    | .ok (w,j3)=>.ok ([v,w],j3))else .ok ([v],j)
def sepP (l:List Vl) (s:List UInt8) (i:Nat):Except Nat Nat:=if l.length=0 then .ok i else GM s [44,32] i
def WF (pv:Nat→Except Nat (Vl×Nat)) (en:UInt8) (two:Bool) (s:List UInt8):Nat→List Vl→Nat→Except Nat (List Vl×Nat)
 |0,_,i=>.error i
 |f+1,l,i=>if KV s i=en then .ok (l,i+1)else
  match sepP l s i with
  | .error e=>.error e
  | .ok i1=>match X8 pv two s i1 with
   | .error e=>.error e
   | .ok (vs,i2)=>if KV s i2≠en∧KV s i2≠44 then .error i2 else WF pv en two s f (l++vs) i2
def pval (s:List UInt8):Nat→Nat→Except Nat (Vl×Nat)
 |0,i=>.error i
 |d+1,i=>
  if KV s i=45∨digB (KV s i)=true then(match numF s i with| .error e=>.error e| .ok (n,j)=>.ok (.mk 1 n [] [],j))
  else if KV s i=39 then(match strP s i with| .error e=>.error e| .ok (t,j)=>.ok (.mk 2 0 t [],j))
  else if KV s i=116 then(match GM s [116,114,117,101] i with| .error e=>.error e| .ok j=>.ok (.mk 3 1 [] [],j))
  else if KV s i=102 then(match GM s [102,97,108,115,101] i with| .error e=>.error e| .ok j=>.ok (.mk 3 0 [] [],j))
  else if KV s i=118 then KAp 6 s i
  else if KV s i=101 then KAp 7 s i
  else if KV s i=91 then(match WF (pval s d) 93 false s (s.length - i) [] (i+1)with| .error e=>.error e| .ok (l,j)=>.ok (.mk 4 0 [] l,j))
  else if KV s i=123 then(match WF (pval s d) 125 true s (s.length - i) [] (i+1)with| .error e=>.error e| .ok (l,j)=>.ok (.mk 5 0 [] l,j))
  else .error i
theorem KJb {t:List UInt8} {n:Int} (h:Lib.parseIntB 64 t=.ok n):I64 n:=by
 unfold parseIntB at h
 split at h
 ·cases h
 ·dsimp only at h
  split at h
  ·cases h
  ·cases h
  ·split at h
   ·cases h
   ·split at h
    ·cases h
    ·rename_i u _ h1 h2
     cases h
     have e63:(2:Nat)^(64 - 1)=9223372036854775808:=by decide
     rw [e63]at h1 h2
     unfold I64
     split<;>rename_i h3<;>(simp only [h3,not_true_eq_false,not_false_eq_true,true_and,false_and]at h1 h2;omega)
theorem KIS {t:List UInt8} (h:(numP t).2=0):I64 (numP t).1:=by
 unfold numP at h⊢
 split
 ·rename_i h1;rw [if_pos h1]at h;exact absurd h (by decide)
 ·rename_i h1
  rw [if_neg h1]at h
  split
  ·rename_i h2;rw [if_pos h2]at h;exact absurd h (by decide)
  ·rename_i h2
   rw [if_neg h2]at h
   split
   ·rename_i h3;rw [if_pos h3]at h;exact absurd h (by decide)
   ·rename_i h3
    rw [if_neg h3]at h
    split
    ·rename_i n hn;exact KJb hn
    ·rename_i hne
     exfalso
     revert h
     split
     ·rename_i n hn;exact absurd hn (hne n)
     ·decide
theorem KK6 {s:List UInt8} {fr:Nat}:∀{f i:Nat} {n m:Int} {j:Nat},numL s fr f i n=.ok (m,j)→I64 n→i≤s.length→I64 m∧i≤j∧j≤s.length
 |0,i,n,m,j,h,hn,hi=>by cases h;exact⟨hn,Nat.le_refl _,hi⟩
 |f+1,i,n,m,j,h,hn,hi=>by
  rw [numL]at h
  split at h
  ·rename_i hd
   have hil:=KIQ hd
   split at h
   ·cases h
   ·split at h
    ·cases h;exact⟨hn,Nat.le_refl _,hi⟩
    ·rename_i h0
     have:=KK6 h (KIS (Classical.not_not.1 h0)) (by omega)
     exact⟨this.1,by omega,this.2.2⟩
  ·cases h;exact⟨hn,Nat.le_refl _,hi⟩
theorem KK7:∀n:Fin 256,digB (UInt8.ofNat n.val)=true→(numP [UInt8.ofNat n.val]).2=0∧(UInt8.ofNat n.val≠48→(numP [45,UInt8.ofNat n.val]).2=0):=by decide+kernel
theorem qA {c:UInt8} (h:digB c=true):(numP [c]).2=0∧(c≠48→(numP [45,c]).2=0):=by
 have:=KK7 ⟨c.toNat,c.toNat_lt⟩
 simp only [UInt8.ofNat_toNat]at this
 exact this h
theorem KC9 {s:List UInt8} {i j:Nat} {n:Int} (h:numF s i=.ok (n,j)) (hi:i≤s.length):I64 n∧i<j∧j≤s.length:=by
 unfold numF at h
 split at h
 ·cases h
 ·rename_i hb
  have hd:digB (KV s (numJ s i))=true:=by
   cases hh:digB (KV s (numJ s i))with
   |true=>rfl
   |false=>exact absurd (.inl hh) hb
  have hil:=KIQ hd
  have hij:i≤numJ s i:=by unfold numJ;split<;>omega
  rw [show s.length - numJ s i=(s.length - (numJ s i+1))+1 by omega,numL,if_pos hd]at h
  have ht:(numP ((s.drop i).take (numJ s i+1 - i))).2=0:=by
   by_cases h45:KV s i=45
   ·have hJ:numJ s i=i+1:=by unfold numJ;rw [if_pos h45]
    rw [hJ]at hb hd hil⊢
    have h2:(s.drop i).take (i+1+1 - i)=[45,KV s (i+1)]:=by
     rw [show i+1+1 - i=2 by omega,List.drop_eq_getElem_cons (by omega),List.drop_eq_getElem_cons hil]
     rw [GH hil,←h45,GH (by omega)]
     rfl
    rw [h2]
    exact(qA hd).2 (fun e=>hb (.inr ⟨by omega,e⟩))
   ·have hJ:numJ s i=i:=by unfold numJ;rw [if_neg h45]
    rw [hJ]at hd hil⊢
    have h2:(s.drop i).take (i+1 - i)=[KV s i]:=by
     rw [show i+1 - i=1 by omega,List.drop_eq_getElem_cons hil,GH hil]
     rfl
    rw [h2]
    exact(qA hd).1
  rw [if_neg (by rw [ht];decide),if_neg (by rw [ht];exact fun h=>h rfl)]at h
  have:=KK6 h (KIS ht) (by omega)
  exact⟨this.1,by omega,this.2.2⟩
theorem KHV {s:List UInt8}:∀{f i:Nat} {acc t:List UInt8} {j:Nat},strL s f i acc=.ok (t,j)→i<j∧j≤s.length∧t.length+i≤acc.length+j
 |0,i,acc,t,j,h=>by cases h
 |f+1,i,acc,t,j,h=>by
  rw [strL]at h
  split at h
  ·rename_i h39
   have:=Vi (s:=s) (i:=i) (by rw [h39];decide)
   cases h
   omega
  ·split at h
   ·cases h
   ·split at h
    ·split at h
     ·cases h
     ·rename_i d j2 he
      have h1:=KK5 he
      have h2:=KHV h
      rw [List.length_append,List.length_singleton]at h2
      omega
    ·have h2:=KHV h
     rw [List.length_append,List.length_singleton]at h2
     omega
theorem KHW {s:List UInt8} {i j:Nat} {t:List UInt8} (h:strP s i=.ok (t,j)):i<j∧j≤s.length∧t.length≤s.length:=by
 unfold strP at h
 split at h
 ·cases h
 ·rename_i j1 hj
  have h1:=(Vm hj).1
  have h2:=KHV h
  rw [List.length_nil]at h2
  omega
theorem qB {s:List UInt8} {i j:Nat} {k:Int} {v:Vl} (h:KAp k s i=.ok (v,j)):∃n,v=.mk k n [] []∧I64 n∧i<j∧j≤s.length:=by
 unfold KAp at h
 split at h
 ·cases h
 ·rename_i j1 h1
  split at h
  ·cases h
  ·rename_i n j2 h2
   split at h
   ·cases h
   ·rename_i j3 h3
    cases h
    have a1:=Vm h1
    have a2:=KC9 h2 (a1.2.1 (by simp))
    have a3:=Vm h3
    have b1:j1=i+1+1:=a1.1
    have b3:j=j2+1:=a3.1
    exact⟨n,rfl,a2.1,by omega,a3.2.1 (by simp)⟩
def Prog (s:List UInt8) (pv:Nat→Except Nat (Vl×Nat)):Prop:=∀i v j,pv i=.ok (v,j)→i<j∧j≤s.length
theorem KMx {s:List UInt8} {pv:Nat→Except Nat (Vl×Nat)} (hp:Prog s pv) {two:Bool} {i j:Nat} {vs:List Vl} (h:X8 pv two s i=.ok (vs,j)):i+vs.length≤j∧0<vs.length∧j≤s.length:=by
 unfold X8 at h
 split at h
 ·cases h
 ·rename_i v j1 h1
  have a1:=hp _ _ _ h1
  split at h
  ·split at h
   ·cases h
   ·rename_i j2 h2
    have a2:j2=j1+2:=(Vm h2).1
    split at h
    ·cases h
    ·rename_i w j3 h3
     have a3:=hp _ _ _ h3
     cases h
     simp only [List.length_cons,List.length_nil]
     omega
  ·cases h
   simp only [List.length_cons,List.length_nil]
   omega
theorem KPK {l:List Vl} {s:List UInt8} {i j:Nat} (h:sepP l s i=.ok j):i≤j:=by
 unfold sepP at h
 split at h
 ·cases h;exact Nat.le_refl _
 ·have:j=i+2:=(Vm h).1
  omega
theorem KFM {s:List UInt8} {pv:Nat→Except Nat (Vl×Nat)} (hp:Prog s pv) {en:UInt8} (he:en≠0) {two:Bool}:∀{f i:Nat} {l t:List Vl} {j:Nat},WF pv en two s f l i=.ok (t,j)→i<j∧j≤s.length∧t.length+i≤l.length+j
 |0,i,l,t,j,h=>by cases h
 |f+1,i,l,t,j,h=>by
  rw [WF]at h
  split at h
  ·rename_i hh
   have:=Vi (s:=s) (i:=i) (by rw [hh];exact he)
   cases h
   omega
  ·split at h
   ·cases h
   ·rename_i i1 h1
    have a1:=KPK h1
    split at h
    ·cases h
    ·rename_i vs i2 h2
     have a2:=KMx hp h2
     split at h
     ·cases h
     ·have:=KFM hp he h
      rw [List.length_append]at this
      omega
theorem KHX (s:List UInt8):∀d,Prog s (pval s d)
 |0=>fun i v j h=>by cases h
 |d+1=>fun i v j h=>by
  have ih:=KHX s d
  rw [pval]at h
  split at h
  ·rename_i hc
   have hi:i<s.length:=Vi (fun e=>by rw [e]at hc;exact absurd hc (by decide))
   split at h
   ·cases h
   ·rename_i n j1 h1
    cases h
    exact(KC9 h1 (by omega)).2
  ·split at h
   ·split at h
    ·cases h
    ·rename_i t j1 h1
     cases h
     exact⟨(KHW h1).1,(KHW h1).2.1⟩
   ·split at h
    ·split at h
     ·cases h
     ·rename_i j1 h1
      cases h
      have a:=Vm h1
      have a1:j=i+4:=a.1
      exact⟨by omega,a.2.1 (by simp)⟩
    ·split at h
     ·split at h
      ·cases h
      ·rename_i j1 h1
       cases h
       have a:=Vm h1
       have a1:j=i+5:=a.1
       exact⟨by omega,a.2.1 (by simp)⟩
     ·split at h
      ·obtain⟨n,_,_,h3⟩:=qB h
       exact h3
      ·split at h
       ·obtain⟨n,_,_,h3⟩:=qB h
        exact h3
       ·split at h
        ·split at h
         ·cases h
         ·rename_i l j1 h1
          have a:=KFM ih (by decide) h1
          cases h
          omega
        ·split at h
         ·split at h
          ·cases h
          ·rename_i l j1 h1
           have a:=KFM ih (by decide) h1
           cases h
           omega
         ·cases h
end Gx
namespace Gx
open Go Go.Proofs Go.Shelf Go.RowKit Go.Lib
theorem KAq (S:Nat→Prop) (h:Heap) {k n:Int} {s:List UInt8} (hk:I64 k) (hn:I64 n) (hs:s.length≤9223372036854775807):JE S h (.mk k n s []) (UH k n s Sl.nil):=
 JE.eq.2 ⟨Sl.nil,rfl,hk,hn,hs,rfl,Nat.le_refl _,by decide,by rw [X7];trivial⟩
theorem KFN {S:Nat→Prop} {h:Heap} {k n:Int} {l:List Vl} {x:Sl} (hk:I64 k) (hn:I64 n) (hl:VsRepS S h x l):JE S h (.mk k n [] l) (UH k n [] x):=
 JE.eq.2 ⟨x,rfl,hk,hn,by decide,hl⟩
theorem KK8 {α:Type} {h:Heap} {Q:α⊕Array Value→Heap→Prop} {g:Nat} {z cs:Array Value} {t:TypeId} (hg:h[g]?=some (.cells z t (0,0))) (hz:z.size=4) (hc:cs.size=4) (h1:∀v∈cs.toList,one v=true)
  (H:∀h',Upd g h h'→Q (.inr cs) h'):(M.need (cs.size=4)>>=fun _=>stG ⟨g,0,none⟩ cs>>=fun _=>ldG 4 ⟨g,0,none⟩>>=fun r=>(M.pure (.inr r):M (α⊕Array Value))).wp h Q:=by
 refine Zt hc (stR hg (by omega) h1 (fun h' u g'=>?_))
 have hl:lay z 0 cs.toList=cs:=by
  rw [Kp (by rw [Array.length_toList];omega)]
 rw [hl]at g'
 exact ldR g' hc (KI (H _ u))
theorem KK9 {β:Type} {lo:Nat} {S:Nat→Prop} {h:Heap} {Q:β→Heap→Prop} {r:Sl} {css:List (Array Value)} {l:List Vl} {v:Vl} {c:Array Value} {f:Sl→M β} (G:VGw lo S h r css l) (hS:∀k,S k→k<h.size∧¬Sl.on r k) (hv:JE S h v c) (hlo:lo≤h.size) (hm:l.length≤1099511627776)
  (H:∀h' r',VGw lo S h' r' (css++[c]) (l++[v])→h.size≤h'.size→(∀i,i<h.size→¬Sl.on r i→h'[i]?=h[i]?)→(∀i,Sl.on r' i→Sl.on r i∨h.size≤i)→(f r').wp h' Q):
  (XI 4 1 (#[.int .i64 0,.int .i64 0,.string ByteArray.empty,.slice none 0 0]:Array Value) [(0,.agg c)]>>=fun y=>bdL KH 1 y>>=fun x=>apL KH 4 56 (#[.int .i64 0,.int .i64 0,.string ByteArray.empty,.slice none 0 0]:Array Value) r x>>=f).wp h Q:=by
 have hc:=hv.size
 refine GB hc (Nh ?_)
 have e1:=Ext.push h (.cells c KH)
 have g1:(h.push (.cells c KH))[h.size]?=some (.cells c KH (0,0)):=ZH
 generalize h.push (.cells c KH)=h1 at e1 g1⊢
 have hs1:=e1.size
 have G1:VGw lo S h1 r css l:=G.same (fun k hk=>e1.same k (G.gw.lt hk).1) (fun k hk=>e1.same k (hS k hk).1)
 refine KL (KIP (l':=[v]) (css':=[c]) G1 (by omega) (fun k hk=>⟨by have:=(hS k hk).1;omega,(hS k hk).2⟩) (fun x hx=>by simp at hx;subst hx;exact⟨hc,hv.to.one⟩) rfl rfl (.inr ⟨_,rfl,fun j u hj=>?_⟩) (fun j h1 h2=>?_) (by simp only [List.length_cons,List.length_nil];omega) (fun h2 r2 G2 hs2 same2 on2=>?_))
 ·rw [Ke,Nat.zero_add,KP g1]
  have:Jh [c]=c.toList:=by simp [Jh]
  rw [this,Array.getElem?_toList]at hj
  exact hj
 ·have hj0:j=0:=by simp only [List.length_cons,List.length_nil]at h1;omega
  subst hj0
  exact hv.same (fun k hk=>e1.same k (hS k hk).1)
 ·exact H _ _ G2 (by omega) (fun i hi ho=>(same2 i (by omega) ho).trans (e1.same i hi)) (fun i hi=>(on2 i hi).imp id (fun h=>by omega))
abbrev HS (h h':Heap):Nat→Prop:=fun k=>h.size≤k∧k<h'.size
theorem KGU {h:Heap} {Q:Value⊕Array Value→Heap→Prop} {b i:Nat} {s:List UInt8} {k:Int} (R:Rd h b s i) (hi:i<s.length) (he:ErrV h) (hb:b≠gER)
  (H1:∀n j h',KAp k s i=.ok (.mk k n [] [],j)→Kb b h h'→Rd h' b s j→Q (.inr (UH k n [] Sl.nil)) h') (H2:∀e h',KAp k s i=.error e→Kb b h h'→Q (.inl (N1 e)) h'):(Je (some ⟨b,0,none⟩) k).wp h Q:=by
 unfold Je
 refine ZV (fun h1 e1 hs1 g1=>?_)
 refine KC6 (R.ext e1) hi (fun h2 u2 R2=>?_)
 have hbl:=R.lt
 have K2:Kb b h h2:=(Km.ext e1).trans (Km.upd u2 rfl)
 have g2:=(u2.ne h.size (by omega)).trans g1
 refine Zv (Yv (lit:=[91]) R2 (by decide) (fun j h3 hj K3 R3=>?_) (fun e h3 hj K3=>H2 e h3 (by unfold KAp;rw [hj]) (K2.trans K3)))
 have g3:=K3.blk g2 (show ¬h.size=b by omega)
 have K3':=K2.trans K3
 refine Zv (KC7 R3 (he.km K3' hb) hb (fun n j2 h4 hn K4 R4=>?_) (fun e h4 hn K4=>H2 e h4 (by unfold KAp;rw [hj];dsimp only;rw [hn]) (K3'.trans K4)))
 have g4:=K4.blk g3 (show ¬h.size=b by omega)
 have K4':=K3'.trans K4
 have hs4:=K4'.size
 refine ZV (fun h5 e5 hs5 g5=>?_)
 refine Zt rfl (stR g5 (Nat.le_refl 4) (by intro v hv;simp at hv;rcases hv with rfl|rfl|rfl|rfl<;>rfl) (fun h6 u6 g6=>?_))
 have hl6:lay (#[.int .i64 0,.int .i64 0,.string ByteArray.empty,.slice none 0 0]:Array Value) 0 (#[.int .i64 k,.int .i64 n,.string ByteArray.empty,.slice none 0 0]:Array Value).toList=UH k n [] Sl.nil:=by
  exact Kp (cs:=vz) (vs:=(UH k n [] Sl.nil).toList) rfl
 rw [hl6]at g6
 have hlt4:h.size<h4.size:=JT g4
 have K6:Kb b h h6:=⟨by have:=u6.size;have:=e5.size;omega,fun q hq hqb=>(u6.ne q (by omega)).trans ((e5.same q (by omega)).trans (K4'.same q hq hqb))⟩
 have R6:Rd h6 b s j2:=⟨(u6.ne b (by have:=R4.lt;omega)).trans (e5.blk R4.blk),R4.le,R4.small⟩
 have g6':h6[h.size]?=some (.cells (#[.int .i64 0,.int .i64 0,.string ByteArray.empty,.slice none 0 0]:Array Value) KH (0,0)):=(u6.ne h.size (by omega)).trans (e5.blk g4)
 refine Zv (Yv (lit:=[93]) R6 (by decide) (fun j3 h7 hj3 K7 R7=>?_) (fun e h7 hj3 K7=>H2 e h7 (by unfold KAp;rw [hj];dsimp only;rw [hn];dsimp only;rw [hj3]) (K6.trans K7)))
 have g7:=K7.blk g6 (show ¬h4.size=b by have:=R4.lt;omega)
 have g7':=K7.blk g6' (show ¬h.size=b by omega)
 refine ldR g7 rfl ?_
 refine KK8 g7' rfl rfl (Zy _ _ _ _) (fun h8 u8=>H1 n j3 h8 ?_ ?_ ?_)
 ·unfold KAp;rw [hj];dsimp only;rw [hn];dsimp only;rw [hj3]
 ·have:=(K6.trans K7)
  exact⟨by rw [u8.size];exact this.size,fun q hq hqb=>(u8.ne q (by omega)).trans (this.same q hq hqb)⟩
 ·exact⟨(u8.ne b (by omega)).trans R7.blk,R7.le,R7.small⟩
theorem KQy {β:Type} {h:Heap} {Q:β→Heap→Prop} {cs:Array Value} {f:Array Value→M β} (hc:cs.size=4) (h1:∀v∈cs.toList,one v=true) (H:∀h',Ext h h'→(f cs).wp h' Q):
  ((mkB KH (#[.int .i64 0,.int .i64 0,.string ByteArray.empty,.slice none 0 0]:Array Value)>>=fun x=>M.need (cs.size=4)>>=fun _=>stG x cs>>=fun _=>ldG 4 x>>=fun r=>(M.pure r:M (Array Value)))>>=f).wp h Q:=by
 refine Kf (ZV (fun h1 e1 hs1 g1=>Kf (Zt hc (Kf (stR g1 (by rw [hc];exact Nat.le_refl 4) ‹_› (fun h2 u2 g2=>Kf ?_))))))
 rw [Kp (cs:=vz) (vs:=cs.toList) (by rw [Array.length_toList,hc];rfl)]at g2
 exact ldR g2 hc (ZM (H _ (e1.upd u2 (Nat.le_refl _))))
theorem KN7 {β:Type} {h:Heap} {Q:β→Heap→Prop} {n:Int} {f:Array Value→M β} (H:∀h',Ext h h'→(f (UH 1 n [] Sl.nil)).wp h' Q):(KAS n>>=f).wp h Q:=KQy (cs:=UH 1 n [] Sl.nil) rfl (Zy _ _ _ _) H
theorem KN8 {β:Type} {h:Heap} {Q:β→Heap→Prop} {s:List UInt8} {f:Array Value→M β} (H:∀h',Ext h h'→(f (UH 2 0 s Sl.nil)).wp h' Q):(KAT (bs s)>>=f).wp h Q:=KQy (cs:=UH 2 0 s Sl.nil) rfl (Zy _ _ _ _) H
theorem KHY {β:Type} {h:Heap} {Q:β→Heap→Prop} {c:Bool} {f:Array Value→M β} (H:∀h',Ext h h'→(f (UH 3 (if c=true then 1 else 0) [] Sl.nil)).wp h' Q):(Xa c>>=f).wp h Q:=by
 unfold Xa
 refine Kf (ZV (fun h1 e1 hs1 g1=>Kf (ZV (fun h2 e2 hs2 g2=>Kf (Zt rfl (Kf (stR (cs:=vz) (vs:=UH 3 0 [] Sl.nil) g2 (Nat.le_refl 4) (Zy _ _ _ _) (fun h3 u3 g3=>?_))))))))
 rw [Kp (cs:=vz) (vs:=(UH 3 0 [] Sl.nil).toList) rfl]at g3
 have key:∀(n:Int) (h4:Heap),Upd h1.size h2 h4→h4[h1.size]?=some (.cells (UH 3 n [] Sl.nil) KH (0,0))→(∀h',Ext h h'→(f (UH 3 n [] Sl.nil)).wp h' Q)→(Wu ⟨h.size,0,none⟩ ⟨h1.size,0,none⟩>>=f).wp h4 Q:=by
  intro n h4 u4 g4 HH
  unfold Wu
  have g1':h4[h.size]?=some (.cells vz KH (0,0)):=(u4.ne _ (by omega)).trans (e2.blk g1)
  refine Kf (ldR g4 rfl (Kf (Zt rfl (Kf (stR g1' (Nat.le_refl 4) (Zy _ _ _ _) (fun h5 u5 g5=>Kf ?_))))))
  rw [Kp (cs:=vz) (vs:=(UH 3 n [] Sl.nil).toList) rfl]at g5
  refine ldR g5 rfl (ZM (HH _ ?_))
  have a4:Ext h h4:=(e1.trans e2).upd u4 (by omega)
  exact a4.upd u5 (Nat.le_refl _)
 refine KKQ (fun hc=>?_) (fun hc=>?_)
 ·subst hc
  refine Kf (Gu (x:=.int .i64 0) (by rw [Ke,KP g3];rfl) (by rw [Ke];exact ZL g3) rfl ?_)
  rw [Ke,Nat.zero_add]
  exact key 1 _ (u3.trans (Upd.hset _ _ _ _)) (Ul g3) H
 ·subst hc
  exact key 0 _ u3 g3 H
def KQz (s:List UInt8) (d:Nat):Prop:=∀(i:Nat) (h:Heap) (Q:Value⊕Array Value→Heap→Prop) (b:Nat),Rd h b s i→ErrV h→b≠gER→
 (∀v j h' c,pval s d i=.ok (v,j)→Kb b h h'→Rd h' b s j→JE (HS h h') h' v c→Q (.inr c) h')→
 (∀e h',pval s d i=.error e→Kb b h h'→Q (.inl (N1 e)) h')→(J5 (some ⟨b,0,none⟩) ((9 - d:Nat):Int)).wp h Q
theorem KGV {s:List UInt8} {d:Nat} (hd:d≤8) (IH:KQz s d) {en:UInt8} (hen:en≠0) {two:Bool} {i:Nat} {h:Heap} {Q:Value⊕Sl→Heap→Prop} {b:Nat} (R:Rd h b s i) (hi:i<s.length) (he:ErrV h) (hb:b≠gER)
  (H1:∀l j h' r,WF (pval s d) en two s (s.length - i) [] (i+1)=.ok (l,j)→Kb b h h'→Rd h' b s j→VsRepS (HS h h') h' r l→Q (.inr r) h')
  (H2:∀e h',WF (pval s d) en two s (s.length - i) [] (i+1)=.error e→Kb b h h'→Q (.inl (N1 e)) h'):
  (WE (some ⟨b,0,none⟩) ((8 - d:Nat):Int) (en.toNat:Int) (if two=true then 2 else 1)).wp h Q:=by
 unfold WE
 have hP:=KHX s d
 refine KC6 R hi (fun h1 u1 R1=>?_)
 have K1:Kb b h h1:=Km.upd u1 rfl
 have hs1:=u1.size
 have hb1:=R1.lt
 refine M.loop_inv (fun(x:Sl) hh=>∃(l:List Vl) (css:List (Array Value)) (f i':Nat),s.length<f+i'∧l.length≤i'∧Kb b h1 hh∧Rd hh b s i'∧VGw h1.size (fun k=>h1.size≤k∧k<hh.size∧¬Sl.on x k) hh x css l∧WF (pval s d) en two s f l i'=WF (pval s d) en two s (s.length - i) [] (i+1))
  (fun x _=>s.length+1 - x.len) ?_ ⟨[],[],_,i+1,by omega,Nat.zero_le _,Km.refl _ _,R1,VGw.nil _ _ _,rfl⟩
 rintro x hh ⟨l,css,f,i',hf,hli,K,R',G,hm⟩ self hself
 have hsm:=R'.small
 have hle:=R'.le
 have hxl:x.len=l.length:=by rw [G.gw.len4 G.w4,G.len]
 obtain⟨f,rfl⟩:∃g,f=g+1:=⟨f - 1,by omega⟩
 rw [WF]at hm
 have hKs:=K.size
 unfold Uu
 refine KL (Vb R' ?_)
 rw [show(((KV s i').toNat:Int) !=(en.toNat:Int))=!decide (KV s i'=en) by rw [←u8_c (d:=en) (n:=(en.toNat:Int)) rfl];rfl]
 refine KY (fun hne=>?_) (fun heq=>?_)
 ·have hne:KV s i'≠en:=by simpa using hne
  rw [if_neg hne]at hm
  have test:∀(l2:List Vl) (css2:List (Array Value)) (i2:Nat) (h2:Heap) (x2:Sl),i'<i2→l.length<l2.length→l2.length≤i2→Kb b h1 h2→Rd h2 b s i2→VGw h1.size (fun k=>h1.size≤k∧k<h2.size∧¬Sl.on x2 k) h2 x2 css2 l2→
    (if KV s i2≠en∧KV s i2≠44 then .error i2 else WF (pval s d) en two s f l2 i2)=WF (pval s d) en two s (s.length - i) [] (i+1)→(Jf self (some ⟨b,0,none⟩) (en.toNat:Int) x2).wp h2 Q:=by
   intro l2 css2 i2 h2 x2 hi2 hl2 hli2 K2 R2 G2 hm2
   unfold Jf
   refine KL (Vb R2 ?_)
   rw [show(((KV s i2).toNat:Int) !=(en.toNat:Int))=!decide (KV s i2=en) by rw [←u8_c (d:=en) (n:=(en.toNat:Int)) rfl];rfl]
   refine Wf (c:=!decide (KV s i2=44)) (fun _ Q' hq=>KI ?_) ?_
   ·rw [show(((KV s i2).toNat:Int) !=44)=!decide (KV s i2=44) by rw [←u8_c (d:=44) (n:=44) rfl];rfl]
    exact hq
   ·refine KY (fun hbad=>?_) (fun hok=>?_)
    ·have hbad:KV s i2≠en∧KV s i2≠44:=by simpa using hbad
     rw [if_pos hbad]at hm2
     exact WU R2 (H2 _ _ hm2.symm (K1.trans K2))
    ·have hok:¬(KV s i2≠en∧KV s i2≠44):=by
      intro hh2
      rw [decide_eq_false hh2.1,decide_eq_false hh2.2]at hok
      cases hok
     rw [if_neg hok]at hm2
     have hx2:x2.len=l2.length:=by rw [G2.gw.len4 G2.w4,G2.len]
     have:=R2.le
     exact hself _ _ ⟨l2,css2,f,i2,by omega,hli2,K2,R2,G2,hm2⟩ (by omega)
  have one_:∀{l2:List Vl} {css2:List (Array Value)} {i2:Nat} {h2:Heap} {x2:Sl} {Qs:Value⊕Sl→Heap→Prop} {F:Sl→M (Value⊕Sl)},l2.length≤i2→Kb b h1 h2→Rd h2 b s i2→VGw h1.size (fun k=>h1.size≤k∧k<h2.size∧¬Sl.on x2 k) h2 x2 css2 l2→
    (∀v j h3 x3 css3,pval s d i2=.ok (v,j)→Kb b h1 h3→Rd h3 b s j→VGw h1.size (fun k=>h1.size≤k∧k<h3.size∧¬Sl.on x3 k) h3 x3 css3 (l2++[v])→(F x3).wp h3 Qs)→
    (∀e h3,pval s d i2=.error e→Kb b h1 h3→Qs (.inl (N1 e)) h3)→
    (thr (GR Go.Proofs.Tryz.prog Vv #[.pointer (some ⟨b,0,none⟩),.int .i64 (IntKind.wrap .i64 (((8 - d:Nat):Int)+1))] (fun r:Array Value=>.agg r)) fun Xx24=>
     (XI 4 1 (#[.int .i64 0,.int .i64 0,.string ByteArray.empty,.slice none 0 0]:Array Value) [(0,.agg Xx24)]>>=fun y=>bdL KH 1 y>>=fun x=>apL KH 4 56 (#[.int .i64 0,.int .i64 0,.string ByteArray.empty,.slice none 0 0]:Array Value) x2 x>>=F)).wp h2 Qs:=by
   intro l2 css2 i2 h2 x2 Qs F hli2 K2 R2 G2 HF HE
   have hle2:=R2.le
   rw [w64 (by omega) (by omega),show(((8 - d:Nat):Int)+1)=((9 - d:Nat):Int) by omega]
   have hK2:=K2.size
   refine Zv (zm (XH _ _) (IH i2 h2 _ b R2 ((he.km K1 hb).km K2 hb) hb (fun v j h3 c hv K3 R3 V3=>?_) (fun e h3 hv K3=>HE e h3 hv (K2.trans K3))))
   have hK3:=K3.size
   have G3:VGw h1.size (fun k=>h1.size≤k∧k<h3.size∧¬Sl.on x2 k) h3 x2 css2 l2:=
    (G2.same (fun k hk=>K3.same k (G2.gw.lt hk).1 (fun e=>by have:=(G2.gw.lt hk).2;omega)) (fun k hk=>K3.same k hk.2.1 (fun e=>by have:=hk.1;omega))).mono (fun k hk=>⟨hk.1,by have:=hk.2.1;omega,hk.2.2⟩)
   refine KK9 G3 (fun k hk=>hk.2) (V3.mono (fun k hk=>⟨by have:=hk.1;omega,hk.2,fun ho=>by have:=(G2.gw.lt ho).1;have:=hk.1;omega⟩)) (by omega) (by omega) (fun h4 x4 G4 hs4 same4 on4=>?_)
   refine HF v j h4 x4 _ hv ⟨by omega,fun k hk hkb=>(same4 k (by omega) (fun ho=>by have:=(G2.gw.lt ho).2;omega)).trans ((K2.trans K3).same k hk hkb)⟩ ⟨?_,R3.le,R3.small⟩ (G4.mono (fun k hk=>⟨hk.1,by have:=hk.2.1;omega,fun ho=>(on4 k ho).elim hk.2.2 (fun h=>by have:=hk.2.1;omega)⟩))
   rw [same4 b (by omega) (fun ho=>by have:=(G2.gw.lt ho).2;omega)]
   exact R3.blk
  have body:∀(i1:Nat) (h2:Heap),i'≤i1→Kb b h1 h2→Rd h2 b s i1→VGw h1.size (fun k=>h1.size≤k∧k<h2.size∧¬Sl.on x k) h2 x css l→
    (match X8 (pval s d) two s i1 with
     | .error e=>.error e
     | .ok (vs,i2)=>if KV s i2≠en∧KV s i2≠44 then .error i2 else WF (pval s d) en two s f (l++vs) i2)=WF (pval s d) en two s (s.length - i) [] (i+1)→
    (Jg self (some ⟨b,0,none⟩) ((8 - d:Nat):Int) (en.toNat:Int) (if two=true then 2 else 1) x).wp h2 Q:=by
   intro i1 h2 hi1 K2 R2 G2 hm2
   unfold Jg
   refine one_ (by omega) K2 R2 G2 (fun v j h3 x3 css3 hv K3 R3 G3=>?_) (fun e h3 hv K3=>?_)
   ·have hvj:=hP _ _ _ hv
    cases two with
    |false=>
     refine iteF rfl ?_
     have hpair:X8 (pval s d) false s i1=.ok ([v],j):=by unfold X8;rw [hv];rfl
     rw [hpair]at hm2
     exact test _ _ j h3 x3 (by omega) (by simp) (by rw [List.length_append,List.length_singleton];omega) K3 R3 G3 hm2
    |true=>
     refine iteT rfl ?_
     refine Zv (Yv (lit:=[58,32]) R3 (by decide) (fun j2 h4 hj2 K4 R4=>?_) (fun e h4 hj2 K4=>?_))
     ·have hj2':j2=j+2:=(Vm hj2).1
      have hK3:=K3.size
      have hK4:=K4.size
      have G4:VGw h1.size (fun k=>h1.size≤k∧k<h4.size∧¬Sl.on x3 k) h4 x3 css3 (l++[v]):=
       (G3.same (fun k hk=>K4.same k (G3.gw.lt hk).1 (fun e=>by have:=(G3.gw.lt hk).2;omega)) (fun k hk=>K4.same k hk.2.1 (fun e=>by have:=hk.1;omega))).mono (fun k hk=>⟨hk.1,by have:=hk.2.1;omega,hk.2.2⟩)
      refine one_ (by rw [List.length_append,List.length_singleton];omega) (K3.trans K4) R4 G4 (fun w j3 h5 x5 css5 hw K5 R5 G5=>?_) (fun e h5 hw K5=>?_)
      ·have hwj:=hP _ _ _ hw
       have hpair:X8 (pval s d) true s i1=.ok ([v,w],j3):=by unfold X8;rw [hv];dsimp only;rw [if_pos rfl,hj2];dsimp only;rw [hw]
       rw [hpair]at hm2
       rw [List.append_assoc]at G5
       exact test _ _ j3 h5 x5 (by omega) (by simp) (by simp only [List.length_append,List.length_cons,List.length_nil];omega) K5 R5 G5 hm2
      ·have hpair:X8 (pval s d) true s i1=.error e:=by unfold X8;rw [hv];dsimp only;rw [if_pos rfl,hj2];dsimp only;rw [hw]
       rw [hpair]at hm2
       exact H2 _ _ hm2.symm (K1.trans K5)
     ·have hpair:X8 (pval s d) true s i1=.error e:=by unfold X8;rw [hv];dsimp only;rw [if_pos rfl,hj2]
      rw [hpair]at hm2
      exact H2 _ _ hm2.symm (K1.trans (K3.trans K4))
   ·have hpair:X8 (pval s d) two s i1=.error e:=by unfold X8;rw [hv]
    rw [hpair]at hm2
    exact H2 _ _ hm2.symm (K1.trans K3)
  refine KY (fun hpos=>?_) (fun hz=>?_)
  ·have hl0:¬l.length=0:=by have:=of_decide_eq_true hpos;omega
   unfold sepP at hm
   rw [if_neg hl0]at hm
   refine Zv (Yv (lit:=[44,32]) R' (by decide) (fun j h2 hj K2 R2=>?_) (fun e h2 hj K2=>?_))
   ·rw [hj]at hm
    have hj':j=i'+2:=(Vm hj).1
    have hK2:=K2.size
    exact body j h2 (by omega) (K.trans K2) R2 ((G.same (fun k hk=>K2.same k (G.gw.lt hk).1 (fun e=>by have:=(G.gw.lt hk).2;omega)) (fun k hk=>K2.same k hk.2.1 (fun e=>by have:=hk.1;omega))).mono (fun k hk=>⟨hk.1,by have:=hk.2.1;omega,hk.2.2⟩)) hm
   ·rw [hj]at hm
    exact H2 _ _ hm.symm (K1.trans (K.trans K2))
  ·have hl0:l.length=0:=by have:=of_decide_eq_false hz;omega
   unfold sepP at hm
   rw [if_pos hl0]at hm
   exact body i' hh (Nat.le_refl _) K R' G hm
 ·have heq:KV s i'=en:=by simpa using heq
  rw [if_pos heq]at hm
  have hil:i'<s.length:=Vi (by rw [heq];exact hen)
  refine KC6 R' hil (fun h2 u2 R2=>KI ?_)
  have hu2:=u2.size
  have G2:=G.same (fun k hk=>u2.ne k (fun e=>by have:=(G.gw.lt hk).2;omega)) (fun k hk=>u2.ne k (fun e=>by have:=hk.1;omega))
  refine H1 l (i'+1) h2 x hm.symm (K1.trans (K.trans (Km.upd u2 rfl))) R2 ?_
  refine(G2.rep_ (by omega)).same (fun _ _=>rfl) (fun k hk=>?_)
  rcases hk with hk|hk
  ·exact⟨by have:=hk.1;omega,by have:=hk.2.1;omega⟩
  ·have:=G2.gw.lt hk
   exact⟨by omega,by omega⟩
end Gx
