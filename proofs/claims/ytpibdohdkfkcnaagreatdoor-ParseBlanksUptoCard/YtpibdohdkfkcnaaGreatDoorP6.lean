/- Own proofs: what those Lean programs compute. No condition. -/
import Derived.Test.YtpibdohdkfkcnaaGreatDoorP0
import Derived.Test.YtpibdohdkfkcnaaGreatDoorP1
import Derived.Test.YtpibdohdkfkcnaaGreatDoorP2
import Derived.Test.YtpibdohdkfkcnaaGreatDoorP3
import Derived.Test.YtpibdohdkfkcnaaGreatDoorP4
import Derived.Test.YtpibdohdkfkcnaaGreatDoorP5
set_option linter.unusedVariables false
set_option linter.unusedSimpArgs false
set_option maxRecDepth 100000
open Go.Proofs
namespace Gx
open Go
abbrev bs (l:Eb):ByteArray:=⟨l.toArray⟩
inductive Vl where
 |mk (k n:Int) (s:Eb) (l:List Vl)
def Vl.k:Vl->Int| .mk k _ _ _=>k
def Vl.n:Vl->Int| .mk _ n _ _=>n
def Vl.s:Vl->Eb| .mk _ _ s _=>s
def Vl.l:Vl->List Vl| .mk _ _ _ l=>l
instance:Inhabited Vl:=⟨.mk 0 0 [] []⟩
def I64 (n:Int):Prop:=-9223372036854775808<=n/\n<=9223372036854775807
def ZK (k n:Int) (s:Eb) (x:Sl):Ea:=#[.int .i64 k,.int .i64 n,.string (bs s),x.v]
mutual
def VRep (h:Heap):Vl->Ea->Prop
 | .mk k n s l,cs=>∃x:Sl,cs=ZK k n s x/\I64 k/\I64 n/\s.length<=9223372036854775807/\(x.len=l.length/\x.len<=x.cap/\x.len<=9223372036854775807/\VsAt h l x.base 0)
def VsAt (h:Heap):List Vl->Option Addr->Nat->Prop
 | [],_,_=>True
 |v::l,b,i=>(∃a cs,b=some a/\cs.size=4/\(∀j,j<4->KJ h (a.add (i*4+j))=cs[j]?)/\VRep h v cs)/\VsAt h l b (i+1)
end
structure VsRep (h:Heap) (x:Sl) (l:List Vl):Prop where
 len:x.len=l.length
 cap:x.len<=x.cap
 big:x.len<=9223372036854775807
 at_:VsAt h l x.base 0
theorem VRep.eq {h:Heap} {k n:Int} {s:Eb} {l:List Vl} {cs:Ea}:VRep h (.mk k n s l) cs↔∃x:Sl,cs=ZK k n s x/\I64 k/\I64 n/\s.length<=9223372036854775807/\VsRep h x l:=by
 rw [VRep]
 constructor
 ·rintro⟨x,h1,h2,h3,h4,h5,h6,h7,h8⟩;exact⟨x,h1,h2,h3,h4,h5,h6,h7,h8⟩
 ·rintro⟨x,h1,h2,h3,h4,h5,h6,h7,h8⟩;exact⟨x,h1,h2,h3,h4,h5,h6,h7,h8⟩
theorem VRep.size {h:Heap}:∀{v:Vl} {cs:Ea},VRep h v cs->cs.size=4
 | .mk _ _ _ _,cs,H=>by obtain⟨x,rfl,_⟩:=VRep.eq.1 H;rfl
theorem VRep.one {h:Heap}:∀{v:Vl} {cs:Ea},VRep h v cs->∀u∈cs.toList,Gx.one u=true
 | .mk _ _ _ _,cs,H=>by
  obtain⟨x,rfl,_⟩:=VRep.eq.1 H
  intro u hu
  simp only [ZK,ED,EP,Fr]at hu
  rcases hu with rfl|rfl|rfl|rfl<;>first|rfl|exact KC8 _
theorem VsAt.get {h:Heap}:∀{l:List Vl} {b:Option Addr} {i:Nat},VsAt h l b i->∀{j:Nat} (hj:j<l.length),∃a cs,b=some a/\cs.size=4/\(∀m,m<4->KJ h (a.add ((i+j)*4+m))=cs[m]?)/\VRep h l[j] cs
 | [],_,_,_,j,hj=>by simp at hj
 |v::l,b,i,H,0,hj=>by rw [VsAt]at H;exact H.1
 |v::l,b,i,H,j+1,hj=>by
  rw [VsAt]at H
  have:=VsAt.get H.2 (j:=j) (by simpa using hj)
  rw [show i+(j+1)=i+1+j by omega]
  exact this
theorem VsAt.of {h:Heap}:∀{l:List Vl} {b:Option Addr} {i:Nat},(∀j (hj:j<l.length),∃a cs,b=some a/\cs.size=4/\(∀m,m<4->KJ h (a.add ((i+j)*4+m))=cs[m]?)/\VRep h l[j] cs)->VsAt h l b i
 | [],_,_,_=>by rw [VsAt];trivial
 |v::l,b,i,H=>by
  rw [VsAt]
  refine⟨H 0 (by simp),VsAt.of (λj hj=>?_)⟩
  have:=H (j+1) (by simpa using hj)
  rw [show i+1+j=i+(j+1) by omega]
  exact this
theorem VsRep.get {h:Heap} {x:Sl} {l:List Vl} (H:VsRep h x l) {j:Nat} (hj:j<l.length):∃a cs,x.base=some a/\cs.size=4/\(∀m,m<4->KJ h (a.add (j*4+m))=cs[m]?)/\VRep h l[j] cs:=by
 have:=H.at_.get hj
 rw [EC]at this
 exact this
theorem Ext.row {h h':Heap} (e:Ext h h') {a:Addr} {cs:Ea} {i n:Nat} (hs:cs.size=n) (H:∀m,m<n->KJ h (a.add (i+m))=cs[m]?):∀m,m<n->KJ h' (a.add (i+m))=cs[m]?:=λm hm=>by
 have h1:cs[m]?=some (cs[m]'(by omega)):=EF (by omega)
 rw [h1]
 exact e.cell (by rw [H m hm,h1])
theorem KTy {h h':Heap} (e:Ext h h'):∀(m:Nat) (v:Vl) (cs:Ea),sizeOf v<m->VRep h v cs->VRep h' v cs:=by
 intro m
 induction m with
 |zero=>intro v cs hm;omega
 |succ m ih=>
  rintro⟨k,n,s,l⟩ cs hm H
  obtain⟨x,h1,h2,h3,h4,h5⟩:=VRep.eq.1 H
  refine VRep.eq.2 ⟨x,h1,h2,h3,h4,h5.len,h5.cap,h5.big,VsAt.of (λj hj=>?_)⟩
  obtain⟨a,cs',ha,hs,hc,hv⟩:=h5.at_.get hj
  refine⟨a,cs',ha,hs,e.row hs hc,ih _ _ ?_ hv⟩
  have:=FF (EJ hj)
  simp only [Vl.mk.sizeOf_spec]at hm
  omega
theorem VRep.ext {h h':Heap} {v:Vl} {cs:Ea} (H:VRep h v cs) (e:Ext h h'):VRep h' v cs:=KTy e _ v cs (EH _) H
theorem VsRep.ext {h h':Heap} {x:Sl} {l:List Vl} (H:VsRep h x l) (e:Ext h h'):VsRep h' x l:=
 ⟨H.len,H.cap,H.big,VsAt.of (λj hj=>by
  obtain⟨a,cs',ha,hs,hc,hv⟩:=H.at_.get hj
  exact⟨a,cs',ha,hs,e.row hs hc,hv.ext e⟩)⟩
theorem VsRep.nil (h:Heap):VsRep h Sl.nil []:=⟨rfl,Ee _,by decide,by rw [VsAt];trivial⟩
def cmpI (a b:Int):Int:=if a<b then -1 else if b<a then 1 else 0
def cOr (a b:Int):Int:=if a=0 then b else a
mutual
def cmpV:Vl->Vl->Int
 | .mk k n s l,.mk k' n' s' l'=>cOr (cmpI k k') (cOr (cmpI n n') (cOr (Lib.compareBytes s s') (qj l l')))
def qj:List Vl->List Vl->Int
 | [],[]=>0
 | [],_::_=>-1
 |_::_,[]=>1
 |a::l,b::l'=>cOr (cmpV a b) (qj l l')
end
theorem Kw {β:Type} {t:TypeId} {h:Heap} {Q:β->Heap->Prop} {cs:Ea} {f:Addr->M β} (H:∀h',Ext h h'->h'.size=h.size+1->h'[h.size]?=some (.cells cs t (0,0))->(f ⟨h.size,0,none⟩).wp h' Q):(mkB t cs>>=f).wp h Q:=
 KWY (H _ (Ext.push _ _) (by simp) Kx)
theorem ZO {h:Heap} {b i:Nat} {cs:Ea} {t:TypeId} {z:Nat×Nat} (hb:h[b]?=some (.cells cs t z)):KJ h ((⟨b,0,none⟩:Addr).add i)=cs[i]?:=by
 rw [KM,EC,KF hb]
theorem KLA {a b:Int} {h:Heap} {Q:Int->Heap->Prop} (H:Q (cmpI a b) h):(YU a b).wp h Q:=by
 unfold YU GA
 refine KZ (KZ (iteF (by simp) (iteF (by simp) ?_)))
 unfold cmpI at H
 refine KH (λhc=>?_) (λhc=>?_)
 ·rw [if_pos (Ec hc)]at H;exact H
 ·rw [if_neg (Ed hc)]at H
  refine KH (λhc=>?_) (λhc=>?_)
  ·rw [if_pos (Ec hc)]at H;exact H
  ·rw [if_neg (Ed hc)]at H;exact H
theorem KIR {a b:Int} {h:Heap} {Q:Int->Heap->Prop} (H:Q (cmpI a b) h):(WI a b).wp h Q:=by
 unfold WI YV
 refine KZ (KZ (iteF (by simp) (iteF (by simp) ?_)))
 unfold cmpI at H
 refine KH (λhc=>?_) (λhc=>?_)
 ·rw [if_pos (Ec hc)]at H;exact H
 ·rw [if_neg (Ed hc)]at H
  refine KH (λhc=>?_) (λhc=>?_)
  ·rw [if_pos (Ec hc)]at H;exact H
  ·rw [if_neg (Ed hc)]at H;exact H
def cOrs:List Int->Int
 | []=>0
 |a::l=>cOr a (cOrs l)
theorem KTz {t:TypeId} {b n:Nat} {zs:List Int} {h:Heap} {Q:Int->Heap->Prop} (hb:h[b]?=some (.cells (zs.map (Value.int .i64)).toArray t (0,0))) (hn:n=zs.length) (hz:zs.length<=1000) (H:Q (cOrs zs) h):(zu ⟨some ⟨b,0,none⟩,n,n⟩).wp h Q:=by
 subst hn
 unfold zu
 refine M.loop_inv (λ(t:Int) h'=>h'=h/\∃i:Nat,t=(i:Int)/\i<=zs.length/\cOrs (zs.drop i)=cOrs zs) (λt _=>((zs.length:Int) - t).toNat) ?_ ⟨rfl,0,rfl,El _,by simp⟩
 rintro t h' ⟨rfl,i,rfl,hi,hd⟩ self hself
 unfold KAU
 refine KH (λhc=>?_) (λhc=>?_)
 ·have hlt:i<zs.length:=by have:=Ec hc;dsimp only at this;omega
  refine NM (by omega) (by dsimp only;omega) rfl ?_
  refine KV (n:=zs[i]) (by rw [show(i:Int).toNat*1=i by omega,ZO hb];simp [hlt]) ?_
  rw [Eh hlt,cOrs]at hd
  refine KH (λhne=>?_) (λheq=>?_)
  ·have hne:zs[i]≠0:=by simpa using hne
   rw [cOr,if_neg hne]at hd
   rw [<-hd]at H
   exact KA H
  ·have heq:zs[i]=0:=by simpa using heq
   rw [cOr,if_pos heq]at hd
   rw [w64 (by omega) (by omega)]
   exact hself _ _ ⟨rfl,i+1,by simp,by omega,hd⟩ (by omega)
 ·have hge:i=zs.length:=by have:=Ed hc;dsimp only at this;omega
  subst hge
  rw [EY]at hd
  have hd:(0:Int)=cOrs zs:=hd
  rw [<-hd]at H
  exact KA H
theorem KHN {l l':List Vl} {h:Heap} {Q:Int->Heap->Prop} {x y:Sl} {g:Value} (hx:VsRep h x l) (hy:VsRep h y l')
  (hg:∀j (hj:j<l.length) (hj':j<l'.length) h1 c c' (Q1:Int->Heap->Prop),Ext h h1->VRep h1 l[j] c->VRep h1 l'[j] c'->(∀h2,Ext h1 h2->Q1 (cmpV l[j] l'[j]) h2)->(qq Tryz.prog (λr:Int=>.int .i64 r) g [.agg c,.agg c']).wp h1 Q1)
  (H:∀h',Ext h h'->Q (qj l l') h'):(KS x y g).wp h Q:=by
 unfold KS
 have hxl:=hx.len
 have hyl:=hy.len
 have hxb:=hx.big
 have hyb:=hy.big
 have hxc:=hx.cap
 have hyc:=hy.cap
 refine M.loop_inv (λ(t:Int) h'=>Ext h h'/\∃i:Nat,t=(i:Int)/\i<=l.length/\i<=l'.length/\qj (l.drop i) (l'.drop i)=qj l l') (λt _=>((l.length:Int) - t).toNat) ?_ ⟨Ext.refl h,0,rfl,El _,El _,by simp⟩
 rintro t h' ⟨E,i,rfl,hi,hi',hd⟩ self hself
 unfold Kf
 rw [hxl,hyl]
 refine KH (λhc=>?_) (λhc=>?_)
 ·have hlt:i<l.length:=by have:=Ec hc;omega
  obtain⟨a,c,ha,hs,hcs,hv⟩:=(hx.ext E).get hlt
  refine NM (by omega) (by rw [hxl];omega) ha (YF hs (λj hj=>by rw [Addr.add_add,show(i:Int).toNat*4=i*4 by omega];exact hcs j hj) (Kw (λh1 e1 s1 g1=>?_)))
  refine ZH hs (stR (vs:=c) g1 (by rw [hs];decide) hv.one (λh2 u2 g2=>?_))
  have E2:Ext h' h2:=e1.upd u2 (Ee _)
  rw [KW (by rw [Ep,hs];rfl),EG]at g2
  refine KH (λhge=>?_) (λhlt'=>?_)
  ·have hge:i=l'.length:=by have:=Ec hge;omega
   subst hge
   rw [EY,Eh hlt,qj]at hd
   have:=H _ (E.trans E2)
   rw [<-hd]at this
   exact KA this
  ·have hlt':i<l'.length:=by have:=Ed hlt';omega
   obtain⟨a',c',ha',hs',hcs',hv'⟩:=(hy.ext (E.trans E2)).get hlt'
   refine NM (by omega) (by rw [hyl];omega) ha' (YF hs' (λj hj=>by rw [Addr.add_add,show(i:Int).toNat*4=i*4 by omega];exact hcs' j hj) (Kw (λh3 e3 s3 g3=>?_)))
   refine ZH hs' (stR (vs:=c') g3 (by rw [hs'];decide) hv'.one (λh4 u4 g4=>?_))
   have E4:Ext h2 h4:=e3.upd u4 (Ee _)
   rw [KW (by rw [Ep,hs'];rfl),EG]at g4
   have g2':=E4.blk g2
   refine YF hs (λj hj=>by rw [ZO g2']) (YF hs' (λj hj=>by rw [ZO g4]) ?_)
   have E':=(E.trans E2).trans E4
   refine KD (hg i hlt hlt' h4 c c' _ E' ((hv.ext E2).ext E4) (hv'.ext E4) (λh5 e5=>?_))
   rw [Eh hlt,Eh hlt',qj]at hd
   refine KH (λhne=>?_) (λheq=>?_)
   ·have hne:cmpV l[i] l'[i]≠0:=by simpa using hne
    rw [cOr,if_neg hne]at hd
    rw [hd]
    exact KA (H _ (E'.trans e5))
   ·have heq:cmpV l[i] l'[i]=0:=by simpa using heq
    rw [cOr,if_pos heq]at hd
    rw [w64 (by omega) (by omega)]
    exact hself _ _ ⟨E'.trans e5,i+1,by simp,by omega,by omega,hd⟩ (by omega)
 ·have hge:i=l.length:=by have:=Ed hc;omega
  subst hge
  rw [EY]at hd
  refine KH (λhlt=>?_) (λhge=>?_)
  ·have hlt:l.length<l'.length:=by have:=Ec hlt;omega
   rw [Eh hlt,qj]at hd
   have:=H _ E
   rw [<-hd]at this
   exact KA this
  ·have hge:l'.length=l.length:=by have:=Ed hge;omega
   rw [<-hge,EY,qj]at hd
   have:=H _ E
   rw [<-hd]at this
   exact KA this
theorem KMg:∀(m:Nat) (a b:Vl) {h:Heap} {Q:Int->Heap->Prop} {x y:Ea},sizeOf a<m->VRep h a x->VRep h b y->(∀h',Ext h h'->Q (cmpV a b) h')->(YZ x y).wp h Q:=by
 intro m
 induction m with
 |zero=>intro a b h Q x y hm;omega
 |succ m ih=>
  rintro⟨k,n,s,l⟩ ⟨k',n',s',l'⟩ h Q x y hm hx hy H
  obtain⟨xs,rfl,k1,n1,s1,r1⟩:=VRep.eq.1 hx
  obtain⟨ys,rfl,k2,n2,s2,r2⟩:=VRep.eq.1 hy
  unfold YZ
  refine Kw (λh1 e1 z1 g1=>Kw (λh2 e2 z2 g2=>?_))
  have g1':=e2.blk g1
  have E:=e1.trans e2
  have c0:KJ h2 ((⟨h.size,0,none⟩:Addr).add 0)=some (.int .i64 k):=by rw [ZO g1'];rfl
  have c1:KJ h2 ((⟨h.size,0,none⟩:Addr).add 1)=some (.int .i64 n):=by rw [ZO g1'];rfl
  have c2:KJ h2 ((⟨h.size,0,none⟩:Addr).add 2)=some (.string (bs s)):=by rw [ZO g1'];rfl
  have c3:KJ h2 ((⟨h.size,0,none⟩:Addr).add 3)=some xs.v:=by rw [ZO g1'];rfl
  have d0:KJ h2 ((⟨h1.size,0,none⟩:Addr).add 0)=some (.int .i64 k'):=by rw [ZO g2];rfl
  have d1:KJ h2 ((⟨h1.size,0,none⟩:Addr).add 1)=some (.int .i64 n'):=by rw [ZO g2];rfl
  have d2:KJ h2 ((⟨h1.size,0,none⟩:Addr).add 2)=some (.string (bs s')):=by rw [ZO g2];rfl
  have d3:KJ h2 ((⟨h1.size,0,none⟩:Addr).add 3)=some ys.v:=by rw [ZO g2];rfl
  refine KV (n:=k) c0 (KV (n:=k') d0 (KV (n:=n) c1 (KV (n:=n') d1 (WO (n:=bs s) c2 (WO (n:=bs s') d2 (Kn (n:=xs) c3 (Kn (n:=ys) d3 ?_)))))))
  refine KD (KLA (qE ⟨c0,d0,c1,d1,c2,d2,c3,d3⟩ ?_))
  refine KD (KIR (qE ⟨c0,d0,c1,d1,c2,d2,c3,d3⟩ ?_))
  unfold GB Zx
  refine KD (KZ (KA (qE ⟨c0,d0,c1,d1,c2,d2,c3,d3⟩ ?_)))
  simp only [Vl.mk.sizeOf_spec]at hm
  refine KD (KHN (r1.ext E) (r2.ext E) (λj hj hj' h3 c c' Q1 e3 hv hv' hq=>?_) (λh3 e3=>?_))
  ·refine KKS KAf (KBR _ _) (ih _ _ ?_ hv hv' hq)
   have:=FF (EJ hj)
   omega
  ·refine KAz ?_
   have e4:=Ext.push h3 (.cells #[Value.int .i64 (cmpI k k'),.int .i64 (cmpI n n'),.int .i64 (Lib.compareBytes (bs s).data.toList (bs s').data.toList),.int .i64 (qj l l')] WS)
   refine KD (KTz (zs:=[cmpI k k',cmpI n n',Lib.compareBytes s s',qj l l']) (t:=WS) ?_ rfl (by simp) (KA ?_))
   ·exact Kx
   ·have:=H _ ((E.trans e3).trans e4)
    rw [cmpV]at this
    have hz:∀a:Int,cOr a 0=a:=λa=>by unfold cOr;split<;>simp_all
    simpa [cOrs,hz] using this
theorem KLB {a b:Vl} {h:Heap} {Q:Int->Heap->Prop} {x y:Ea} (hx:VRep h a x) (hy:VRep h b y) (H:∀h',Ext h h'->Q (cmpV a b) h'):(YZ x y).wp h Q:=KMg _ a b (EH _) hx hy H
end Gx
namespace Gx
open Go
theorem Ke (l:Eb):(bs l).size=l.length:=by simp [bs,ByteArray.size]
theorem bs_get? (l:Eb) (i:Nat):(bs l)[i]?=l[i]?:=by
 rcases ES i l.length with h|h
 ·rw [Em h]
  have:i<(bs l).size:=by rw [Ke];exact h
  rw [getElem?_pos (bs l) i this]
  rfl
 ·rw [EK h]
  have:¬i<(bs l).size:=by rw [Ke];omega
  rw [getElem?_neg (bs l) i this]
theorem KMh (l:Eb):(bs l).toList=l:=by rw [ByteArray.toList_eq]
theorem KC4 (a b:Eb):sEq (bs a) (bs b)=decide (a=b):=by
 unfold sEq
 rw [KMh,KMh,EZ]
 simp
theorem KO9:ByteArray.empty=bs []:=rfl
theorem VX {β:Type} {h:Heap} {Q:β->Heap->Prop} {l:Eb} {i:Nat} {t:Int} {f:Int->M β} (ht:t=(i:Int)) (hi:i<l.length) (H:(f (l[i].toNat:Int)).wp h Q):(ixS (bs l) t>>=f).wp h Q:=
 ⟨_,⟨by omega,l[i],by subst ht;rw [FI,bs_get?,Em hi],rfl⟩,H⟩
theorem KFl {β:Type} {h:Heap} {Q:β->Heap->Prop} {x:Sl} {l:List Vl} {i:Nat} {t:Int} {f:Addr->M β} (H:VsRep h x l) (hi:i<l.length) (ht:t=(i:Int))
  (hq:∀a c,c.size=4->(∀m,m<4->KJ h (a.add m)=c[m]?)->VRep h l[i] c->(f a).wp h Q):(ixL x t 4>>=f).wp h Q:=by
 obtain⟨a,c,ha,hs,hcs,hv⟩:=H.get hi
 have:=H.len
 subst ht
 refine NM (by omega) (by omega) ha (hq _ c hs (λm hm=>?_) hv)
 rw [Addr.add_add,show(i:Int).toNat*4=i*4 by omega]
 exact hcs m hm
theorem KBW {a b:Int} {h:Heap} {Q:Int->Heap->Prop} (H:Q (cmpI a b) h):(Zk a b).wp h Q:=by
 unfold Zk
 unfold cmpI at H
 refine KH (λhc=>?_) (λhc=>?_)
 ·rw [if_pos (Ec hc)]at H;exact H
 ·rw [if_neg (Ed hc)]at H
  refine KH (λhc=>?_) (λhc=>?_)
  ·rw [if_pos (Ec hc)]at H;exact H
  ·rw [if_neg (Ed hc)]at H;exact H
theorem u8_lt_int {a b:UInt8}:(a<b)↔((a.toNat:Int)<(b.toNat:Int)):=by
 rw [Oz];omega
theorem z6 (a b:UInt8) (s t:Eb):Lib.compareBytes (a::s) (b::t)=if a=b then Lib.compareBytes s t else cmpI (a.toNat:Int) (b.toNat:Int):=by
 rw [Lib.compareBytes]
 unfold cmpI
 have h1:=@u8_lt_int a b
 have h2:=@u8_lt_int b a
 by_cases he:a=b
 ·subst he
  rw [if_pos rfl,if_neg (by rw [h1];omega),if_neg (by rw [h1];omega)]
 ·have hne:a.toNat≠b.toNat:=λh=>he (Fg.1 h)
  rw [if_neg he]
  by_cases hlt:a<b
  ·rw [if_pos hlt,if_pos (h1.1 hlt)]
  ·rw [if_neg hlt,if_neg (λh=>hlt (h1.2 h))]
   have:b<a:=by rw [h2];rw [h1]at hlt;omega
   rw [if_pos this,if_pos (h2.1 this)]
theorem KQb {s t:Eb} {h:Heap} {Q:Int->Heap->Prop} (hs:s.length<=9223372036854775807) (ht:t.length<=9223372036854775807) (H:Q (Lib.compareBytes s t) h):(Wn (bs s) (bs t)).wp h Q:=by
 unfold Wn
 refine M.loop_inv (λ(x:Int) h'=>h'=h/\∃i:Nat,x=(i:Int)/\i<=s.length/\i<=t.length/\Lib.compareBytes (s.drop i) (t.drop i)=Lib.compareBytes s t) (λx _=>((s.length:Int) - x).toNat) ?_ ⟨rfl,0,rfl,El _,El _,by simp⟩
 rintro x h' ⟨rfl,i,rfl,hi,hi',hd⟩ self hself
 unfold XU
 rw [Ke,Ke]
 have fin:¬(i<s.length/\i<t.length)->(Zk (s.length:Int) (t.length:Int)).wp h' (λr h1=>(M.pure r:M Int).wp h1 Q):=λhno=>by
  refine KBW (KA ?_)
  have:cmpI (s.length:Int) (t.length:Int)=Lib.compareBytes s t:=by
   rw [<-hd]
   unfold cmpI
   rcases ES i s.length with h1|h1
   ·have h2:i=t.length:=by omega
    subst h2
    rw [Eh h1,EY,Lib.compareBytes,if_neg (by omega),if_pos (by omega)]
   ·have h2:i=s.length:=by omega
    subst h2
    rw [EY]
    rcases ES s.length t.length with h3|h3
    ·rw [Eh h3,Lib.compareBytes,if_pos (by omega)]
    ·have:t.length=s.length:=by omega
     rw [<-this,EY,Lib.compareBytes,if_neg (by omega),if_neg (by omega)]
  rw [this]
  exact H
 refine KD (KH (λh1=>?_) (λh1=>?_))
 ·have h1:i<s.length:=by have:=Ec h1;omega
  refine KA (KH (λh2=>?_) (λh2=>?_))
  ·have h2:i<t.length:=by have:=Ec h2;omega
   rw [Eh h1,Eh h2,z6]at hd
   refine VX rfl h1 (VX rfl h2 (KH (λhne=>?_) (λheq=>?_)))
   ·have hne:s[i]≠t[i]:=λh=>by rw [h]at hne;simp at hne
    rw [if_neg hne]at hd
    have b1:=s[i].toNat_lt
    have b2:=t[i].toNat_lt
    refine VX rfl h1 (VX rfl h2 ?_)
    rw [w64 (by omega) (by omega),w64 (by omega) (by omega)]
    refine KD (KBW (KA ?_))
    rw [hd];exact H
   ·have heq':((s[i].toNat:Int))=t[i].toNat:=by simpa using heq
    have heq:s[i]=t[i]:=Fg.1 (by omega)
    rw [if_pos heq]at hd
    rw [w64 (by omega) (by omega)]
    exact hself _ _ ⟨rfl,i+1,by simp,by omega,by omega,hd⟩ (by omega)
  ·have h2:¬i<t.length:=by have:=Ed h2;omega
   exact KD (fin (λh=>h2 h.2))
 ·have h1:¬i<s.length:=by have:=Ed h1;omega
  exact KA (iteF rfl (KD (fin (λh=>h1 h.1))))
theorem KMi:∀(m:Nat) (a b:Vl) {h:Heap} {Q:Int->Heap->Prop} {x y:Ea},sizeOf a<m->VRep h a x->VRep h b y->(∀h',Ext h h'->Q (cmpV a b) h')->(Z4 x y).wp h Q:=by
 intro m
 induction m with
 |zero=>intro a b h Q x y hm;omega
 |succ m ih=>
  rintro⟨k,n,s,l⟩ ⟨k',n',s',l'⟩ h Q x y hm hx hy H
  obtain⟨xs,rfl,k1,n1,s1,r1⟩:=VRep.eq.1 hx
  obtain⟨ys,rfl,k2,n2,s2,r2⟩:=VRep.eq.1 hy
  simp only [Vl.mk.sizeOf_spec]at hm
  have hxl:=r1.len
  have hyl:=r2.len
  have hxb:=r1.big
  have hyb:=r2.big
  have hxc:=r1.cap
  have hyc:=r2.cap
  unfold Z4
  refine Kw (λh1 e1 z1 g1=>Kw (λh2 e2 z2 g2=>?_))
  have g1':=e2.blk g1
  have E:=e1.trans e2
  rw [cmpV]at H
  refine KV (n:=k) (by rw [ZO g1'];rfl) (KV (n:=k') (by rw [ZO g2];rfl) (KD (KBW ?_)))
  refine KH (λhne=>?_) (λheq=>?_)
  ·have hne:cmpI k k'≠0:=by simpa using hne
   have:=H _ E
   rw [cOr,if_neg hne]at this
   exact KA this
  have heq:cmpI k k'=0:=by simpa using heq
  rw [cOr,if_pos heq]at H
  refine KV (n:=n) (by rw [ZO g1'];rfl) (KV (n:=n') (by rw [ZO g2];rfl) (KD (KBW ?_)))
  refine KH (λhne=>?_) (λheq=>?_)
  ·have hne:cmpI n n'≠0:=by simpa using hne
   have:=H _ E
   rw [cOr,if_neg hne]at this
   exact KA this
  have heq:cmpI n n'=0:=by simpa using heq
  rw [cOr,if_pos heq]at H
  refine WO (n:=bs s) (by rw [ZO g1'];rfl) (WO (n:=bs s') (by rw [ZO g2];rfl) (KD (KQb s1 s2 ?_)))
  refine KH (λhne=>?_) (λheq=>?_)
  ·have hne:Lib.compareBytes s s'≠0:=by simpa using hne
   have:=H _ E
   rw [cOr,if_neg hne]at this
   exact KA this
  have heq:Lib.compareBytes s s'=0:=by simpa using heq
  rw [cOr,if_pos heq]at H
  refine M.loop_inv (λ(t:Int) h'=>Ext h2 h'/\∃i:Nat,t=(i:Int)/\i<=l.length/\i<=l'.length/\qj (l.drop i) (l'.drop i)=qj l l') (λt _=>((l.length:Int) - t).toNat) ?_ ⟨Ext.refl h2,0,rfl,El _,El _,by simp⟩
  rintro t h' ⟨E',i,rfl,hi,hi',hd⟩ self hself
  have f1:=E'.blk g1'
  have f2:=E'.blk g2
  have c3:KJ h' ((⟨h.size,0,none⟩:Addr).add 3)=some xs.v:=by rw [ZO f1];rfl
  have d3:KJ h' ((⟨h1.size,0,none⟩:Addr).add 3)=some ys.v:=by rw [ZO f2];rfl
  have EE:=E.trans E'
  have fin:¬(i<l.length/\i<l'.length)->(ldL ((⟨h.size,0,none⟩:Addr).add 3)>>=λXx48=>ldL ((⟨h1.size,0,none⟩:Addr).add 3)>>=λXx49=>Zk (Xx48.len:Int) (Xx49.len:Int)>>=λXx50=>M.pure Xx50).wp h' Q:=λhno=>by
   refine Kn (n:=xs) c3 (Kn (n:=ys) d3 (KD (KBW (KA ?_))))
   have:cmpI (xs.len:Int) (ys.len:Int)=qj l l':=by
    rw [<-hd,hxl,hyl]
    unfold cmpI
    rcases ES i l.length with h1|h1
    ·have h2:i=l'.length:=by omega
     subst h2
     rw [Eh h1,EY,qj,if_neg (by omega),if_pos (by omega)]
    ·have h2:i=l.length:=by omega
     subst h2
     rw [EY]
     rcases ES l.length l'.length with h3|h3
     ·rw [Eh h3,qj,if_pos (by omega)]
     ·have:l'.length=l.length:=by omega
      rw [<-this,EY,qj,if_neg (by omega),if_neg (by omega)]
   rw [this]
   exact H _ EE
  unfold W8
  refine Kn (n:=xs) c3 (KD (KH (λh3=>?_) (λh3=>?_)))
  ·have h3:i<l.length:=by have:=Ec h3;omega
   refine Kn (n:=ys) d3 (KA (KH (λh4=>?_) (λh4=>?_)))
   ·have h4:i<l'.length:=by have:=Ec h4;omega
    rw [Eh h3,Eh h4,qj]at hd
    refine Kn (n:=xs) c3 (KFl (r1.ext EE) h3 rfl (λa c hs hcs hv=>YF hs hcs (Kn (n:=ys) d3 (KFl (r2.ext EE) h4 rfl (λa' c' hs' hcs' hv'=>YF hs' hcs' ?_)))))
    refine KD (YI (Gv _ _) (ih _ _ ?_ hv hv' (λh5 e5=>?_)))
    ·have:=FF (EJ h3)
     omega
    refine KH (λhne=>?_) (λheq=>?_)
    ·have hne:cmpV l[i] l'[i]≠0:=by simpa using hne
     rw [cOr,if_neg hne]at hd
     rw [hd]
     exact KA (H _ (EE.trans e5))
    ·have heq:cmpV l[i] l'[i]=0:=by simpa using heq
     rw [cOr,if_pos heq]at hd
     rw [w64 (by omega) (by omega)]
     exact hself _ _ ⟨E'.trans e5,i+1,by simp,by omega,by omega,hd⟩ (by omega)
   ·have h4:¬i<l'.length:=by have:=Ed h4;omega
    exact fin (λh=>h4 h.2)
  ·have h3:¬i<l.length:=by have:=Ed h3;omega
   exact KA (iteF rfl (fin (λh=>h3 h.1)))
theorem KFm {a b:Vl} {h:Heap} {Q:Int->Heap->Prop} {x y:Ea} (hx:VRep h a x) (hy:VRep h b y) (H:∀h',Ext h h'->Q (cmpV a b) h'):(Z4 x y).wp h Q:=KMi _ a b (EH _) hx hy H
theorem KQc {β:Type} {h:Heap} {Q:β->Heap->Prop} {b:Nat} {t:TypeId} {z:Nat×Nat} {v:Vl} {cs:Ea} {f:Ea->M β} (hb:h[b]?=some (.cells cs t z)) (hv:cs.size=4) (H:(f cs).wp h Q):(ldG 4 ⟨b,0,none⟩>>=f).wp h Q:=
 YF hv (λi _=>by rw [ZO hb]) H
theorem KQd {a b:Vl} {h:Heap} {Q:Bool->Heap->Prop} {x y:Ea} (hx:VRep h a x) (hy:VRep h b y) (H:∀h',Ext h h'->Q (decide (cmpV a b=0)) h'):(Wq x y).wp h Q:=by
 unfold Wq
 refine Kw (λh1 e1 z1 g1=>Kw (λh2 e2 z2 g2=>?_))
 have E:=e1.trans e2
 refine KQc (v:=a) (e2.blk g1) hx.size (KQc (v:=b) g2 hy.size (KD (KFm (hx.ext E) (hy.ext E) (λh3 e3=>KA ?_))))
 have:=H _ (E.trans e3)
 rwa [show(cmpV a b==0)=decide (cmpV a b=0)from rfl]
end Gx
namespace Gx
open Go
def KBX:List Vl->Bool
 |a::_::c::r=>decide (cmpV a c<0)&&KBX (c::r)
 |_=>true
def KIS (s:Eb) (l:List Vl):Bool:=decide (s=[])&&l.isEmpty
def mayV:Nat->Vl->Bool
 |0,_=>false
 |d+1,.mk k n s l=>
  if k=1 then KIS s l
  else if k=3 then KIS s l&&(decide (n=0)||decide (n=1))
  else if k=6\/k=7 then KIS s l&&decide (1<=n)&&decide (n<=281474976710656)
  else if k=2 then decide (n=0)&&l.isEmpty&&decide (s.length<=128)
  else if k=4 then decide (l.length<=256)&&(decide (n=0)&&decide (s=[])&&l.all (mayV d))
  else if k=5 then decide (l.length<=512)&&decide (l.length%2=0)&&KBX l&&(decide (n=0)&&decide (s=[])&&l.all (mayV d))
  else false
theorem Jp {β:Type} {h:Heap} {Q:β->Heap->Prop} {b c:Bool} {m:M Bool} {f:Bool->M β} (hm:b=true->∀Q':Bool->Heap->Prop,Q' c h->m.wp h Q') (H:(f (b&&c)).wp h Q):(M.ite b m (M.pure false)>>=f).wp h Q:=by
 cases b with
 |true=>exact hm rfl _ H
 |false=>exact H
theorem or_b {β:Type} {h:Heap} {Q:β->Heap->Prop} {b c:Bool} {m:M Bool} {f:Bool->M β} (hm:b=false->∀Q':Bool->Heap->Prop,Q' c h->m.wp h Q') (H:(f (b||c)).wp h Q):(M.ite b (M.pure true) m>>=f).wp h Q:=by
 cases b with
 |true=>exact H
 |false=>exact hm rfl _ H
theorem len0 {n:Nat} {l:List Vl} (h:n=l.length):((n:Int)==0)=l.isEmpty:=by
 subst h
 cases l with
 |nil=>rfl
 |cons a l=>simp;omega
theorem sEq0 (s:Eb):sEq (bs s) ByteArray.empty=decide (s=[]):=by rw [KO9,KC4]
theorem eqI (a b:Int):(a==b)=decide (a=b):=rfl
theorem KJa {h:Heap} {Q:Bool->Heap->Prop} {x:Sl} {l:List Vl} {g:Value} {p:Vl->Bool} (hx:VsRep h x l)
  (hg:∀j (hj:j<l.length) h1 c (Q1:Bool->Heap->Prop),Ext h h1->VRep h1 l[j] c->(∀h2,Ext h1 h2->Q1 (p l[j]) h2)->(qq Tryz.prog (λr:Bool=>.bool r) g [.agg c]).wp h1 Q1)
  (H:∀h',Ext h h'->Q (l.any p) h'):(Kp x g).wp h Q:=by
 unfold Kp ZN
 have hxl:=hx.len
 have hxb:=hx.big
 have hxc:=hx.cap
 refine KD (M.loop_inv (λ(t:Int) h'=>Ext h h'/\∃i:Nat,t=(i:Int)/\i<=l.length/\(l.drop i).any p=l.any p) (λt _=>((l.length:Int) - t).toNat) ?_ ⟨Ext.refl h,0,rfl,El _,by simp⟩)
 rintro t h' ⟨E,i,rfl,hi,hd⟩ self hself
 unfold Zf
 refine KH (λhc=>?_) (λhc=>?_)
 ·have hlt:i<l.length:=by have:=Ec hc;omega
  rw [Eh hlt,Iz]at hd
  refine KFl (hx.ext E) hlt rfl (λa c hs hcs hv=>YF hs hcs (KD (hg i hlt h' c _ E hv (λh2 e2=>?_))))
  refine KH (λht=>KA (KA ?_)) (λhf=>?_)
  ·rw [ht]at hd
   rw [show decide ((i:Int)>=0)=l.any p by rw [<-hd];simp]
   exact H _ (E.trans e2)
  ·rw [hf,F5]at hd
   rw [w64 (by omega) (by omega)]
   exact hself _ _ ⟨E.trans e2,i+1,by simp,by omega,hd⟩ (by omega)
 ·have hge:i=l.length:=by have:=Ed hc;omega
  subst hge
  rw [EY]at hd
  refine KA (KA ?_)
  rw [show decide ((-1:Int)>=0)=l.any p by rw [<-hd];rfl]
  exact H _ E
theorem KJt {l:List Vl} {i:Nat} (h2:2<=i) (hi:i<l.length):KBX (l.drop (i - 2))=(decide (cmpV (l[i - 2]'(by omega)) l[i]<0)&&KBX (l.drop i)):=by
 rw [Eh (show i - 2<l.length by omega),Eh (show i - 2+1<l.length by omega)]
 have e:i - 2+1+1=i:=by omega
 simp only [e]
 rw [Eh hi,KBX]
theorem KMj {l:List Vl} {i:Nat} (h2:2<=i) (hi:l.length<=i):KBX (l.drop (i - 2))=true:=by
 have hl:(l.drop (i - 2)).length<=2:=by rw [Ex];omega
 match h:l.drop (i - 2),hl with
 | [],_=>rfl
 | [_],_=>rfl
 | [_,_],_=>rfl
theorem KWq (l:List Vl) (p:Vl->Bool):(!l.any λx=>!p x)=l.all p:=by
 induction l with
 |nil=>rfl
 |cons a l ih=>simp [Iz,EX,<-ih]
theorem KRl:∀(d:Nat) (v:Vl) {h:Heap} {Q:Bool->Heap->Prop} {x:Ea},d<=8->VRep h v x->(∀h',Ext h h'->Q (mayV d v) h')->(qY x ((9 - d:Nat):Int)).wp h Q:=by
 intro d
 induction d with
 |zero=>
  rintro v h Q x _ hx H
  unfold qY
  refine Kw (λh1 e1 z1 g1=>Kw (λh2 e2 z2 g2=>?_))
  refine KV (n:=((9 - 0:Nat):Int)) (by rw [show(⟨h1.size,0,none⟩:Addr)=(⟨h1.size,0,none⟩:Addr).add 0 from rfl,ZO g2];rfl) (iteT rfl (KA (H _ (e1.trans e2))))
 |succ d ih=>
  rintro⟨k,n,s,l⟩ h Q x hd hx H
  obtain⟨xs,rfl,k1,n1,s1,r1⟩:=VRep.eq.1 hx
  have hxl:=r1.len
  have hxb:=r1.big
  have hxc:=r1.cap
  unfold qY
  refine Kw (λh1 e1 z1 g1=>Kw (λh2 e2 z2 g2=>?_))
  have g1':=e2.blk g1
  have E:=e1.trans e2
  have c0:KJ h2 ((⟨h.size,0,none⟩:Addr).add 0)=some (.int .i64 k):=by rw [ZO g1'];rfl
  have c1:KJ h2 ((⟨h.size,0,none⟩:Addr).add 1)=some (.int .i64 n):=by rw [ZO g1'];rfl
  have c2:KJ h2 ((⟨h.size,0,none⟩:Addr).add 2)=some (.string (bs s)):=by rw [ZO g1'];rfl
  have c3:KJ h2 ((⟨h.size,0,none⟩:Addr).add 3)=some xs.v:=by rw [ZO g1'];rfl
  have cd:KJ h2 ⟨h1.size,0,none⟩=some (.int .i64 ((9 - (d+1):Nat):Int)):=by rw [show(⟨h1.size,0,none⟩:Addr)=(⟨h1.size,0,none⟩:Addr).add 0 from rfl,ZO g2];rfl
  have H2:Q (mayV (d+1) (.mk k n s l)) h2:=H _ E
  unfold mayV at H H2
  refine KV cd (iteF (by simp;omega) (WO c2 (Jp (c:=l.isEmpty) (λ_ Q' hq=>Kn c3 (KA (by rw [len0 hxl];exact hq))) ?_)))
  rw [sEq0]
  have hb:(decide (s=[])&&l.isEmpty)=KIS s l:=rfl
  rw [hb]
  have tail:(∀h',Ext h h'->Q (decide (n=0)&&decide (s=[])&&l.all (mayV d)) h')->∀h3,Ext h2 h3->(NA ⟨h.size,0,none⟩ ⟨h1.size,0,none⟩).wp h3 Q:=λHT h3 e3=>by
   unfold NA
   refine KV (e3.cell c1) (Jp (c:=decide (s=[])) (λ_ Q' hq=>WO (e3.cell c2) (KA (by rw [sEq0];exact hq))) ?_)
   rw [eqI]
   cases hns:(decide (n=0)&&decide (s=[]))with
   |false=>
    have:=HT h3 (E.trans e3)
    rw [hns]at this
    exact KZ (KA this)
   |true=>
    rw [hns]at HT
    refine KD (iteT rfl (Kn (e3.cell c3) (KD (KJa (p:=λx=>!mayV d x) (r1.ext (E.trans e3)) (λj hj h4 c Q1 e4 hv hq=>?_) (λh4 e4=>KA (KA ?_))))))
    ·refine KKS KJU (KK7 _ _) ?_
     unfold KIP
     refine Kw (λh5 e5 z5 g5=>KQc (v:=l[j]) g5 hv.size (KV (e5.cell (e4.cell (e3.cell cd))) ?_))
     rw [show IntKind.wrap .i64 (((9 - (d+1):Nat):Int)+1)=((9 - d:Nat):Int) by rw [w64 (by omega) (by omega)];omega]
     exact KD (ih _ (by omega) (hv.ext e5) (λh6 e6=>KA (hq _ (e5.trans e6))))
    ·rw [KWq]
     exact HT _ ((E.trans e3).trans e4)
  refine KV c0 (KH (λh1k=>?_) (λh1k=>?_))
  ·have h1k:k=1:=by simpa using h1k
   rw [if_pos h1k]at H2
   exact KA H2
  have h1k:¬k=1:=by simpa using h1k
  rw [if_neg h1k]at H2
  simp only [if_neg h1k]at H
  refine KH (λh3k=>?_) (λh3k=>?_)
  ·have h3k:k=3:=by simpa using h3k
   rw [if_pos h3k]at H2
   refine Jp (c:=(decide (n=0)||decide (n=1))) (λ_ Q' hq=>KV c1 (or_b (c:=decide (n=1)) (λ_ Q'' hq'=>KV c1 (KA hq')) (KA hq))) (KA H2)
  have h3k:¬k=3:=by simpa using h3k
  rw [if_neg h3k]at H2
  simp only [if_neg h3k]at H
  have j2:(NB ⟨h.size,0,none⟩ ⟨h1.size,0,none⟩ (KIS s l) k (decide (k=6\/k=7))).wp h2 Q:=by
   unfold NB
   refine KH (λh67=>?_) (λh67=>?_)
   ·rw [if_pos (Ec h67)]at H2
    refine Jp (c:=decide (1<=n)) (λ_ Q' hq=>KV c1 (KA hq)) (Jp (c:=decide (n<=281474976710656)) (λ_ Q' hq=>KV c1 (KA hq)) (KA H2))
   rw [if_neg (Ed h67)]at H2
   simp only [if_neg (Ed h67)]at H
   refine KH (λh2k=>?_) (λh2k=>?_)
   ·have h2k:k=2:=by simpa using h2k
    rw [if_pos h2k]at H2
    refine KV c1 (Jp (c:=l.isEmpty) (λ_ Q' hq=>Kn c3 (KA (by rw [len0 hxl];exact hq))) (Jp (c:=decide (s.length<=128)) (λ_ Q' hq=>WO c2 (KA (by rw [show decide (((bs s).size:Int)<=128)=decide (s.length<=128) by rw [Ke,EZ];simp only [EN];omega];exact hq))) (KA ?_)))
    exact H2
   have h2k:¬k=2:=by simpa using h2k
   rw [if_neg h2k]at H2
   simp only [if_neg h2k]at H
   refine KH (λh4k=>?_) (λh4k=>?_)
   ·have h4k:k=4:=by simpa using h4k
    rw [if_pos h4k]at H2
    simp only [if_pos h4k]at H
    refine Kn c3 (KH (λhbig=>?_) (λhsm=>?_))
    ·have:¬l.length<=256:=by have:=Ec hbig;omega
     rw [Eo this,Fo]at H2
     exact KA H2
    ·have:l.length<=256:=by have:=Ed hsm;omega
     simp only [Ej this,E9]at H
     exact tail H h2 (Ext.refl _)
   have h4k:¬k=4:=by simpa using h4k
   rw [if_neg h4k]at H2
   simp only [if_neg h4k]at H
   refine KH (λh5k=>?_) (λh5k=>?_)
   ·have h5k:k=5:=by simpa using h5k
    rw [if_pos h5k]at H2
    simp only [if_pos h5k]at H
    have hodd:((Int.tmod (xs.len:Int) 2)==1)=!decide (l.length%2=0):=by
     rw [hxl,FD (by omega),EZ]
     simp
     omega
    refine Kn c3 (or_b (c:=!decide (l.length%2=0)) (λ_ Q' hq=>Kn c3 (KA (by rw [hodd];exact hq))) ?_)
    have hbig:decide ((xs.len:Int)>512)=!decide (l.length<=512):=by
     rw [hxl,EZ];simp;omega
    rw [hbig]
    cases h512:decide (l.length<=512)with
    |false=>rw [h512]at H2;exact iteT rfl (KA (by simpa using H2))
    |true=>
     cases heven:decide (l.length%2=0)with
     |false=>rw [h512,heven]at H2;exact iteT rfl (KA (by simpa using H2))
     |true=>
      simp only [h512,heven,E9]at H
      refine iteF rfl ?_
      refine M.loop_inv (λ(t:Int) h'=>Ext h2 h'/\∃i:Nat,t=(i:Int)/\2<=i/\i<=l.length+2/\KBX (l.drop (i - 2))=KBX l) (λt _=>((l.length:Int)+2 - t).toNat) ?_ ⟨Ext.refl h2,2,rfl,Ee _,by omega,by simp⟩
      rintro t h' ⟨E',i,rfl,hi2,hi,hd'⟩ self hself
      unfold KBS
      have hl512:=Ec h512
      refine Kn (E'.cell c3) (KH (λhc=>?_) (λhc=>?_))
      ·have hlt:i<l.length:=by have:=Ec hc;omega
       rw [KJt hi2 hlt]at hd'
       have EE:=E.trans E'
       refine Kn (E'.cell c3) (KFl (i:=i - 2) (r1.ext EE) (by omega) (by rw [w64 (by omega) (by omega)];omega) (λa c hs hcs hv=>YF hs hcs (Kn (E'.cell c3) (KFl (r1.ext EE) hlt rfl (λa' c' hs' hcs' hv'=>YF hs' hcs' ?_)))))
       refine KD (KLB hv hv' (λh3 e3=>?_))
       refine KH (λhge=>?_) (λhlt'=>?_)
       ·have hge:¬cmpV (l[i - 2]'(by omega)) l[i]<0:=by have:=Ec hge;omega
        rw [Eo hge,Fo]at hd'
        have:=H _ (EE.trans e3)
        rw [<-hd',Fo]at this
        exact KA this
       ·have hlt':cmpV (l[i - 2]'(by omega)) l[i]<0:=by have:=Ed hlt';omega
        rw [Ej hlt',E9]at hd'
        rw [w64 (by omega) (by omega)]
        exact hself _ _ ⟨E'.trans e3,i+2,by simp,by omega,by omega,by simpa using hd'⟩ (by omega)
      ·have hge:l.length<=i:=by have:=Ed hc;omega
       rw [KMj hi2 hge]at hd'
       refine tail (λh3 e3=>?_) h' E'
       have:=H h3 e3
       rw [<-hd',E9]at this
       exact this
   ·have h5k:¬k=5:=by simpa using h5k
    rw [if_neg h5k]at H2
    exact KA H2
  refine KH (λh6k=>?_) (λh6k=>?_)
  ·have h6k:k=6:=by simpa using h6k
   have e:(k==6)=decide (k=6\/k=7):=by subst h6k;rfl
   rw [e]
   exact j2
  ·have h6k:¬k=6:=by simpa using h6k
   have e:(k==7)=decide (k=6\/k=7):=by rw [eqI,EZ];simp [h6k]
   rw [e]
   exact j2
def KFn (v:Vl):Int:=if mayV 8 v=true then 0 else 20
theorem KIT {v:Vl} {h:Heap} {Q:Int->Heap->Prop} {x:Ea} (hx:VRep h v x) (H:∀h',Ext h h'->Q (KFn v) h'):(GZ x).wp h Q:=by
 unfold GZ
 refine Kw (λh1 e1 z1 g1=>KQc (v:=v) g1 hx.size (KD (KRl 8 v (Ee _) (hx.ext e1) (λh2 e2=>?_))))
 have:=H _ (e1.trans e2)
 unfold KFn at this
 cases hm:mayV 8 v with
 |true=>rw [hm,if_pos rfl]at this;exact iteF rfl (KA this)
 |false=>rw [hm,if_neg (by simp)]at this;exact iteT rfl (KA this)
end Gx
namespace Gx
open Go
theorem KOD {l:List Vl} {h:Heap} {Q:Bool->Heap->Prop} {x:Sl} (hx:VsRep h x l) (hb:l.length<=9223372036854775000) (H:∀h',Ext h h'->Q (KBX l) h'):(V7 x).wp h Q:=by
 unfold V7
 have hxl:=hx.len
 refine M.loop_inv (λ(t:Int) h'=>Ext h h'/\∃i:Nat,t=(i:Int)/\2<=i/\i<=l.length+2/\KBX (l.drop (i - 2))=KBX l) (λt _=>((l.length:Int)+2 - t).toNat) ?_ ⟨Ext.refl h,2,rfl,Ee _,by omega,by simp⟩
 rintro t h' ⟨E,i,rfl,hi2,hi,hd'⟩ self hself
 unfold Yl
 rw [hxl]
 refine KH (λhc=>?_) (λhc=>?_)
 ·have hlt:i<l.length:=by have:=Ec hc;omega
  rw [KJt hi2 hlt]at hd'
  refine KFl (i:=i - 2) (hx.ext E) (by omega) (by rw [w64 (by omega) (by omega)];omega) (λa c hs hcs hv=>KFl (hx.ext E) hlt rfl (λa' c' hs' hcs' hv'=>YF hs hcs (YF hs' hcs' ?_)))
  refine KD (KFm hv hv' (λh3 e3=>?_))
  refine KH (λhge=>?_) (λhlt'=>?_)
  ·have hge:¬cmpV (l[i - 2]'(by omega)) l[i]<0:=by have:=Ec hge;omega
   rw [Eo hge,Fo]at hd'
   have:=H _ (E.trans e3)
   rw [<-hd']at this
   exact KA this
  ·have hlt':cmpV (l[i - 2]'(by omega)) l[i]<0:=by have:=Ed hlt';omega
   rw [Ej hlt',E9]at hd'
   rw [w64 (by omega) (by omega)]
   exact hself _ _ ⟨E.trans e3,i+2,by simp,by omega,by omega,by simpa using hd'⟩ (by omega)
 ·have hge:l.length<=i:=by have:=Ed hc;omega
  rw [KMj hi2 hge]at hd'
  have:=H _ E
  rw [<-hd']at this
  exact KA this
theorem KRm {d:Nat} (hd:d<=7) {l:List Vl} {h:Heap} {Q:Bool->Heap->Prop} {x:Sl} (hx:VsRep h x l)
  (hg:∀j (hj:j<l.length) h1 c (Q1:Bool->Heap->Prop),Ext h h1->VRep h1 l[j] c->(∀h2,Ext h1 h2->Q1 (mayV d l[j]) h2)->(Uk c ((8 - d:Nat):Int)).wp h1 Q1)
  (H:∀h',Ext h h'->Q (l.all (mayV d)) h'):(qa x ((8 - (d+1):Nat):Int)).wp h Q:=by
 unfold qa
 have hxl:=hx.len
 have hxb:=hx.big
 have hxc:=hx.cap
 refine M.loop_inv (λ(t:Int) h'=>Ext h h'/\∃i:Nat,t=(i:Int)/\i<=l.length/\(l.drop i).all (mayV d)=l.all (mayV d)) (λt _=>((l.length:Int) - t).toNat) ?_ ⟨Ext.refl h,0,rfl,El _,by simp⟩
 rintro t h' ⟨E,i,rfl,hi,hd'⟩ self hself
 unfold GC
 rw [hxl]
 refine KH (λhc=>?_) (λhc=>?_)
 ·have hlt:i<l.length:=by have:=Ec hc;omega
  rw [Eh hlt,EX]at hd'
  refine KFl (hx.ext E) hlt rfl (λa c hs hcs hv=>YF hs hcs ?_)
  rw [show IntKind.wrap .i64 (((8 - (d+1):Nat):Int)+1)=((8 - d:Nat):Int) by rw [w64 (by omega) (by omega)];omega]
  refine KD (YI (zj _ _) (hg i hlt h' c _ E hv (λh2 e2=>?_)))
  refine KH (λhf=>?_) (λht=>?_)
  ·have hf:mayV d l[i]=false:=by simpa using hf
   rw [hf,Fo]at hd'
   have:=H _ (E.trans e2)
   rw [<-hd']at this
   exact KA this
  ·have ht:mayV d l[i]=true:=by simpa using ht
   rw [ht,E9]at hd'
   rw [w64 (by omega) (by omega)]
   exact hself _ _ ⟨E.trans e2,i+1,by simp,by omega,hd'⟩ (by omega)
 ·have hge:i=l.length:=by have:=Ed hc;omega
  subst hge
  rw [EY]at hd'
  have:=H _ E
  rw [<-hd']at this
  exact KA this
theorem KRn:∀(d:Nat) (v:Vl) {h:Heap} {Q:Bool->Heap->Prop} {x:Ea},d<=8->VRep h v x->(∀h',Ext h h'->Q (mayV d v) h')->(Uk x ((8 - d:Nat):Int)).wp h Q:=by
 intro d
 induction d with
 |zero=>
  rintro v h Q x _ hx H
  unfold Uk
  exact Kw (λh1 e1 z1 g1=>iteT rfl (KA (H _ e1)))
 |succ d ih=>
  rintro⟨k,n,s,l⟩ h Q x hd hx H
  obtain⟨xs,rfl,k1,n1,s1,r1⟩:=VRep.eq.1 hx
  have hxl:=r1.len
  have hxb:=r1.big
  have hxc:=r1.cap
  unfold Uk
  refine Kw (λh1 E z1 g1=>?_)
  have c0:KJ h1 ((⟨h.size,0,none⟩:Addr).add 0)=some (.int .i64 k):=by rw [ZO g1];rfl
  have c1:KJ h1 ((⟨h.size,0,none⟩:Addr).add 1)=some (.int .i64 n):=by rw [ZO g1];rfl
  have c2:KJ h1 ((⟨h.size,0,none⟩:Addr).add 2)=some (.string (bs s)):=by rw [ZO g1];rfl
  have c3:KJ h1 ((⟨h.size,0,none⟩:Addr).add 3)=some xs.v:=by rw [ZO g1];rfl
  have H2:Q (mayV (d+1) (.mk k n s l)) h1:=H _ E
  unfold mayV at H H2
  have bare:∀{β:Type} {Q':β->Heap->Prop} {f:Bool->M β},(f (KIS s l)).wp h1 Q'->(ldS ((⟨h.size,0,none⟩:Addr).add 2)>>=λx=>M.ite (sEq x ByteArray.empty) (ldL ((⟨h.size,0,none⟩:Addr).add 3)>>=λy=>M.pure ((y.len:Int)==0)) (M.pure false)>>=f).wp h1 Q':=λhq=>by
   refine WO c2 (Jp (c:=l.isEmpty) (λ_ Q' hq=>Kn c3 (KA (by rw [len0 hxl];exact hq))) ?_)
   rw [sEq0]
   exact hq
  have all:∀{Q':Bool->Heap->Prop},(∀h',Ext h1 h'->Q' (l.all (mayV d)) h')->(ldL ((⟨h.size,0,none⟩:Addr).add 3)>>=λy=>W5 Tryz.prog VF #[y.v,.int .i64 ((8 - (d+1):Nat):Int)] (λr:Bool=>.bool r)>>=λr=>M.pure r).wp h1 Q':=λhq=>
   Kn c3 (KD (YI (KGZ _ _) (KRm (by omega) (r1.ext E) (λj hj h4 c Q1 e4 hv hq'=>ih _ (by omega) hv hq') (λh2 e2=>KA (hq _ e2)))))
  refine iteF (by simp;omega) (KV c0 (KH (λh1k=>?_) (λh1k=>?_)))
  ·have h1k:k=1:=by simpa using h1k
   rw [if_pos h1k]at H2
   exact bare (KA H2)
  have h1k:¬k=1:=by simpa using h1k
  rw [if_neg h1k]at H2
  simp only [if_neg h1k]at H
  refine KH (λh3k=>?_) (λh3k=>?_)
  ·have h3k:k=3:=by simpa using h3k
   rw [if_pos h3k]at H2
   refine bare (Jp (c:=(decide (n=0)||decide (n=1))) (λ_ Q' hq=>KV c1 (or_b (c:=decide (n=1)) (λ_ Q'' hq'=>KV c1 (KA hq')) (KA hq))) (KA H2))
  have h3k:¬k=3:=by simpa using h3k
  rw [if_neg h3k]at H2
  simp only [if_neg h3k]at H
  have j2:(VK ((8 - (d+1):Nat):Int) ⟨h.size,0,none⟩ k (decide (k=6\/k=7))).wp h1 Q:=by
   unfold VK
   refine KH (λh67=>?_) (λh67=>?_)
   ·rw [if_pos (Ec h67)]at H2
    exact bare (Jp (c:=decide (1<=n)) (λ_ Q' hq=>KV c1 (KA hq)) (Jp (c:=decide (n<=281474976710656)) (λ_ Q' hq=>KV c1 (KA hq)) (KA H2)))
   rw [if_neg (Ed h67)]at H2
   simp only [if_neg (Ed h67)]at H
   refine KH (λh2k=>?_) (λh2k=>?_)
   ·have h2k:k=2:=by simpa using h2k
    rw [if_pos h2k]at H2
    refine KV c1 (Jp (c:=l.isEmpty) (λ_ Q' hq=>Kn c3 (KA (by rw [len0 hxl];exact hq))) (Jp (c:=decide (s.length<=128)) (λ_ Q' hq=>WO c2 (KA (by rw [show decide (((bs s).size:Int)<=128)=decide (s.length<=128) by rw [Ke,EZ];simp only [EN];omega];exact hq))) (KA ?_)))
    exact H2
   have h2k:¬k=2:=by simpa using h2k
   rw [if_neg h2k]at H2
   simp only [if_neg h2k]at H
   have zero:∀{β:Type} {Q':β->Heap->Prop} {f:Bool->M β},(f (decide (n=0)&&decide (s=[]))).wp h1 Q'->(ldI .i64 ((⟨h.size,0,none⟩:Addr).add 1)>>=λx=>M.ite (x==0) (ldS ((⟨h.size,0,none⟩:Addr).add 2)>>=λy=>M.pure (sEq y ByteArray.empty)) (M.pure false)>>=f).wp h1 Q':=λhq=>
    KV c1 (Jp (c:=decide (s=[])) (λ_ Q' hq=>WO c2 (KA (by rw [sEq0];exact hq))) hq)
   refine KH (λh4k=>?_) (λh4k=>?_)
   ·have h4k:k=4:=by simpa using h4k
    rw [if_pos h4k]at H2
    simp only [if_pos h4k]at H
    refine zero (Jp (c:=decide (l.length<=256)) (λ_ Q' hq=>Kn c3 (KA (by rw [show decide ((xs.len:Int)<=256)=decide (l.length<=256) by rw [hxl,EZ];simp only [EN];omega];exact hq))) ?_)
    cases hz:(decide (n=0)&&decide (s=[]))with
    |false=>
     rw [hz]at H2
     exact KZ (KA (by simpa using H2))
    |true=>
     cases hl:decide (l.length<=256)with
     |false=>rw [hl]at H2;exact KZ (KA (by simpa using H2))
     |true=>
      simp only [hz,hl,E9]at H
      exact KD (iteT rfl (all (λh2 e2=>KA (H _ (E.trans e2)))))
   have h4k:¬k=4:=by simpa using h4k
   rw [if_neg h4k]at H2
   simp only [if_neg h4k]at H
   refine KH (λh5k=>?_) (λh5k=>?_)
   ·have h5k:k=5:=by simpa using h5k
    rw [if_pos h5k]at H2
    simp only [if_pos h5k]at H
    have heven:((Int.tmod (xs.len:Int) 2)==0)=decide (l.length%2=0):=by
     rw [hxl,FD (by omega),EZ]
     simp
     omega
    refine zero (Jp (c:=decide (l.length<=512)) (λ_ Q' hq=>Kn c3 (KA (by rw [show decide ((xs.len:Int)<=512)=decide (l.length<=512) by rw [hxl,EZ];simp only [EN];omega];exact hq))) ?_)
    refine Jp (c:=decide (l.length%2=0)) (λ_ Q' hq=>Kn c3 (KA (by rw [heven];exact hq))) ?_
    cases hz:(decide (n=0)&&decide (s=[]))with
    |false=>
     rw [hz]at H2
     exact KZ (KZ (KA (by simpa using H2)))
    |true=>
     cases hl:decide (l.length<=512)with
     |false=>rw [hl]at H2;exact KZ (KZ (KA (by simpa using H2)))
     |true=>
      cases hev:decide (l.length%2=0)with
      |false=>rw [hev]at H2;exact KZ (KZ (KA (by simpa using H2)))
      |true=>
       simp only [hz,hl,hev,E9]at H
       refine KD (iteT rfl (all (λh2 e2=>?_)))
       cases ha:l.all (mayV d)with
       |false=>
        have:=H _ (E.trans e2)
        rw [ha,FH]at this
        exact KZ (KA this)
       |true=>
        refine KD (iteT rfl (Kn (e2.cell c3) (KD (KOD (r1.ext (E.trans e2)) (by have:=Ec hl;omega) (λh3 e3=>KA (KA ?_))))))
        have:=H _ ((E.trans e2).trans e3)
        rw [ha,IR]at this
        exact this
   ·have h5k:¬k=5:=by simpa using h5k
    rw [if_neg h5k]at H2
    exact KA H2
  refine KH (λh6k=>?_) (λh6k=>?_)
  ·have h6k:k=6:=by simpa using h6k
   have e:(k==6)=decide (k=6\/k=7):=by subst h6k;rfl
   rw [e]
   exact j2
  ·have h6k:¬k=6:=by simpa using h6k
   have e:(k==7)=decide (k=6\/k=7):=by rw [eqI,EZ];simp [h6k]
   rw [e]
   exact j2
theorem KIU {v:Vl} {h:Heap} {Q:Int->Heap->Prop} {x:Ea} (hx:VRep h v x) (H:∀h',Ext h h'->Q (KFn v) h'):(Ub x).wp h Q:=by
 unfold Ub
 refine Kw (λh1 e1 z1 g1=>KQc (v:=v) g1 hx.size (KD (KRn 8 v (Ee _) (hx.ext e1) (λh2 e2=>?_))))
 have:=H _ (e1.trans e2)
 unfold KFn at this
 cases hm:mayV 8 v with
 |true=>rw [hm,if_pos rfl]at this;exact iteF rfl (KA this)
 |false=>rw [hm,if_neg (by simp)]at this;exact iteT rfl (KA this)
end Gx
namespace Gx
open Go Go.Proofs Go.Shelf Go.RowKit Go.Lib
theorem KWr {s:Eb} {a b:Nat}:(bs s).extract a b=bs ((s.drop a).take (b - a)):=by
 apply Om
 simp [bs,ByteArray.extract,ByteArray.copySlice]
theorem KQe (l:Eb):Uj (bs l)=l.map bv:=rfl
theorem KMk {β:Type} {h:Heap} {Q:β->Heap->Prop} {s:Eb} {a b:Nat} {lo hi:Int} {f:ByteArray->M β} (hl:lo=(a:Int)) (hh:hi=(b:Int)) (h1:a<=b) (h2:b<=s.length) (H:(f (bs ((s.drop a).take (b - a)))).wp h Q):(slS (bs s) lo hi>>=f).wp h Q:=by
 subst hl;subst hh
 refine⟨_,⟨by omega,by omega,by rw [Ke];omega,rfl⟩,?_⟩
 rw [FI,FI,KWr]
 exact H
theorem KJb {h:Heap} {Q:Bool->Heap->Prop} {x:Sl} {l:Eb} {g:Value} {p:UInt8->Bool} (hx:Bys h x l) (hl:l.length<=4611686018427387904)
  (hg:∀(c:UInt8) (Q1:Bool->Heap->Prop),Q1 (p c) h->(qq Tryz.prog (λr:Bool=>.bool r) g [.int .u8 (c.toNat:Int)]).wp h Q1)
  (H:Q (l.any p) h):(ZS x g).wp h Q:=by
 unfold ZS JF
 have hxl:=hx.len
 refine KD (M.loop_inv (λ(t:Int) h'=>h'=h/\∃i:Nat,t=(i:Int)/\i<=l.length/\(l.drop i).any p=l.any p) (λt _=>((l.length:Int) - t).toNat) ?_ ⟨rfl,0,rfl,El _,by simp⟩)
 rintro t h' ⟨rfl,i,rfl,hi,hd⟩ self hself
 unfold Jj
 refine KH (λhc=>?_) (λhc=>?_)
 ·have hlt:i<l.length:=by have:=Ec hc;omega
  rw [Eh hlt,Iz]at hd
  obtain⟨b,hb,KJ⟩:=hx.get hlt
  refine NM (by omega) (by omega) hb (KV (n:=(l[i].toNat:Int)) ?_ (KD (hg l[i] _ ?_)))
  ·rw [show(i:Int).toNat*1=i by omega];exact KJ
  refine KH (λht=>KA (KA ?_)) (λhf=>?_)
  ·rw [ht]at hd
   rw [show decide ((i:Int)>=0)=l.any p by rw [<-hd];simp]
   exact H
  ·rw [hf,F5]at hd
   rw [w64 (by omega) (by omega)]
   exact hself _ _ ⟨rfl,i+1,by simp,by omega,hd⟩ (by omega)
 ·have hge:i=l.length:=by have:=Ed hc;omega
  subst hge
  rw [EY]at hd
  refine KA (KA ?_)
  rw [show decide ((-1:Int)>=0)=l.any p by rw [<-hd];rfl]
  exact H
def digB (c:UInt8):Bool:=decide (48<=c.toNat)&&decide (c.toNat<=57)
theorem KQf {c:UInt8} {h:Heap} {Q:Bool->Heap->Prop} (H:Q (!digB c) h):(KEK (c.toNat:Int)).wp h Q:=by
 unfold KEK
 refine or_b (c:=decide ((c.toNat:Int)>57)) (λ_ Q' hq=>KA hq) (KA ?_)
 rw [show(decide ((c.toNat:Int)<48)||decide ((c.toNat:Int)>57))=!digB c by
  unfold digB
  by_cases h1:c.toNat<48
  ·simp [show((c.toNat:Int)<48) by omega,show ¬48<=c.toNat by omega]
  ·by_cases h2:c.toNat>57
   ·simp [show((c.toNat:Int)>57) by omega,show ¬c.toNat<=57 by omega]
   ·simp [show ¬((c.toNat:Int)<48) by omega,show ¬((c.toNat:Int)>57) by omega,show 48<=c.toNat by omega,show c.toNat<=57 by omega]]
 exact H
def ErrV (h:Heap):Prop:=∃t p,KJ h ⟨gER,0,none⟩=some (.iface t p)
theorem ErrV.ext {h h':Heap} (H:ErrV h) (e:Ext h h'):ErrV h':=by obtain⟨t,p,hc⟩:=H;exact⟨t,p,e.cell hc⟩
theorem KQg {t:Eb} {h:Heap} {Q:ByteArray->Heap->Prop} (ht:t.length<=281474976710656) (H:∀h',Ext h h'->Q (bs t) h'):(Zu (bs t)).wp h Q:=by
 unfold Zu
 rw [Ke]
 refine KH (λh0=>?_) (λh0=>?_)
 ·have:t=[]:=by have:=eq_of_beq h0;exact E8.1 (by omega)
  subst this
  exact KA (H _ (Ext.refl _))
 ·have hne:t≠[]:=λe=>by subst e;exact absurd h0 (by decide)
  have hpos:0<t.length:=Fl.2 hne
  refine⟨by omega,by omega,by omega,by omega,?_⟩
  rw [FI,FT]
  have e1:=Ext.push h (.cells (zRow #[.int .u8 0] t.length) Ko)
  have g1:(h.push (.cells (zRow #[.int .u8 0] t.length) Ko))[h.size]?=some (.cells (zRow #[.int .u8 0] t.length) Ko (0,0)):=Kx
  have s1:(h.push (.cells (zRow #[.int .u8 0] t.length) Ko)).size=h.size+1:=F4 _
  generalize h.push (.cells (zRow #[.int .u8 0] t.length) Ko)=h1 at e1 g1 s1⊢
  have hz:(zRow #[.int .u8 0] t.length).size=t.length:=KL9 _ _
  refine⟨by rw [Ke];exact Ee _,?_,?_⟩
  ·intro a ha j hj
   cases ha
   rw [Ke]at hj
   rw [KM,EC]
   refine⟨⟨(zRow #[.int .u8 0] t.length)[j]'(by omega),?_⟩,Kv g1⟩
   rw [KF g1];exact EF (by omega)
  show M.wp _ (hsetL h1 ((⟨h.size,0,none⟩:Addr).add 0) (Uj (bs t)) 0) Q
  rw [KM,EC]
  have g2:=KHS (o:=0) (Uj (bs t)) h1 0 _ g1
  have e2:Ext h (hsetL h1 ⟨h.size,0,none⟩ (Uj (bs t)) 0):=e1.hsetL (Ee _)
  have s2:=ze (a:=⟨h.size,0,none⟩) (Uj (bs t)) h1 0
  have hlen:(Uj (bs t)).length=(zRow #[.int .u8 0] t.length).size:=by rw [hz];simp [Uj,bs]
  rw [FX,KW hlen]at g2
  generalize hsetL h1 ⟨h.size,0,none⟩ (Uj (bs t)) 0=h2 at g2 e2 s2⊢
  refine NM (b:=⟨h.size,0,none⟩) (by decide) (by show(0:Int)<((t.length:Nat):Int);omega) rfl (.inr ⟨h.size,_,_,t,?_,rfl,hne,?_,by omega,g2,?_,?_⟩)
  ·rw [KM];rfl
  ·rw [IN,hlen,hz];exact Ee _
  ·intro j x hx
   rw [OA]
   simp [Uj,bs,hx]
  ·intro h3 hs3 same3
   refine KA (H _ ⟨by have:=e2.size;omega,λi hi=>?_⟩)
   rw [same3 i (by omega)]
   exact e2.same i hi
theorem KLC {fn t:Eb} {h:Heap} {Q:Option Addr->Heap->Prop} (ht:t.length<=281474976710656) (hv:ErrV h) (H:∀h' a,Ext h h'->Q (some a) h'):(VW (bs fn) (bs t)).wp h Q:=by
 obtain⟨ty,p,hc⟩:=hv
 unfold VW
 refine⟨_,hc,KD (KQg ht (λh1 e1=>qE (e1.cell hc) ?_))⟩
 refine⟨_,rfl,KWY (KA (H _ _ (e1.pushed _)))⟩
theorem KQh {fn t:Eb} {h:Heap} {Q:Value->Heap->Prop} (ht:t.length<=281474976710656) (hv:ErrV h) (H:∀h' u x,Ext h h'->Q (.iface u x) h'):(YW (bs fn) (bs t) 10 64 (.iface Kt (.int .i64 1))).wp h Q:=by
 unfold YW
 refine⟨false,⟨_,_,_,rfl,rfl,rfl⟩,iteF rfl ⟨true,⟨_,_,_,rfl,rfl,rfl⟩,iteT rfl (KD (KLC ht hv (λh1 a e1=>KA (H _ _ _ e1))))⟩⟩
def numD (t:Eb):Eb:=if t.head?=some 45 then t.tail else t
def numP (t:Eb):Int×Int:=
 if numD t=[]then(0,10)else if(numD t).all digB=false then(0,10)else if(numD t).head?=some 48/\t≠[48]then(0,10)
 else match Lib.parseIntB 64 t with| .ok n=>(n,0)|_=>(0,7)
def KYw {α:Type}:Lib.NumEnd α->Bool
 | .ok _=>true
 | .range=>true
 |_=>false
theorem KGc (M:Nat):∀(r:Eb) (acc:Nat),r.all digB=true->KYw (parseUintM M acc r)=true
 | [],acc,_=>by rw [parseUintM];rfl
 |c::r,acc,h=>by
  rw [EX,Eg]at h
  have h1:=h.1
  unfold digB at h1
  rw [Eg,Ei,Ei]at h1
  rw [parseUintM,if_pos h1]
  split
  ·rfl
  ·split
   ·rfl
   ·exact KGc M r _ h.2
theorem KRo {c:UInt8}:((c.toNat:Int)==45)=decide (some c=some (45:UInt8)):=by
 rw [eqI]
 refine Es.2 ⟨λh=>?_,λh=>by cases h;rfl⟩
 have:c=45:=Fg.1 (by show c.toNat=45;omega)
 rw [this]
theorem KRp {c:UInt8}:((c.toNat:Int)==48)=decide (some c=some (48:UInt8)):=by
 rw [eqI]
 refine Es.2 ⟨λh=>?_,λh=>by cases h;rfl⟩
 have:c=48:=Fg.1 (by show c.toNat=48;omega)
 rw [this]
theorem KQi {t:Eb} (h1:numD t≠[]) (h2:(numD t).all digB=true):KYw (Lib.parseIntB 64 t)=true:=by
 cases t with
 |nil=>exact absurd rfl h1
 |cons c r=>
  have hd:numD (c::r)=(if c.toNat=43\/c.toNat=45 then r else c::r):=by
   unfold numD
   rw [FL,Ip]
   by_cases h45:c=45
   ·subst h45;rfl
   ·have hn:c.toNat≠45:=λe=>h45 (Fg.1 (by rw [e];rfl))
    rw [if_neg (by simpa using h45)]
    by_cases h43:c.toNat=43
    ·exfalso
     unfold numD at h2
     rw [FL,if_neg (by simpa using h45),EX,Eg]at h2
     have:=h2.1
     unfold digB at this
     rw [Eg,Ei,Ei]at this
     omega
    ·rw [if_neg (by omega)]
  rw [hd]at h1 h2
  unfold parseIntB
  dsimp only
  unfold parseUintB
  rw [if_neg h1]
  have:=KGc (2^64 - 1) _ 0 h2
  split
  ·rename_i hh;rw [hh]at this;cases this
  ·rfl
  ·split
   ·rfl
   ·split<;>rfl
theorem KIV {t:Eb} {h:Heap} {Q:Int×Int->Heap->Prop} (ht:t.length<=281474976710656) (hv:ErrV h) (H:∀h',Ext h h'->Q (numP t) h'):(NG (bs t) (bs (numD t))).wp h Q:=by
 have hdl:(numD t).length<=t.length:=by unfold numD;split<;>simp
 have hdl2:t.length<=(numD t).length+1:=by unfold numD;split<;>simp<;>omega
 unfold NG
 refine KR ?_
 have fin:∀(b:Bool) (h1:Heap),Ext h h1->b=(decide (numD t=[])|| !(numD t).all digB)->(M.wp (M.ite b (M.pure true) (do
  let Xx11<-ixS (bs (numD t)) 0
  let Xx12<-M.ite (Xx11==48) (do
   M.pure (!(sEq (bs t) (⟨#[48]⟩:ByteArray)))
   ) (do
   M.pure false
   )
  M.pure Xx12
  )>>=λXx10=>M.ite Xx10 (do
  M.pure (0,10)
  ) (do
  let Xx15<-Wx (bs t) 10 64
  let Xx17<-isNI Xx15.2
  let Xx18<-KBk Xx15.1 Xx17
  M.pure (Xx18.1,Xx18.2)
  )) h1 Q):=by
  intro b h1 e1 hb
  refine KJF (λhbt=>?_) (λhbf=>?_)
  ·refine KZ (iteT rfl (KA ?_))
   have:numP t=(0,10):=by
    unfold numP
    rw [hb,EO,Ei,FJ]at hbt
    by_cases h0:numD t=[]
    ·rw [if_pos h0]
    ·rw [if_neg h0,if_pos (hbt.resolve_left h0)]
   rw [<-this]
   exact H _ e1
  ·rw [hb,Ff,EQ,Bool.not_eq_false']at hbf
   obtain⟨hd0,hda⟩:=hbf
   have hpos:0<(numD t).length:=Fl.2 hd0
   refine VX (i:=0) rfl hpos ?_
   have hhead:(numD t).head?=some ((numD t)[0]'hpos):=by rw [Ir];exact Em hpos
   refine KR (Jp (c:=decide (t≠[48])) (λ_ Q' hq=>KA ?_) (KZ ?_))
   ·rw [show(⟨#[48]⟩:ByteArray)=bs [48]from rfl,KC4]
    rw [show(!decide (t=[48]))=decide (t≠[48]) by simp]
    exact hq
   rw [KRp]
   have hnp:∀X,numP t=(if(numD t).head?=some 48/\t≠[48]then(0,10)else X)↔numP t=(if(numD t).head?=some 48/\t≠[48]then(0,10)else X):=λ_=>Iff.rfl
   refine KH (λhz=>KA ?_) (λhz=>?_)
   ·rw [Eg,Ei,Ei,<-hhead]at hz
    have:numP t=(0,10):=by
     unfold numP
     rw [if_neg hd0,if_neg (by rw [hda];decide),if_pos hz]
    rw [<-this]
    exact H _ e1
   ·have hz':¬((numD t).head?=some 48/\t≠[48]):=λhh=>by
     rw [hhead]at hh
     rw [Ej hh.1,Ej hh.2]at hz
     cases hz
    have hres:numP t=(match Lib.parseIntB 64 t with| .ok n=>(n,0)|_=>(0,7)):=by
     unfold numP
     rw [if_neg hd0,if_neg (by rw [hda];decide),if_neg hz']
    have hns:=KQi hd0 hda
    refine KD ?_
    unfold Wx
    refine KD ⟨rfl,rfl,by rw [Ke];omega,λh2 s2 same2=>?_⟩
    have e2:Ext h h2:=e1.trans ⟨s2,same2⟩
    rw [show(bs t).data.toList=t from rfl]
    cases hp:Lib.parseIntB 64 t with
    |ok n=>
     rw [hp]at hres
     refine⟨true,.inl ⟨rfl,rfl⟩,iteF rfl (KA ⟨true,.inl ⟨rfl,rfl⟩,KD ?_⟩)⟩
     unfold KBk
     refine iteF rfl (KA (KA ?_))
     show Q (n,0) h2
     rw [show(n,(0:Int))=numP t from hres.symm]
     exact H _ e2
    |range=>
     rw [hp]at hres
     refine⟨false,.inr ⟨⟨_,_,rfl⟩,rfl⟩,iteT rfl (KD (KQh (fn:=[80,97,114,115,101,73,110,116]) ht (hv.ext e2) (λh3 u x e3=>KA ⟨false,.inr ⟨⟨_,_,rfl⟩,rfl⟩,KD ?_⟩)))⟩
     unfold KBk
     refine iteT rfl (KA (KA ?_))
     show Q (0,7) h3
     rw [show((0:Int),(7:Int))=numP t from hres.symm]
     exact H _ (e2.trans e3)
    |_=>rw [hp]at hns;cases hns
 refine KJF (λh0=>KZ ?_) (λh0=>?_)
 ·rw [sEq0]at h0
  exact fin _ _ (Ext.refl _) (by rw [h0];rfl)
 ·rw [sEq0]at h0
  refine λcap hcap mk hmk=>?_
  refine KD (KJb (l:=numD t) (p:=λc=>!digB c) ⟨?_,.inr ⟨_,rfl,λj v hj=>?_⟩⟩ (by omega) (λc Q1 hq=>KKS (KJO) (KK9 _) (KQf hq)) (KZ ?_))
  ·show(numD t).length=(bs (numD t)).size
   rw [Ke]
  ·rw [KM,EC,KF Kx]
   rw [Fs]at hj
   have hjl:j<(numD t).length:=by
    by_cases hh:j<(numD t).length
    ·exact hh
    ·rw [EK (by omega)]at hj;cases hj
   rw [IL (by simp [Uj,bs];exact hjl)]
   rw [OA,KQe,Fs]
   exact hj
  ·refine fin _ _ (Ext.push _ _) ?_
   rw [h0,F5]
   rw [List.any_eq_not_all_not]
   simp
theorem KJc {t:Eb} {h:Heap} {Q:Int×Int->Heap->Prop} (ht:t.length<=281474976710656) (hv:ErrV h) (H:∀h',Ext h h'->Q (numP t) h'):(KIQ (bs t)).wp h Q:=by
 unfold KIQ
 cases t with
 |nil=>
  refine Jp (c:=false) (λhb _ _=>?_) ?_
  ·rw [sEq0]at hb;exact absurd hb (by decide)
  ·rw [FH]
   exact iteF rfl (KIV ht hv H)
 |cons c r=>
  refine Jp (c:=decide (some c=some (45:UInt8))) (λhb Q' hq=>?_) ?_
  ·refine VX (i:=0) rfl (by simp) (KA ?_)
   rw [FO,KRo]
   exact hq
  ·rw [sEq0]
   refine KH (λhb=>?_) (λhb=>?_)
   ·rw [Eg,Ei (p:=some c=some 45)]at hb
    refine KMk (a:=1) (b:=(c::r).length) rfl (by rw [Ke]) (by simp) (Ee _) ?_
    have:(((c::r).drop 1).take ((c::r).length - 1))=numD (c::r):=by
     unfold numD
     rw [FL,if_pos hb.2]
     simp
    rw [this]
    exact KIV ht hv H
   ·have:numD (c::r)=c::r:=by
     unfold numD
     rw [FL,if_neg]
     intro hc
     rw [Ej hc]at hb
     simp at hb
    have h2:=KIV ht hv H
    rw [this]at h2
    exact h2
end Gx
namespace Gx
open Go Go.Proofs Go.Shelf Go.RowKit Go.Lib Gx.Last
abbrev vz:Ea:=#[.int .i64 0,.int .i64 0,.string ByteArray.empty,.slice none 0 0]
def KPA (x0 x1 x2 x4:Addr):M Unit:=do
 let Xx2<-ldI .i64 ((x4).add 0)
 M.need (vz.size=4)
 stG x0 vz
 chk (λh:Heap=>(KJ h ((x4).add 0)=some (.int .i64 Xx2)))
 stV x1 (.int .i64 Xx2)
 stV x2 (.bool false)
 M.pure ()
def KAX (p2 p3 p4:Addr):M (Ea×Int×Bool):=do
 let c<-ldG 4 p2
 let i<-ldI .i64 p3
 let b<-ldB p4
 M.pure (c,i,b)
def z8 (p2 p3 p4:Addr) (u:Value):M Unit:=do
 let i<-M.get (λ_ i=>u=.iface JK (.agg #[.int .i64 i]))
 let q<-mkB JK (#[.int .i64 0]:Ea)
 M.need ((#[.int .i64 i]:Ea).size=1)
 stG q (#[.int .i64 i]:Ea)
 KPA p2 p3 p4 q
def KLD (p2 p3 p4:Addr):M (Ea×Int×Bool):=do
 let x<-ldG 4 p2
 M.need (x.size=4)
 stG p2 x
 stV p3 (.int .i64 0)
 stV p4 (.bool true)
 KAX p2 p3 p4
def KWs (x0:ByteArray):M (Ea×Int×Bool):=do
 let p2<-mkB KB vz
 let p3<-mkB WS (#[.int .i64 0]:Ea)
 let p4<-mkB KH5 (#[.bool false]:Ea)
 let r<-mkB qH (#[.string x0,.int .i64 0]:Ea)
 let v<-VV (some r) 1
 match v with
 | .inl u=>z8 p2 p3 p4 u>>=λ_=>KAX p2 p3 p4
 | .inr cs=>do
  M.need (cs.size=4)
  stG p2 cs
  let i<-ldI .i64 (r.add 1)
  M.ite (decide (i<(x0.size:Int))) (do
   let v<-KX (some r)
   match v with
   | .inl u=>z8 p2 p3 p4 u>>=λ_=>KAX p2 p3 p4
   | .inr _=>M.fail) (KLD p2 p3 p4)
def KIW (r:Ea×Int×Bool):Value:=.tuple #[.agg r.1,.int .i64 r.2.1,.bool r.2.2]
theorem KT0:KHm Tryz.prog 229 0=some 0:=by kernel_rfl
theorem KYx:szB Tryz.prog 229 1=true:=by kernel_rfl
theorem zr4':((Tryz.prog.info? 4).bind (·.zero))=some (.bool false):=by kernel_rfl
theorem sz4':szB Tryz.prog 4 1=true:=by kernel_rfl
theorem sc4':scB Tryz.prog 4=true:=by kernel_rfl
theorem KPB:ifB Tryz.prog 20=true:=by kernel_rfl
theorem KYy:((Tryz.prog.info? 233).bind (·.zero))=some (.agg (#[.string ByteArray.empty,.int .i64 0]:Ea)):=by kernel_rfl
theorem KYz:Gl Tryz.prog 233=some [(0,1),(1,1)]:=by kernel_rfl
theorem KT1:KHm Tryz.prog 233 1=some 1:=by kernel_rfl
theorem un9':Tryz.prog.underlying 9=some .string:=Tryz.underlying9
theorem KWt:KNm Tryz.f226 5 [[],[],[1],[0,0],[2,3,0,1,2,3],[4,0,1,2,3,4]] [[],[],[1],[0],[2],[]] [[],[],[1],[0],[0,1,2,3],[0,1,2,3,4]]=true:=by kernel_rfl
theorem KHV {c:Code} {P:Program} {N:Act->World->Prop} {R:Act->World->Prop} {Q:Exit->Act->List Frame->World->Prop} {a:Act} {cs:List Frame} {w:World} (h:c.wpIn (Fw none) 1 P (Ps N X0 R) a w)
  (hn:∀a w,N a w->Q .normal a cs w) (hr:∀a w,R a w->Q .ret a cs w):c.wpS P Q a cs w:=by
 refine wpS_of_wp (wp_mono (wpIn_wide.1 h) ?_)
 intro e a w hh
 cases e with
 |normal=>exact hn _ _ hh
 |ret=>exact hr _ _ hh
 |exit i=>exact hh.2.elim
 |goto l=>exact hh.elim
 |panic c=>obtain⟨_,_,hh⟩:=hh;exact hh.elim
 |outgrown=>exact hh.elim
theorem KAY {dst:Option Tmp} {ty:TypeId} {pos:String} {aft:Array Edge} {ρ:Operand->Value} {P:Program} {w:World}:(execOp ρ ⟨dst,.call {callee:=.builtin .recover,args:=#[],argTypes:=#[]},ty,pos,aft,none⟩).run P w=.ok .recover w:=by
 simp [execOp,resolve,invoke,builtin]
theorem KC5 {P:Program} {Q:Exit->Act->List Frame->World->Prop} {a:Act} {cs cs':List Frame} {w:World} {id d1 d2:Nat} {ty1 ty2:TypeId} {pos1 pos2:String} {aft1 aft2:Array Edge} {n:Frm} {l:List (Nat×Value)} {v:Value}
  (hE:Env n a l) (hn1:Nat.blt d1 n.size=true) (hn2:Nat.blt d2 n.size=true) (hv:recoverD cs=some (v,cs')\/(recoverD cs=none/\v=.nilIface/\cs'=cs))
  (h:∀a',Env n a' ((d2,v)::(d1,v)::l)->Q .normal a' cs' w):
  (Code.region id #[⟨some d1,.call {callee:=.builtin .recover,args:=#[],argTypes:=#[]},ty1,pos1,aft1,none⟩,⟨some d2,.assign (.tmp d1),ty2,pos2,aft2,none⟩] false).wpS P Q a cs w:=by
 refine wpS_region ?_
 have e1:=hE.put d1 v hn1
 have hr2:(execOp (a.put (some d1) v).eval ⟨some d2,.assign (.tmp d1),ty2,pos2,aft2,none⟩).run P w=.ok (.value v) w:=zB e1 (by simp [opv,look])
 have hf:=h _ (e1.put d2 v hn2)
 show wpOpsS P _ Q [0,1] a cs w
 rcases hv with hv|⟨hv,rfl,rfl⟩
 ·simp [wpOpsS,Region.wanted,KAY,hv,hr2]
  exact hf
 ·simp [wpOpsS,Region.wanted,KAY,hv,hr2]
  exact hf
abbrev a226 (p2 p3 p4:Addr):Act:={tmps:=#[.pointer (some p2),.pointer (some p3),.pointer (some p4)]++Array.replicate (20 - 3) undef,defers:=[]}
theorem KPC (p2 p3 p4:Addr):Env ⟨20,[]⟩ (a226 p2 p3 p4) [(0,.pointer (some p2)),(1,.pointer (some p3)),(2,.pointer (some p4))]:=
 Env.enter (n:=20) #[.pointer (some p2),.pointer (some p3),.pointer (some p4)] _ (Fc rfl) (KAH ⟨rfl,rfl,rfl,trivial⟩)
theorem KRq {p2 p3 p4:Addr} {w:World} {R:Ending->FrameMode->World->Prop} (h:R (.returned (.tuple #[])) .returning w):CallsD Tryz.prog 226 #[.pointer (some p2),.pointer (some p3),.pointer (some p4)] .returning w R:=by
 refine callsD_of_wpS Tryz.func226 rfl (λc₀ cs hu=>?_)
 refine wpS_seq (KC5 (v:=.nilIface) (cs':=c₀::cs) (KPC p2 p3 p4) rfl rfl (.inr ⟨by simp [recoverD,hu],rfl,rfl⟩) (λa hE=>?_))
 refine KHV (N:=λ_ _=>False) (R:=λa w'=>w'=w/\Env ⟨20,[]⟩ a [(0,.pointer (some p2))]) ?_ (λ_ _ h=>h.elim) (λa w' hh=>?_)
 ·refine GQ (λK hK_1=>?_)
  refine GQ (λK hK_2=>?_)
  refine JE ?_
  refine VD (v:=.nilIface) rfl rfl hE rfl (VC hE rfl) (λa hE=>?_)
  refine VD (v:=.bool true) rfl rfl hE rfl (KJB hE rfl rfl (g_ni (b:=true) (.inl ⟨rfl,rfl⟩)) (KL8 KPB (.inl ⟨rfl,rfl⟩))) (λa hE=>?_)
  refine zb ?_
  refine hK_2 _ _ ?_
  refine KCw true hE rfl (λ_=>?_) (λhb=>by cases hb)
  exact KNh ⟨rfl,hE.cut (.cons rfl Subs.nil)⟩
 ·obtain⟨rfl,hE⟩:=hh
  refine⟨hE.defers,.returning,by rw [<-hu],_,qB (rs:=[]) (vs:=[]) hE rfl RV.nil,h⟩
theorem KMl {n:Frm} {a:Act} {w:World} {l:List (Nat×Value)} {P:Program} {dst:Option Tmp} {ty xt t:TypeId} {pos:String} {aft:Array Edge} {g:Option (Nat×Bool)} {x:Operand} {v:Value} {fs:Array Field} (hE:Env n a l) (hx:opv l x=some (.iface t v)) (ht:P.underlying t=some (.struct fs)):
  (execOp a.eval ⟨dst,.typeAssert x xt t true,ty,pos,aft,g⟩).run P w=.ok (.value (.tuple #[v,.bool true])) w:=by
 simp [execOp,hE.opv hx,Instr.typeAssert,run_underlying ht]
theorem KRr {p2 p3 p4:Addr} {w:World} {u:Value} {Q:Unit->Heap->Prop} {R:Ending->FrameMode->World->Prop} (H:(z8 p2 p3 p4 u).wp w.heap Q)
  (h:∀w',Rest w w'->Q () w'.heap->R (.returned (.tuple #[])) (.panicking [{v:=u,recovered:=true}]) w'):CallsD Tryz.prog 226 #[.pointer (some p2),.pointer (some p3),.pointer (some p4)] (.panicking [{v:=u,recovered:=false}]) w R:=by
 refine callsD_of_wpS Tryz.func226 rfl (λc₀ cs hu=>?_)
 obtain⟨i,hi,H⟩:=H
 subst hi
 refine wpS_seq (KC5 (v:=.iface JK (.agg #[.int .i64 i])) (cs':={c₀ with mode:=.panicking [{v:=.iface JK (.agg #[.int .i64 i]),recovered:=true}]}::cs) (KPC p2 p3 p4) rfl rfl (.inl (by simp [recoverD,hu])) (λa hE=>?_))
 have hR:Rest w w:=Rest.refl w
 refine KHV (N:=λa w'=>Rest w w'/\Q () w'.heap/\Env ⟨20,[]⟩ a [(0,.pointer (some p2))]) (R:=λ_ _=>False) ?_ (λa w' hh=>?_) (λ_ _ h=>h.elim)
 ·refine GQ (λK hK_1=>?_)
  refine GQ (λK hK_2=>?_)
  refine JE ?_
  refine VD (v:=.iface JK (.agg #[.int .i64 i])) rfl rfl hE rfl (VC hE rfl) (λa hE=>?_)
  refine VD (v:=.bool false) rfl rfl hE rfl (KJB hE rfl rfl (g_ni (b:=false) (.inr ⟨⟨_,_,rfl⟩,rfl⟩)) (KL8 KPB (.inr ⟨⟨_,_,rfl⟩,rfl⟩))) (λa hE=>?_)
  refine zb ?_
  refine hK_2 _ _ ?_
  refine KCw false hE rfl (λhb=>by cases hb) (λ_=>?_)
  refine KJf ?_
  refine hK_1 _ _ ?_
  refine GQ (λK hK_3=>?_)
  refine JE ?_
  refine VD (v:=.iface JK (.agg #[.int .i64 i])) rfl rfl hE rfl (VC hE rfl) (λa hE=>?_)
  refine VD (v:=.tuple #[.agg #[.int .i64 i],.bool true]) rfl rfl hE rfl (KMl hE rfl Tryz.underlying229) (λa hE=>?_)
  refine VD (v:=.tuple #[.agg #[.int .i64 i],.bool true]) rfl rfl hE rfl (VC hE rfl) (λa hE=>?_)
  refine VD (v:=.agg #[.int .i64 i]) rfl rfl hE rfl (YJ hE rfl rfl) (λa hE=>?_)
  refine VD (v:=.bool true) rfl rfl hE rfl (YJ hE rfl rfl) (λa hE=>?_)
  obtain⟨q,hq,H⟩:=H
  refine KEZ (v:=.pointer (some q)) rfl rfl hE rfl hR (GR KYs hq) (λa w hE hR hh=>?_)
  replace H:=M.at hh H;clear hh
  obtain⟨qz,H⟩:=H
  obtain⟨u_3,qu_3,H⟩:=H
  refine KJC rfl rfl hE hR (KAG hE rfl rfl KYx qz qu_3) (λa w hE hR hh=>?_)
  replace H:=M.at hh H;clear hh
  refine VD (v:=.bool true) rfl rfl hE rfl (zB hE rfl) (λa hE=>?_)
  refine zb ?_
  refine hK_3 _ _ ?_
  refine GQ (λK hK_4=>?_)
  refine GQ (λK hK_5=>?_)
  refine JE ?_
  refine VD (v:=.bool true) rfl rfl hE rfl (VC hE rfl) (λa hE=>?_)
  refine VD (v:=.bool false) rfl rfl hE rfl (r_un hE rfl KX0) (λa hE=>?_)
  refine zb ?_
  refine hK_5 _ _ ?_
  refine KCw false hE rfl (λhb=>by cases hb) (λ_=>?_)
  refine KJf ?_
  refine hK_4 _ _ ?_
  replace hE:Env ⟨20,[]⟩ a [(0,.pointer (some p2)),(1,.pointer (some p3)),(2,.pointer (some p4)),(4,.pointer (some q))]:=hE.cut (.cons rfl (.cons rfl (.cons rfl (.cons rfl Subs.nil))))
  obtain⟨Xx2,qXx2,H⟩:=H
  have hT:=KL3 KWt rfl rfl
  refine KF3 (λw:World=>(λh:Heap=>(KJ h ((q).add 0)=some (.int .i64 Xx2))) w.heap) [4,5] #[false,false,false,false,false,false] mo hR rfl rfl (λw' e=>by rw [e];exact qXx2) (λw hh hR hs=>?_)
  replace H:=M.at hh H;clear hh
  refine KAx (i:=0) (v:=.agg vz) #[true,false,false,false,false,false] rfl rfl hT (by kernel_rfl) hE rfl (Kg rfl) (λw=>KTf bd54) (λa hE=>?_)
  refine KAx (i:=1) (v:=.pointer (some ((q).add 0))) #[true,true,false,false,false,false] rfl rfl hT (by kernel_rfl) hE rfl (Kg rfl) (λw=>WU hE rfl KT0) (λa hE=>?_)
  refine KHr (i:=2) (v:=.int .i64 Xx2) #[true,true,true,false,false,false] rfl rfl hT (by kernel_rfl) hE rfl (Kg rfl) hs (λw s=>qA hE rfl sc3 s) (λa hE=>?_)
  obtain⟨qz,H⟩:=H
  obtain⟨u_3,qu_3,H⟩:=H
  obtain⟨_,sA,H⟩:=H
  refine KRD (i:=3) #[true,true,true,true,false,false] rfl rfl hT (by kernel_rfl) rfl hE hR (Kg rfl) (KAG hE rfl rfl sz54 qz qu_3)  (λw' e=>by rw [e];exact sA) (λa w hE hR hh hs=>?_)
  replace H:=M.at hh H;clear hh
  obtain⟨u_4,qu_4,H⟩:=H
  refine KGs (i:=4) #[true,true,true,true,true,false] rfl rfl hT (by kernel_rfl) rfl hE hR (Kg rfl) (Jr hE rfl rfl sz3 qu_4)  (λa w hE hR hh=>?_)
  replace H:=M.at hh H;clear hh
  obtain⟨u_5,qu_5,H⟩:=H
  refine KGs (i:=5) #[true,true,true,true,true,true] rfl rfl hT (by kernel_rfl) rfl hE hR (Kg rfl) (Jr hE rfl rfl sz4' qu_5)  (λa w hE hR hh=>?_)
  replace H:=M.at hh H;clear hh
  refine KJk hT (by kernel_rfl) ?_
  exact⟨hR,H,hE.cut (.cons rfl Subs.nil)⟩
 ·obtain⟨hR,hq,hE⟩:=hh
  exact⟨hE.defers,_,rfl,_,qB (rs:=[]) (vs:=[]) hE rfl RV.nil,h _ hR hq⟩
theorem KJu {Q:Ea×Int×Bool->Heap->Prop} {w0 w:World} {a:Act} {l:List (Nat×Value)} {p2 p3 p4:Addr} {l0:List Deferred} (hE:EnvD l0 22 a l) (h2:look l 2=some (.pointer (some p2))) (h3:look l 3=some (.pointer (some p3))) (h4:look l 4=some (.pointer (some p4))) (hR:Rest w0 w) (H:(KAX p2 p3 p4).wp w.heap Q):
  ∃v,(results Tryz.f213 a.tmps).run Tryz.prog w=.ok v w/\∃r,Ending.returned v=.returned (KIW r)/\Q r w.heap/\Rest w0 w:=by
 obtain⟨c,qc,H⟩:=H
 obtain⟨i,qi,H⟩:=H
 obtain⟨b,qb,H⟩:=H
 exact⟨_,qB (a:={tmps:=a.tmps,defers:=[]}) (rs:=[.cell 2 54,.cell 3 3,.cell 4 4]) hE.env rfl (RV.cellG h2 ag54 qc (RV.cell h3 sc3 qi (RV.cell h4 sc4' qb RV.nil))),(c,i,b),rfl,H,hR⟩
abbrev dfr (p2 p3 p4:Addr):Deferred:={target:=.fn (.func 226) #[.pointer (some p2),.pointer (some p3),.pointer (some p4)],args:=#[]}
theorem KMm {p2 p3 p4:Addr} {w:World}:(invoke (.fn (.func 226) #[.pointer (some p2),.pointer (some p3),.pointer (some p4)]) #[]).run Tryz.prog w=.ok (.enter 226 #[.pointer (some p2),.pointer (some p3),.pointer (some p4)]) w:=by
 have h:=KC Tryz.func226 (by kernel_rfl) rfl #[.pointer (some p2),.pointer (some p3),.pointer (some p4)] w
 simp [invoke,h]
theorem KT2 {Q:Ea×Int×Bool->Heap->Prop} {w0 w:World} {a:Act} {l:List (Nat×Value)} {p2 p3 p4:Addr} (hE:EnvD [dfr p2 p3 p4] 22 a l) (h2:look l 2=some (.pointer (some p2))) (h3:look l 3=some (.pointer (some p3))) (h4:look l 4=some (.pointer (some p4))) (hR:Rest w0 w) (H:(KAX p2 p3 p4).wp w.heap Q):
  Leaves Tryz.prog Tryz.f213 a.tmps (λe w'=>∃r,e=.returned (KIW r)/\Q r w'.heap/\Rest w0 w') a.defers .returning w:=by
 rw [hE.def_]
 refine leaves_cons (by simp) KMm (KRq ?_)
 exact KJu hE h2 h3 h4 hR H
theorem KPD {Q:Ea×Int×Bool->Heap->Prop} {w0 w:World} {a:Act} {l:List (Nat×Value)} {p2 p3 p4:Addr} {u:Value} (hE:EnvD [dfr p2 p3 p4] 22 a l) (h2:look l 2=some (.pointer (some p2))) (h3:look l 3=some (.pointer (some p3))) (h4:look l 4=some (.pointer (some p4))) (hR:Rest w0 w) (H:(z8 p2 p3 p4 u>>=λ_=>KAX p2 p3 p4).wp w.heap Q):
  Leaves Tryz.prog Tryz.f213 a.tmps (λe w'=>∃r,e=.returned (KIW r)/\Q r w'.heap/\Rest w0 w') a.defers (.panicking [{v:=u,recovered:=false}]) w:=by
 rw [hE.def_]
 refine leaves_cons (by simp) KMm (KRr (M.unbind H) (λw' hR' H'=>?_))
 show Leaves _ _ _ _ [] (settle (.panicking [{v:=u,recovered:=true}])) w'
 exact KJu hE h2 h3 h4 (hR.trans hR') H'
theorem KY0 (x0:ByteArray):KY Tryz.prog Nr #[.string x0] KIW (KWs x0):=by
 intro W0 Q H
 refine calls_of_wp_defers Tryz.func213 rfl ?_
 refine(λhs=>wpIn_wide.1 hs) (?_:Code.wpIn (Fw none) 1 _ _ _ _ _)
 have hE0:Env ⟨22,[]⟩ {tmps:=#[.string x0]++Array.replicate (22 - 1) undef,defers:=[]} [(0,.string x0)]:=Env.enter (n:=22) #[.string x0] _ (Fc rfl) (KAH ⟨rfl,trivial⟩)
 have hE:EnvD [] 22 {tmps:=#[.string x0]++Array.replicate (22 - 1) undef,defers:=[]} [(0,.string x0)]:=⟨hE0,rfl⟩
 have hR:Rest W0 W0:=Rest.refl W0
 obtain⟨p2,q2,H⟩:=H
 refine wpIn_seq (Vf ?_)
 refine KH1 (v:=.pointer (some p2)) rfl rfl hE rfl hR (λb hE=>GR zr54 q2) (λa w1 hE hR hh=>?_)
 replace H:=M.at hh H;clear hh
 obtain⟨p3,q3,H⟩:=H
 refine KH1 (v:=.pointer (some p3)) rfl rfl hE rfl hR (λb hE=>GR zr3 q3) (λa w1 hE hR hh=>?_)
 replace H:=M.at hh H;clear hh
 obtain⟨p4,q4,H⟩:=H
 refine KH1 (v:=.pointer (some p4)) rfl rfl hE rfl hR (λb hE=>GR zr4' q4) (λa w1 hE hR hh=>?_)
 replace H:=M.at hh H;clear hh
 refine KEi ?_
 refine wpIn_seq (Vf ?_)
 refine WV (v:=.func (.func 226) #[] #[.pointer (some p2),.pointer (some p3),.pointer (some p4)]) rfl rfl hE rfl (λb hE=>KF9 hE rfl) (λa hE=>?_)
 refine KRf hE rfl (λa hE=>?_)
 replace hE:EnvD [dfr p2 p3 p4] 22 a [(0,.string x0),(2,.pointer (some p2)),(3,.pointer (some p3)),(4,.pointer (some p4))]:=⟨hE.env.cut (.cons rfl (.cons rfl (.cons rfl (.cons rfl Subs.nil)))),hE.def_⟩
 refine KEi ?_
 refine wpIn_seq (Vf ?_)
 refine WV (v:=.string x0) rfl rfl hE rfl (λb hE=>VC hE rfl) (λa hE=>?_)
 refine WV (v:=.agg (#[.string x0,.int .i64 0]:Ea)) rfl rfl hE rfl (λb hE=>KAy hE rfl KYy KYz (by rfl)) (λa hE=>?_)
 obtain⟨r,qr,H⟩:=H
 refine KH1 (v:=.pointer (some r)) rfl rfl hE rfl hR (λb hE=>KTR hE rfl qr) (λa w1 hE hR hh=>?_)
 replace H:=M.at hh H;clear hh
 refine WV (v:=.pointer (some r)) rfl rfl hE rfl (λb hE=>zB hE rfl) (λa hE=>?_)
 replace hE:EnvD [dfr p2 p3 p4] 22 a [(0,.string x0),(2,.pointer (some p2)),(3,.pointer (some p3)),(4,.pointer (some p4)),(5,.pointer (some r))]:=⟨hE.env.cut (.cons rfl (.cons rfl (.cons rfl (.cons rfl (.cons rfl Subs.nil))))),hE.def_⟩
 refine KEi ?_
 refine wpIn_seq (Vf ?_)
 refine WV (v:=.pointer (some r)) rfl rfl hE rfl (λb hE=>VC hE rfl) (λa hE=>?_)
 refine KN2 hE hR Gu rfl (Nl (some r) 1) (M.unbind H) (λu w1 hR H=>?_) (λcs a1 w1 ea hR H=>?_)
 ·exact KPD hE rfl rfl rfl hR H
 replace hE:EnvD [dfr p2 p3 p4] 22 a1 _:=ea▸hE.put 11 (.agg cs) rfl
 obtain⟨qz,H⟩:=H
 obtain⟨u_6,qu_6,H⟩:=H
 refine KME rfl rfl hE hR (λb hE=>KAG hE rfl rfl sz54 qz qu_6) (λa w hE hR hh=>?_)
 replace H:=M.at hh H;clear hh
 replace hE:EnvD [dfr p2 p3 p4] 22 a [(0,.string x0),(2,.pointer (some p2)),(3,.pointer (some p3)),(4,.pointer (some p4)),(5,.pointer (some r))]:=⟨hE.env.cut (.cons rfl (.cons rfl (.cons rfl (.cons rfl (.cons rfl Subs.nil))))),hE.def_⟩
 refine KEi ?_
 obtain⟨i,qi,H⟩:=H
 refine wpIn_seq (wpIn_mono (Q:=Exit.then (λa w1=>EnvD [dfr p2 p3 p4] 22 a [(0,.string x0),(2,.pointer (some p2)),(3,.pointer (some p3)),(4,.pointer (some p4)),(5,.pointer (some r))]/\Rest W0 w1/\(KLD p2 p3 p4).wp w1.heap Q)
  (bodyPostD Tryz.prog Tryz.f213 (λe w'=>∃r,e=.returned (KIW r)/\Q r w'.heap/\Rest W0 w'))) ?_ ?_)
 ·refine wpIn_seq (Vf ?_)
  refine WV (v:=.pointer (some r)) rfl rfl hE rfl (λb hE=>VC hE rfl) (λa hE=>?_)
  refine WV (v:=.pointer (some r)) rfl rfl hE rfl (λb hE=>N7 hE rfl) (λa hE=>?_)
  refine WV (v:=.pointer (some (r.add 1))) rfl rfl hE rfl (λb hE=>WU hE rfl KT1) (λa hE=>?_)
  refine WV (v:=.int .i64 i) rfl rfl hE rfl (λb hE=>qA hE rfl sc3 qi) (λa hE=>?_)
  refine WV (v:=.string x0) rfl rfl hE rfl (λb hE=>VC hE rfl) (λa hE=>?_)
  refine WV (v:=.int .i64 (x0.size:Int)) rfl rfl hE rfl (λb hE=>KJh hE rfl un9') (λa hE=>?_)
  refine WV (v:=.bool (decide (i<(x0.size:Int)))) rfl rfl hE rfl (λb hE=>KJB hE rfl rfl KEX KXv) (λa hE=>?_)
  refine KEi ?_
  refine KRg (decide (i<(x0.size:Int))) hE rfl (λhb=>?_) (λhb=>?_)
  ·replace H:=M.ite_t hb H
   refine Vf ?_
   refine WV (v:=.pointer (some r)) rfl rfl hE rfl (λb hE=>VC hE rfl) (λa hE=>?_)
   refine KN2 hE hR Zv rfl (Z6 (some r)) (M.unbind H) (λu w1 hR H=>?_) (λcs a1 w1 ea hR H=>H.elim)
   exact KPD hE rfl rfl rfl hR H
  ·replace H:=M.ite_f hb H
   refine wpIn_skip ?_
   exact⟨⟨hE.env.cut (.cons rfl (.cons rfl (.cons rfl (.cons rfl (.cons rfl Subs.nil))))),hE.def_⟩,hR,H⟩
 ·intro e a w hh
  cases e with
  |normal=>
   obtain⟨hE,hR,H⟩:=hh
   obtain⟨x,qx,H⟩:=H
   obtain⟨qz,H⟩:=H
   obtain⟨u_6,qu_6,H⟩:=H
   refine wpIn_seq (Vf ?_)
   refine WV (v:=.agg x) rfl rfl hE rfl (λb hE=>KNj hE rfl ag54 qx) (λa hE=>?_)
   refine KME rfl rfl hE hR (λb hE=>KAG hE rfl rfl sz54 qz qu_6) (λa w hE hR hh=>?_)
   replace H:=M.at hh H;clear hh
   obtain⟨u_7,qu_7,H⟩:=H
   refine KME rfl rfl hE hR (λb hE=>Jr hE rfl rfl sz3 qu_7) (λa w hE hR hh=>?_)
   replace H:=M.at hh H;clear hh
   obtain⟨u_8,qu_8,H⟩:=H
   refine KME rfl rfl hE hR (λb hE=>Jr hE rfl rfl sz4' qu_8) (λa w hE hR hh=>?_)
   replace H:=M.at hh H;clear hh
   refine KEi ?_
   refine wpIn_ret ?_
   exact KT2 hE rfl rfl rfl hR H
  |exit i=>exact hh
  |ret=>exact hh
  |goto l=>exact hh
  |panic c=>exact hh
  |outgrown=>exact hh
end Gx
namespace Gx
open Go
mutual
def Zg (S:Nat->Prop) (h:Heap):Vl->Ea->Prop
 | .mk k n s l,cs=>∃x:Sl,cs=ZK k n s x/\I64 k/\I64 n/\s.length<=9223372036854775807/\(x.len=l.length/\x.len<=x.cap/\x.len<=9223372036854775807/\qk S h l x.base 0)
def qk (S:Nat->Prop) (h:Heap):List Vl->Option Addr->Nat->Prop
 | [],_,_=>True
 |v::l,b,i=>(∃a cs,b=some a/\S a.block/\cs.size=4/\(∀j,j<4->KJ h (a.add (i*4+j))=cs[j]?)/\Zg S h v cs)/\qk S h l b (i+1)
end
structure VsRepS (S:Nat->Prop) (h:Heap) (x:Sl) (l:List Vl):Prop where
 len:x.len=l.length
 cap:x.len<=x.cap
 big:x.len<=9223372036854775807
 at_:qk S h l x.base 0
theorem Zg.eq {S:Nat->Prop} {h:Heap} {k n:Int} {s:Eb} {l:List Vl} {cs:Ea}:Zg S h (.mk k n s l) cs↔∃x:Sl,cs=ZK k n s x/\I64 k/\I64 n/\s.length<=9223372036854775807/\VsRepS S h x l:=by
 rw [Zg]
 constructor
 ·rintro⟨x,h1,h2,h3,h4,h5,h6,h7,h8⟩;exact⟨x,h1,h2,h3,h4,h5,h6,h7,h8⟩
 ·rintro⟨x,h1,h2,h3,h4,h5,h6,h7,h8⟩;exact⟨x,h1,h2,h3,h4,h5,h6,h7,h8⟩
theorem qk.get {S:Nat->Prop} {h:Heap}:∀{l:List Vl} {b:Option Addr} {i:Nat},qk S h l b i->∀{j:Nat} (hj:j<l.length),∃a cs,b=some a/\S a.block/\cs.size=4/\(∀m,m<4->KJ h (a.add ((i+j)*4+m))=cs[m]?)/\Zg S h l[j] cs
 | [],_,_,_,j,hj=>by simp at hj
 |v::l,b,i,H,0,hj=>by rw [qk]at H;exact H.1
 |v::l,b,i,H,j+1,hj=>by
  rw [qk]at H
  have:=qk.get H.2 (j:=j) (by simpa using hj)
  rw [show i+(j+1)=i+1+j by omega]
  exact this
theorem qk.of {S:Nat->Prop} {h:Heap}:∀{l:List Vl} {b:Option Addr} {i:Nat},(∀j (hj:j<l.length),∃a cs,b=some a/\S a.block/\cs.size=4/\(∀m,m<4->KJ h (a.add ((i+j)*4+m))=cs[m]?)/\Zg S h l[j] cs)->qk S h l b i
 | [],_,_,_=>by rw [qk];trivial
 |v::l,b,i,H=>by
  rw [qk]
  refine⟨H 0 (by simp),qk.of (λj hj=>?_)⟩
  have:=H (j+1) (by simpa using hj)
  rw [show i+1+j=i+(j+1) by omega]
  exact this
theorem VsRepS.get {S:Nat->Prop} {h:Heap} {x:Sl} {l:List Vl} (H:VsRepS S h x l) {j:Nat} (hj:j<l.length):∃a cs,x.base=some a/\S a.block/\cs.size=4/\(∀m,m<4->KJ h (a.add (j*4+m))=cs[m]?)/\Zg S h l[j] cs:=by
 have:=H.at_.get hj
 rw [EC]at this
 exact this
theorem KT3 {k n:Int} {s:Eb} {l:List Vl} {m j:Nat} (hm:sizeOf (Vl.mk k n s l)<m+1) (hj:j<l.length):sizeOf l[j]<m:=by
 have:=FF (EJ hj)
 simp only [Vl.mk.sizeOf_spec]at hm
 omega
theorem KGd {S T:Nat->Prop} {h h':Heap} (e:∀b,S b->h'[b]?=h[b]?) (hT:∀b,S b->T b):∀(m:Nat) (v:Vl) (cs:Ea),sizeOf v<m->Zg S h v cs->Zg T h' v cs:=by
 intro m
 induction m with
 |zero=>intro v cs hm;omega
 |succ m ih=>
  rintro⟨k,n,s,l⟩ cs hm H
  obtain⟨x,h1,h2,h3,h4,h5⟩:=Zg.eq.1 H
  refine Zg.eq.2 ⟨x,h1,h2,h3,h4,h5.len,h5.cap,h5.big,qk.of (λj hj=>?_)⟩
  obtain⟨a,cs',ha,hS,hs,hc,hv⟩:=h5.at_.get hj
  refine⟨a,cs',ha,hT _ hS,hs,λi hi=>?_,ih _ _ (KT3 hm hj) hv⟩
  rw [<-hc i hi]
  unfold KJ
  rw [Z8,e _ hS]
theorem Zg.same {S:Nat->Prop} {h h':Heap} {v:Vl} {cs:Ea} (H:Zg S h v cs) (e:∀b,S b->h'[b]?=h[b]?):Zg S h' v cs:=KGd e (λ_ h=>h) _ v cs (EH _) H
theorem Zg.mono {S T:Nat->Prop} {h:Heap} {v:Vl} {cs:Ea} (H:Zg S h v cs) (e:∀b,S b->T b):Zg T h v cs:=KGd (λ_ _=>rfl) e _ v cs (EH _) H
theorem KT4 {S:Nat->Prop} {h:Heap}:∀(m:Nat) (v:Vl) (cs:Ea),sizeOf v<m->Zg S h v cs->VRep h v cs:=by
 intro m
 induction m with
 |zero=>intro v cs hm;omega
 |succ m ih=>
  rintro⟨k,n,s,l⟩ cs hm H
  obtain⟨x,h1,h2,h3,h4,h5⟩:=Zg.eq.1 H
  refine VRep.eq.2 ⟨x,h1,h2,h3,h4,h5.len,h5.cap,h5.big,VsAt.of (λj hj=>?_)⟩
  obtain⟨a,cs',ha,hS,hs,hc,hv⟩:=h5.at_.get hj
  exact⟨a,cs',ha,hs,hc,ih _ _ (KT3 hm hj) hv⟩
theorem Zg.to {S:Nat->Prop} {h:Heap} {v:Vl} {cs:Ea} (H:Zg S h v cs):VRep h v cs:=KT4 _ v cs (EH _) H
theorem N3 {h:Heap} {a:Addr} {v:Value} (H:KJ h a=some v):a.block<h.size:=by
 rcases ES a.block h.size with h1|h1
 ·exact h1
 ·unfold KJ at H
  rw [EV h1]at H
  cases H
theorem KWu {h:Heap}:∀(m:Nat) (v:Vl) (cs:Ea),sizeOf v<m->VRep h v cs->Zg (· <h.size) h v cs:=by
 intro m
 induction m with
 |zero=>intro v cs hm;omega
 |succ m ih=>
  rintro⟨k,n,s,l⟩ cs hm H
  obtain⟨x,h1,h2,h3,h4,h5⟩:=VRep.eq.1 H
  refine Zg.eq.2 ⟨x,h1,h2,h3,h4,h5.len,h5.cap,h5.big,qk.of (λj hj=>?_)⟩
  obtain⟨a,cs',ha,hs,hc,hv⟩:=h5.at_.get hj
  refine⟨a,cs',ha,?_,hs,hc,ih _ _ (KT3 hm hj) hv⟩
  have h0:=hc 0 (by decide)
  rw [EF (by omega)]at h0
  have:=N3 h0
  rwa [Z8]at this
theorem VRep.lt {h:Heap} {v:Vl} {cs:Ea} (H:VRep h v cs):Zg (· <h.size) h v cs:=KWu _ v cs (EH _) H
theorem VsRepS.to {S:Nat->Prop} {h:Heap} {x:Sl} {l:List Vl} (H:VsRepS S h x l):VsRep h x l:=
 ⟨H.len,H.cap,H.big,VsAt.of (λj hj=>by obtain⟨a,cs,h1,h2,h3,h4,h5⟩:=H.at_.get hj;exact⟨a,cs,h1,h3,h4,h5.to⟩)⟩
theorem VsRepS.same {S T:Nat->Prop} {h h':Heap} {x:Sl} {l:List Vl} (H:VsRepS S h x l) (e:∀b,S b->h'[b]?=h[b]?) (hT:∀b,S b->T b):VsRepS T h' x l:=
 ⟨H.len,H.cap,H.big,qk.of (λj hj=>by
  obtain⟨a,cs,h1,h2,h3,h4,h5⟩:=H.at_.get hj
  refine⟨a,cs,h1,hT _ h2,h3,λi hi=>?_,KGd e hT _ _ _ (EH _) h5⟩
  rw [<-h4 i hi]
  unfold KJ
  rw [Z8,e _ h2])⟩
theorem VsRep.lt {h:Heap} {x:Sl} {l:List Vl} (H:VsRep h x l):VsRepS (· <h.size) h x l:=
 ⟨H.len,H.cap,H.big,qk.of (λj hj=>by
  obtain⟨a,cs,h1,h3,h4,h5⟩:=H.at_.get hj
  refine⟨a,cs,h1,?_,h3,h4,h5.lt⟩
  have h0:=h4 0 (by decide)
  rw [EF (by omega)]at h0
  have:=N3 h0
  rwa [Z8]at this)⟩
theorem Zg.size {S:Nat->Prop} {h:Heap} {v:Vl} {cs:Ea} (H:Zg S h v cs):cs.size=4:=H.to.size
def wt:Vl->Nat
 | .mk _ _ s l=>1+s.length+wts l
where wts:List Vl->Nat
 | []=>0
 |v::l=>wt v+wts l
theorem KVb (v:Vl):1<=wt v:=by cases v;rw [wt];omega
theorem KRs:∀l:List Vl,l.length<=wt.wts l
 | []=>by simp
 |v::l=>by have:=KRs l;have:=KVb v;rw [wt.wts,Ef];omega
theorem KRt {l:List Vl} {v:Vl} (h:v∈l):wt v<=wt.wts l:=by
 induction l with
 |nil=>cases h
 |cons x l ih=>
  rw [wt.wts]
  rcases ED.1 h with rfl|h
  ·omega
  ·have:=ih h;omega
end Gx
namespace Gx
open Go
def JC (css:List (Ea)):List Value:=css.flatMap Array.toList
def W4 (css:List (Ea)):Prop:=∀c∈css,c.size=4/\∀u∈c.toList,one u=true
theorem XH:∀{css:List (Ea)},W4 css->(JC css).length=css.length*4
 | [],_=>rfl
 |c::r,h=>by
  have:=XH (css:=r) (λx hx=>h x (Ev _ hx))
  have hc:=(h c (by simp)).1
  unfold JC at this⊢
  rw [ET,List.length_append,this,Ep,hc,Ef];omega
theorem KIX:∀{css:List (Ea)},W4 css->∀(i j:Nat),j<4->(JC css)[i*4+j]?=(css[i]?).bind (λc=>c[j]?)
 | [],_,i,j,_=>by simp [JC]
 |c::r,h,i,j,hj=>by
  have hc:=(h c (by simp)).1
  unfold JC
  rw [ET]
  cases i with
  |zero=>rw [Fk (by rw [Ep];omega)];simp
  |succ i=>
   rw [Fi (by rw [Ep];omega),Ep,hc,show(i+1)*4+j - 4=i*4+j by omega]
   have:=KIX (css:=r) (λx hx=>h x (Ev _ hx)) i j hj
   unfold JC at this
   rw [this];simp
theorem KRu {css:List (Ea)} (h:W4 css):∀v∈JC css,one v=true:=λv hv=>by
 obtain⟨c,hc,hv⟩:=List.mem_flatMap.1 hv
 exact(h c hc).2 v hv
theorem W4.append {a b:List (Ea)} (ha:W4 a) (hb:W4 b):W4 (a++b):=λc hc=>(F0.1 hc).elim (ha c) (hb c)
theorem W4.set {a:List (Ea)} (ha:W4 a) {i:Nat} {c:Ea} (hc:c.size=4) (h1:∀u∈c.toList,one u=true):W4 (a.set i c):=λx hx=>by
 rcases List.mem_or_eq_of_mem_set hx with h|rfl
 ·exact ha x h
 ·exact⟨hc,h1⟩
theorem KMn:∀{css:List (Ea)},W4 css->∀(i:Nat) (c:Ea),c.size=4->i<css.length->JC (css.set i c)=(JC css).take (i*4)++c.toList++(JC css).drop (i*4+4)
 | [],_,i,c,_,hi=>by simp at hi
 |x::r,h,0,c,hc,_=>by
  have hx:=(h x (by simp)).1
  simp only [JC,List.set_cons_zero,ET]
  rw [show(0*4+4)=x.toList.length by rw [Ep,hx]]
  simp
 |x::r,h,i+1,c,hc,hi=>by
  have hx:=(h x (by simp)).1
  have ih:=KMn (css:=r) (λy hy=>h y (Ev _ hy)) i c hc (by simpa using hi)
  simp only [JC,List.set_cons_succ,ET]at ih⊢
  rw [ih]
  have e1:(i+1)*4=x.toList.length+i*4:=by rw [Ep,hx];omega
  rw [e1,List.take_length_add_append,show x.toList.length+i*4+4=x.toList.length+(i*4+4) by omega,List.drop_length_add_append]
  simp
theorem Gw.row4 {lo:Nat} {h:Heap} {r:Sl} {css:List (Ea)} (G:Gw lo h r 4 (JC css)) (hw:W4 css) {i:Nat} (hi:i<css.length):∃b,r.base=some ⟨b,0,none⟩/\Sl.on r b/\∀j,j<4->KJ h ((⟨b,0,none⟩:Addr).add (i*4+j))=css[i][j]?:=by
 have hl:=XH hw
 rcases G with⟨rfl,he⟩|⟨b,ty,cells,R⟩
 ·rw [he]at hl;simp at hl;omega
 ·refine⟨b,R.base,⟨_,R.base,rfl⟩,λj hj=>?_⟩
  rw [KM,EC,KF R.blk]
  have h1:=KIX hw i j hj
  rw [Em hi]at h1
  have hc:=(hw _ (EJ hi)).1
  have h2:css[i][j]?=some (css[i][j]'(by omega)):=EF (by omega)
  rw [h2]
  refine R.get _ _ ?_
  rw [h1]
  exact h2
theorem Gw.len4 {lo:Nat} {h:Heap} {r:Sl} {css:List (Ea)} (G:Gw lo h r 4 (JC css)) (hw:W4 css):r.len=css.length:=by
 have:=G.len
 rw [XH hw]at this
 omega
theorem KY1 {β:Type} {lo:Nat} {h:Heap} {Q:β->Heap->Prop} {r:Sl} {css:List (Ea)} {i:Nat} {t:Int} {c:Ea} {f:Unit->M β} (G:Gw lo h r 4 (JC css)) (hw:W4 css) (hi:i<css.length) (ht:t=(i:Int)) (hc:c.size=4) (h1:∀u∈c.toList,one u=true)
  (H:∀b h',r.base=some ⟨b,0,none⟩->Upd b h h'->Gw lo h' r 4 (JC (css.set i c))->(f ()).wp h' Q):(ixL r t 4>>=λa=>M.need (c.size=4)>>=λ_=>stG a c>>=f).wp h Q:=by
 subst ht
 have hl:=G.len4 hw
 obtain⟨b0,hb0,_,_⟩:=G.row4 hw hi
 rcases G with⟨rfl,he⟩|⟨b,ty,cells,R⟩
 ·cases hb0
 ·have hsz:=R.size
  have hcap:=R.cap
  refine NM (by omega) (by omega) R.base (ZH hc ?_)
  rw [KM,show 0+(i:Int).toNat*4=i*4 by omega]
  refine stR (vs:=c) R.blk (by omega) h1 (λh' u g=>H b h' R.base u (.inr ⟨b,ty,_,R.base,R.lo,g,by rw [KAK];exact R.size,R.cap,?_,λj v hj=>?_⟩))
  ·rw [XH (hw.set hc h1),List.length_set,hl]
  ·rw [KMn hw i c hc hi]at hj
   have hfl:=XH hw
   rw [<-Fu,KBg _ _ _ (by rw [Ep];omega),Ep,hc]
   have hlen1:((JC css).take (i*4)).length=i*4:=by rw [EI];omega
   have hlen2:(cells.toList.take (i*4)).length=i*4:=by rw [EI,Ep];omega
   by_cases h1:j<i*4
   ·rw [Ek,Fk (by omega),I6,if_pos h1]at hj
    rw [Ek,Fk (by omega),I6,if_pos h1,Fu]
    exact R.get j v hj
   ·by_cases h2:j<i*4+4
    ·rw [Ek,Fi (by omega),hlen1,Fk (by rw [Ep,hc];omega)]at hj
     rw [Ek,Fi (by omega),hlen2,Fk (by rw [Ep,hc];omega)]
     exact hj
    ·rw [Fi (by rw [List.length_append,hlen1,Ep,hc];omega),List.length_append,hlen1,Ep,hc,List.getElem?_drop]at hj
     rw [Fi (by rw [List.length_append,hlen2,Ep,hc];omega),List.length_append,hlen2,Ep,hc,List.getElem?_drop,Fu]
     exact R.get _ v hj
structure VGw (lo:Nat) (S:Nat->Prop) (h:Heap) (r:Sl) (css:List (Ea)) (l:List Vl):Prop where
 gw:Gw lo h r 4 (JC css)
 w4:W4 css
 len:css.length=l.length
 rep:∀j (h1:j<l.length) (h2:j<css.length),Zg S h l[j] css[j]
theorem VGw.nil (lo:Nat) (S:Nat->Prop) (h:Heap):VGw lo S h Sl.nil [] []:=⟨Gw.nil _ _ _,λc hc=>(by cases hc),rfl,λj h1=>(by cases h1)⟩
theorem VGw.rep_ {lo:Nat} {S:Nat->Prop} {h:Heap} {r:Sl} {css:List (Ea)} {l:List Vl} (G:VGw lo S h r css l) (hl:l.length<=9223372036854775807):VsRepS (λb=>S b\/Sl.on r b) h r l:=
 ⟨by rw [G.gw.len4 G.w4,G.len],G.gw.cap,by rw [G.gw.len4 G.w4,G.len];exact hl,qk.of (λj hj=>by
  obtain⟨b,hb,hon,hc⟩:=G.gw.row4 G.w4 (i:=j) (by rw [G.len];exact hj)
  exact⟨_,css[j]'(by rw [G.len];exact hj),hb,.inr hon,(G.w4 _ (EJ _)).1,λm hm=>by rw [EC];exact hc m hm,(G.rep j hj (by rw [G.len];exact hj)).mono (λb hb=>.inl hb)⟩)⟩
theorem VGw.same {lo:Nat} {S:Nat->Prop} {h h':Heap} {r:Sl} {css:List (Ea)} {l:List Vl} (G:VGw lo S h r css l) (e1:∀b,Sl.on r b->h'[b]?=h[b]?) (e2:∀b,S b->h'[b]?=h[b]?):VGw lo S h' r css l:=
 ⟨G.gw.same e1,G.w4,G.len,λj h1 h2=>(G.rep j h1 h2).same e2⟩
theorem VGw.mono {lo:Nat} {S T:Nat->Prop} {h:Heap} {r:Sl} {css:List (Ea)} {l:List Vl} (G:VGw lo S h r css l) (e:∀b,S b->T b):VGw lo T h r css l:=
 ⟨G.gw,G.w4,G.len,λj h1 h2=>(G.rep j h1 h2).mono e⟩
theorem KPE {lo:Nat} {S:Nat->Prop} {h:Heap} {Q:Sl->Heap->Prop} {r x:Sl} {css css':List (Ea)} {l l':List Vl} (G:VGw lo S h r css l) (hlo:lo<=h.size) (hS:∀b,S b->b<h.size/\¬Sl.on r b) (hw:W4 css') (hl':css'.length=l'.length) (hx:x.len=l'.length) (hr:KAI h x.base (JC css')) (hv:∀j (h1:j<l'.length) (h2:j<css'.length),Zg S h l'[j] css'[j])
  (hm:l.length+l'.length<=2199023255552)
  (hq:∀h' r',VGw lo S h' r' (css++css') (l++l')->h.size<=h'.size->(∀i,i<h.size->¬Sl.on r i->h'[i]?=h[i]?)->(∀i,Sl.on r' i->Sl.on r i\/h.size<=i)->Q r' h'):(apL KB 4 56 (#[.int .i64 0,.int .i64 0,.string ByteArray.empty,.slice none 0 0]:Ea) r x).wp h Q:=by
 have hrl:=G.gw.len4 G.w4
 have hgl:=G.len
 refine KGA (vs:=JC css) (news:=JC css') rfl G.gw (by rw [XH hw,hl',hx]) hr (KRu hw) (by omega) (by omega) hlo (λh' r' G' hlen hs same on_=>?_)
 have he:∀b,S b->h'[b]?=h[b]?:=λb hb=>same b (hS b hb).1 (hS b hb).2
 refine hq h' r' ⟨?_,G.w4.append hw,by rw [List.length_append,List.length_append,G.len,hl'],λj h1 h2=>?_⟩ hs same on_
 ·unfold JC at G'⊢
  rw [Ij]
  exact G'
 ·by_cases hj:j<l.length
  ·rw [Fp hj,Fp (by rw [G.len];exact hj)]
   exact(G.rep j hj _).same he
  ·rw [FE (by omega),FE (by omega)]
   have h3:css.length=l.length:=G.len
   simp only [h3]
   exact(hv _ (by rw [List.length_append]at h1;omega) _).same he
end Gx
namespace Gx
open Go
theorem KT5 {S:Nat->Prop} {h:Heap}:∀(m:Nat) (v:Vl) (cs:Ea),sizeOf v<m->Zg S h v cs->Zg (λb=>S b/\b<h.size) h v cs:=by
 intro m
 induction m with
 |zero=>intro v cs hm;omega
 |succ m ih=>
  rintro⟨k,n,s,l⟩ cs hm H
  obtain⟨x,h1,h2,h3,h4,h5⟩:=Zg.eq.1 H
  refine Zg.eq.2 ⟨x,h1,h2,h3,h4,h5.len,h5.cap,h5.big,qk.of (λj hj=>?_)⟩
  obtain⟨a,cs',ha,hS,hs,hc,hv⟩:=h5.at_.get hj
  refine⟨a,cs',ha,⟨hS,?_⟩,hs,hc,ih _ _ (KT3 hm hj) hv⟩
  have h0:=hc 0 (by decide)
  rw [EF (by omega)]at h0
  have:=N3 h0
  rwa [Z8]at this
theorem Zg.lt2 {S:Nat->Prop} {h:Heap} {v:Vl} {cs:Ea} (H:Zg S h v cs):Zg (λb=>S b/\b<h.size) h v cs:=KT5 _ v cs (EH _) H
theorem ZF (k n:Int) (s:Eb) (x:Sl):∀v∈(ZK k n s x).toList,one v=true:=λv hv=>by
 simp only [ZK,ED,EP,Fr]at hv
 rcases hv with rfl|rfl|rfl|rfl<;>first|rfl|exact KC8 _
def vl0:Vl:=.mk 0 0 [] []
theorem KIY (S:Nat->Prop) (h:Heap):Zg S h vl0 (#[.int .i64 0,.int .i64 0,.string ByteArray.empty,.slice none 0 0]:Ea):=
 Zg.eq.2 ⟨Sl.nil,rfl,⟨by decide,by decide⟩,⟨by decide,by decide⟩,by decide,rfl,Ee _,by decide,by rw [qk];trivial⟩
end Gx
namespace Gx
open Go Go.Proofs Go.Shelf Go.RowKit Go.Lib
structure Rd (h:Heap) (b:Nat) (s:Eb) (i:Nat):Prop where
 blk:h[b]?=some (.cells #[.string (bs s),.int .i64 (i:Int)] qH (0,0))
 le:i<=s.length
 small:s.length<=1099511627776
def KI (s:Eb) (i:Nat):UInt8:=(s[i]?).getD 0
def KBY (e:Nat):Value:=.iface JK (.agg #[.int .i64 (e:Int)])
abbrev Kb (b:Nat):Heap->Heap->Prop:=Km (λk=>k=b)
theorem Rd.ext {h h':Heap} {b:Nat} {s:Eb} {i:Nat} (R:Rd h b s i) (e:Ext h h'):Rd h' b s i:=⟨e.blk R.blk,R.le,R.small⟩
theorem Rd.lt {h:Heap} {b:Nat} {s:Eb} {i:Nat} (R:Rd h b s i):b<h.size:=JV R.blk
theorem ErrV.km {h h':Heap} {b:Nat} (H:ErrV h) (k:Kb b h h') (hb:b≠gER):ErrV h':=by
 obtain⟨t,p,hc⟩:=H
 refine⟨t,p,?_⟩
 have h5:gER<h.size:=N3 hc
 have:=k.same gER h5 (λe=>hb e.symm)
 unfold KJ at hc⊢
 rw [this]
 exact hc
theorem JM {s:Eb} {i:Nat} (h:KI s i≠0):i<s.length:=by
 by_cases hi:i<s.length
 ·exact hi
 ·unfold KI at h
  rw [EK (by omega)]at h
  exact absurd rfl h
theorem Uz {s:Eb} {i:Nat} (hi:i<s.length):KI s i=s[i]:=by unfold KI;rw [Em hi];rfl
section
variable {β:Type} {h:Heap} {Q:β->Heap->Prop} {b i:Nat} {s:Eb}
theorem KOE {f:ByteArray->M β} (R:Rd h b s i) (H:(f (bs s)).wp h Q):(ldS ((⟨b,0,none⟩:Addr).add 0)>>=f).wp h Q:=WO (by rw [KM,KF R.blk];rfl) H
theorem KHO {f:Int->M β} (R:Rd h b s i) (H:(f (i:Int)).wp h Q):(ldI .i64 ((⟨b,0,none⟩:Addr).add 1)>>=f).wp h Q:=KV (by rw [KM,KF R.blk];rfl) H
theorem KaF {f:Unit->M β} (R:Rd h b s i) (hi:i<s.length) (H:∀h',Upd b h h'->Rd h' b s (i+1)->(f ()).wp h' Q):(stV ((⟨b,0,none⟩:Addr).add 1) (.int .i64 (IntKind.wrap .i64 ((i:Int)+1)))>>=f).wp h Q:=by
 have hsm:=R.small
 rw [w64 (by omega) (by omega)]
 refine qF (x:=.int .i64 (i:Int)) (by rw [KM,KF R.blk];rfl) (by rw [KM];exact Kv R.blk) rfl ?_
 rw [KM]
 exact H _ (Upd.hset _ _ _ _) ⟨J8 R.blk,hi,hsm⟩
theorem KIZ {f:Unit->M β} (R:Rd h b s i) (hi:i<s.length) (H:∀h',Upd b h h'->Rd h' b s (i+1)->(f ()).wp h' Q):
  (nilP (some ⟨b,0,none⟩)>>=λx=>ldI .i64 (x.add 1)>>=λy=>nilP (some ⟨b,0,none⟩)>>=λz=>stV (z.add 1) (.int .i64 (IntKind.wrap .i64 (y+1)))>>=f).wp h Q:=
 Kc (KHO R (Kc (KaF R hi H)))
end
theorem Wy {h:Heap} {Q:Int->Heap->Prop} {b i:Nat} {s:Eb} (R:Rd h b s i) (H:Q ((KI s i).toNat:Int) h):(Kk (some ⟨b,0,none⟩)).wp h Q:=by
 unfold Kk
 refine Kc (Kc (KHO R (KOE R ?_)))
 rw [Ke]
 refine KH (λhc=>?_) (λhc=>KA ?_)
 ·have hi:i<s.length:=by have:=Ec hc;omega
  refine Kc (Kc (KOE R (KHO R (VX rfl hi (KA ?_)))))
  rw [<-Uz hi]
  exact H
 ·have hi:¬i<s.length:=by have:=Ed hc;omega
  unfold KI at H
  rw [EK (by omega)]at H
  exact H
theorem XI {h:Heap} {Q:Value⊕Unit->Heap->Prop} {b i:Nat} {s:Eb} (R:Rd h b s i) (H:Q (.inl (KBY i)) h):(KX (some ⟨b,0,none⟩)).wp h Q:=by
 unfold KX
 exact Kc (KHO R (KA H))
theorem KGe {c:UInt8} {h:Heap} {Q:Bool->Heap->Prop} (H:Q (digB c) h):(Xe (c.toNat:Int)).wp h Q:=by
 unfold Xe
 refine Jp (c:=decide ((c.toNat:Int)<=57)) (λ_ Q' hq=>KA hq) (KA ?_)
 rw [show(decide ((c.toNat:Int)>=48)&&decide ((c.toNat:Int)<=57))=digB c by
  unfold digB
  congr 1
  ·exact Es.2 (by omega)
  ·exact Es.2 (by omega)]
 exact H
def Xo (s:Eb):Eb->Nat->Except Nat Nat
 | [],i=>.ok i
 |c::r,i=>if s[i]?=some c then Xo s r (i+1)else .error i
theorem Vt {s:Eb}:∀{lit:Eb} {i j:Nat},Xo s lit i=.ok j->j=i+lit.length/\(lit≠[]->j<=s.length)/\(s.drop i).take lit.length=lit
 | [],i,j,h=>by cases h;exact⟨rfl,λh=>absurd rfl h,by simp⟩
 |c::r,i,j,h=>by
  unfold Xo at h
  split at h
  ·rename_i hc
   obtain⟨h1,h2,h3⟩:=Vt h
   have hi:i<s.length:=(Fj.1 hc).1
   refine⟨by rw [h1,Ef];omega,λ_=>?_,?_⟩
   ·by_cases hr:r=[]
    ·subst hr;rw [h1];exact hi
    ·exact h2 hr
   ·rw [Eh hi,Ef,Fq,h3]
    rw [(Fj.1 hc).2]
  ·cases h
theorem NH {h:Heap} {Q:Value⊕Unit->Heap->Prop} {b i:Nat} {s lit:Eb} (R:Rd h b s i) (hl:lit.length<=1000)
  (H1:∀j h',Xo s lit i=.ok j->Kb b h h'->Rd h' b s j->Q (.inr ()) h') (H2:∀e h',Xo s lit i=.error e->Kb b h h'->Q (.inl (KBY e)) h'):(Kl (some ⟨b,0,none⟩) (bs lit)).wp h Q:=by
 unfold Kl
 rw [Ke]
 refine M.loop_inv (λ(x:Int) hh=>∃k i':Nat,x=(k:Int)/\k<=lit.length/\Kb b h hh/\Rd hh b s i'/\Xo s (lit.drop k) i'=Xo s lit i) (λx _=>((lit.length:Int) - x).toNat) ?_ ⟨0,i,rfl,El _,Km.refl _ _,R,rfl⟩
 rintro x hh ⟨k,i',rfl,hk,K,R',hm⟩ self hself
 unfold Y7
 refine KH (λhc=>?_) (λhc=>?_)
 ·have hkl:k<lit.length:=by have:=Ec hc;omega
  rw [Eh hkl,Xo]at hm
  refine Kc (Kc (KHO R' (KOE R' ?_)))
  rw [Ke]
  have hfail:s[i']?≠some lit[k]->(JT self (some ⟨b,0,none⟩) (k:Int) true).wp hh Q:=λhne=>by
   unfold JT
   refine iteT rfl (XI R' ?_)
   rw [if_neg hne]at hm
   exact H2 _ _ hm.symm K
  refine KH (λhge=>?_) (λhlt=>?_)
  ·refine hfail ?_
   have:=Ec hge
   rw [EK (by omega)]
   intro h;cases h
  ·have hil:i'<s.length:=by have:=Ed hlt;omega
   refine Kc (Kc (VX rfl hkl (KOE R' (KHO R' (VX rfl hil ?_)))))
   by_cases he:s[i']=lit[k]
   ·rw [show(((s[i']).toNat:Int) !=((lit[k]).toNat:Int))=false by rw [he];simp]
    unfold JT Vs
    refine iteF rfl (KIZ R' hil (λh2 u R2=>?_))
    rw [w64 (by omega) (by omega)]
    rw [if_pos (by rw [Em hil,he])]at hm
    exact hself _ _ ⟨k+1,i'+1,by omega,by omega,K.trans (Km.upd u rfl),R2,hm⟩ (by omega)
   ·rw [show(((s[i']).toNat:Int) !=((lit[k]).toNat:Int))=true by
     rw [IG]
     intro h
     exact he (Fg.1 (by omega))]
    refine hfail ?_
    rw [Em hil]
    intro h
    exact he (Option.some.inj h)
 ·have hkl:k=lit.length:=by have:=Ed hc;omega
  subst hkl
  rw [EY,Xo]at hm
  exact KA (H1 _ _ hm.symm K R')
def numL (s:Eb) (fr:Nat):Nat->Nat->Int->Except Nat (Int×Nat)
 |0,i,n=>.ok (n,i)
 |f+1,i,n=>if digB (KI s i)=true then
   (if(numP ((s.drop fr).take (i+1 - fr))).2=7 then .error i else if(numP ((s.drop fr).take (i+1 - fr))).2≠0 then .ok (n,i)else numL s fr f (i+1) (numP ((s.drop fr).take (i+1 - fr))).1)
  else .ok (n,i)
def numJ (s:Eb) (i:Nat):Nat:=if KI s i=45 then i+1 else i
def numF (s:Eb) (i:Nat):Except Nat (Int×Nat):=
 if digB (KI s (numJ s i))=false\/(i<numJ s i/\KI s (numJ s i)=48)then .error (numJ s i)else numL s i (s.length - numJ s i) (numJ s i) 0
theorem KIa {s:Eb} {i:Nat} (h:digB (KI s i)=true):i<s.length:=by
 refine JM (λe=>?_)
 rw [e]at h
 exact absurd h (by decide)
theorem KRv {h:Heap} {Q:Value⊕Int->Heap->Prop} {b i fr:Nat} {s:Eb} (R:Rd h b s i) (he:ErrV h) (hb:b≠gER) (hfr:fr<=i)
  (H1:∀n j h',numL s fr (s.length - i) i 0=.ok (n,j)->Kb b h h'->Rd h' b s j->Q (.inr n) h') (H2:∀e h',numL s fr (s.length - i) i 0=.error e->Kb b h h'->Q (.inl (KBY e)) h'):(Jb (some ⟨b,0,none⟩) (fr:Int)).wp h Q:=by
 unfold Jb
 refine M.loop_inv (λ(x:Int) hh=>∃i':Nat,fr<=i'/\Kb b h hh/\Rd hh b s i'/\(∃hx:hh[b]?=some (.cells #[.string (bs s),.int .i64 (i':Int)] qH (0,0)),True)/\numL s fr (s.length - i') i' x=numL s fr (s.length - i) i 0)
  (λx hh=>match hh[b]? with|some (.cells #[_,.int _ z] _ _)=>s.length - z.toNat|_=>0) ?_ ⟨i,hfr,Km.refl _ _,R,⟨R.blk,trivial⟩,rfl⟩
 rintro x hh ⟨i',hfi,K,R',⟨hx,_⟩,hm⟩ self hself
 have hsm:=R'.small
 unfold YA
 refine KD (Wy R' (KD (KGe ?_)))
 refine KH (λhd=>?_) (λhd=>?_)
 ·have hil:=KIa hd
  rw [show s.length - i'=(s.length - (i'+1))+1 by omega,numL,if_pos hd]at hm
  refine Kc (Kc (KOE R' (KHO R' ?_)))
  rw [w64 (by omega) (by omega)]
  refine KMk (a:=fr) (b:=i'+1) rfl (by omega) (by omega) (by omega) (KD (YI (KOC _) (KJc ?_ (he.km K hb) (λh2 e2=>?_))))
  ·rw [EI,Ex];omega
  have R2:=R'.ext e2
  refine KH (λh7=>?_) (λh7=>?_)
  ·rw [eqI,Ei]at h7
   rw [if_pos h7]at hm
   exact XI R2 (H2 _ _ hm.symm (K.trans (Km.ext e2)))
  ·rw [eqI,EQ]at h7
   rw [if_neg h7]at hm
   unfold Uy
   refine KH (λh0=>?_) (λh0=>?_)
   ·rw [IG]at h0
    rw [if_pos h0]at hm
    exact KA (H1 _ _ _ hm.symm (K.trans (Km.ext e2)) R2)
   ·have h0:¬(numP ((s.drop fr).take (i'+1 - fr))).2≠0:=by
     intro hne
     rw [(IG).2 hne]at h0
     cases h0
    rw [if_neg h0]at hm
    refine KIZ R2 hil (λh3 u3 R3=>?_)
    refine hself _ _ ⟨i'+1,by omega,(K.trans (Km.ext e2)).trans (Km.upd u3 rfl),R3,⟨R3.blk,trivial⟩,hm⟩ ?_
    rw [R3.blk,hx]
    show s.length - ((i'+1:Nat):Int).toNat<s.length - ((i':Nat):Int).toNat
    omega
 ·have:numL s fr (s.length - i') i' x=.ok (x,i'):=by
   cases hf:s.length - i' with
   |zero=>rfl
   |succ f=>rw [numL,if_neg (by rw [hd];decide)]
  rw [this]at hm
  exact KA (H1 _ _ _ hm.symm K R')
theorem KIb {h:Heap} {Q:Value⊕Int->Heap->Prop} {b i:Nat} {s:Eb} (R:Rd h b s i) (he:ErrV h) (hb:b≠gER)
  (H1:∀n j h',numF s i=.ok (n,j)->Kb b h h'->Rd h' b s j->Q (.inr n) h') (H2:∀e h',numF s i=.error e->Kb b h h'->Q (.inl (KBY e)) h'):(Z7 (some ⟨b,0,none⟩)).wp h Q:=by
 unfold Z7
 have key:∀h1,Kb b h h1->Rd h1 b s (numJ s i)->(Jc (some ⟨b,0,none⟩) (i:Int)).wp h1 Q:=by
  intro h1 K1 R1
  unfold Jc
  have hij:i<=numJ s i:=by unfold numJ;split<;>omega
  refine Kc (KHO R1 (KD (Wy R1 (KD (KGe ?_)))))
  refine or_b (c:=decide (i<numJ s i)&&decide (KI s (numJ s i)=48)) (λhd Q' hq=>?_) ?_
  ·refine KR (Jp (c:=decide (KI s (numJ s i)=48)) (λ_ Q2 hq2=>KD (Wy R1 (KA ?_))) (KZ (KA ?_)))
   ·rw [KRp,Es.2 (show some (KI s (numJ s i))=some 48↔KI s (numJ s i)=48 from⟨Option.some.inj,Ew _⟩)]
    exact hq2
   ·rw [show decide (((numJ s i:Nat):Int)>(i:Int))=decide (i<numJ s i)from Es.2 (by omega)]
    exact hq
  ·refine KH (λhbad=>?_) (λhok=>?_)
   ·refine XI R1 (H2 _ _ ?_ K1)
    unfold numF
    rw [if_pos]
    rw [EO,Eg,Ei,Ei,FJ]at hbad
    exact hbad
   ·have hn:¬(digB (KI s (numJ s i))=false\/(i<numJ s i/\KI s (numJ s i)=48)):=by
     intro hh
     rw [<-FJ,<-Ei (p:=i<numJ s i),<-Ei (p:=KI s (numJ s i)=48),<-Eg,<-EO,hok]at hh
     cases hh
    have hF:numF s i=numL s i (s.length - numJ s i) (numJ s i) 0:=by unfold numF;rw [if_neg hn]
    rw [hF]at H1 H2
    exact KRv R1 (he.km K1 hb) hb hij (λn j h2 e K2 R2=>H1 n j h2 e (K1.trans K2) R2) (λe h2 hm K2=>H2 e h2 hm (K1.trans K2))
 refine Kc (KHO R (KD (Wy R ?_)))
 refine KH (λhc=>?_) (λhc=>?_)
 ·have h45:KI s i=45:=by
   rw [KRo,Ei]at hc
   exact Option.some.inj hc
  refine KIZ R (JM (by rw [h45];decide)) (λh1 u1 R1=>key _ (Km.upd u1 rfl) ?_)
  unfold numJ
  rw [if_pos h45]
  exact R1
 ·have h45:¬KI s i=45:=by
   rw [KRo,EQ]at hc
   exact λe=>hc (Ew _ e)
  refine key _ (Km.refl _ _) ?_
  unfold numJ
  rw [if_neg h45]
  exact R
end Gx
namespace Gx
open Go Go.Proofs Go.Shelf Go.RowKit Go.Lib
def hexD:Eb:=[48,49,50,51,52,53,54,55,56,57,97,98,99,100,101,102]
def hexN (c:UInt8):Int:=Lib.indexByte hexD c
theorem KG0:∀(l:Eb) (c:UInt8),Lib.indexByte l c+1<=(l.length:Int)
 | [],c=>by simp [Lib.indexByte]
 |b::l,c=>by
  have:=KG0 l c
  unfold Lib.indexByte
  rw [Ef]
  split
  ·omega
  ·split<;>omega
theorem KEL (c:UInt8):hexN c<=15:=by
 have:=KG0 hexD c
 have h2:(hexD.length:Int)=16:=rfl
 unfold hexN
 omega
theorem KJv:hexN 0=-1:=by decide+kernel
theorem KT6:∀a b:Fin 16,IntKind.wrap .u8 (iOr .i64 (iShl .i64 (a.val:Int) 4) (b.val:Int))=((UInt8.ofNat (((a.val:Int)*16+(b.val:Int)).toNat)).toNat:Int):=by decide+kernel
theorem hexb {x y:Int} (hx:0<=x) (hx2:x<=15) (hy:0<=y) (hy2:y<=15):IntKind.wrap .u8 (iOr .i64 (iShl .i64 x 4) y)=((UInt8.ofNat ((x*16+y).toNat)).toNat:Int):=by
 have:=KT6 ⟨x.toNat,by omega⟩ ⟨y.toNat,by omega⟩
 simp only [IC hx,IC hy]at this
 exact this
theorem KPF {c:UInt8} {h:Heap} {Q:Int->Heap->Prop} (H:Q (hexN c) h):(JA (⟨#[48,49,50,51,52,53,54,55,56,57,97,98,99,100,101,102]⟩:ByteArray) (c.toNat:Int)).wp h Q:=by
 unfold JA ZX
 refine KD (KA (KA ?_))
 have:(c.toNat:Int).toNat.toUInt8=c:=by rw [FI];simp
 rw [this]
 exact H
def escP (s:Eb) (i:Nat):Except Nat (UInt8×Nat):=
 if KI s i=39\/KI s i=92 then .ok (KI s i,i+1)
 else match Xo s [120] i with
  | .error e=>.error e
  | .ok j=>if hexN (KI s j)<0\/(1<hexN (KI s j)/\hexN (KI s j)<7)then .error j
   else if hexN (KI s (j+1))<0\/(hexN (KI s j)=7/\hexN (KI s (j+1))<15)then .error (j+1)
   else .ok (UInt8.ofNat ((hexN (KI s j)*16+hexN (KI s (j+1))).toNat),j+2)
theorem KMo {s:Eb} {i:Nat} (h:0<=hexN (KI s i)):i<s.length:=by
 refine JM (λe=>?_)
 rw [e,KJv]at h
 omega
theorem u8_c {c d:UInt8} {n:Int} (hn:n=(d.toNat:Int)):((c.toNat:Int)==n)=decide (c=d):=by
 subst hn
 rw [eqI]
 refine Es.2 ⟨λh=>Fg.1 (by omega),λh=>by rw [h]⟩
theorem KT7 {h:Heap} {Q:Value⊕Int->Heap->Prop} {b i:Nat} {s:Eb} (R:Rd h b s i)
  (H1:∀(c:UInt8) j h',escP s i=.ok (c,j)->Kb b h h'->Rd h' b s j->Q (.inr (c.toNat:Int)) h') (H2:∀e h',escP s i=.error e->Kb b h h'->Q (.inl (KBY e)) h'):(UR (some ⟨b,0,none⟩)).wp h Q:=by
 unfold UR
 refine KD (Wy R ?_)
 rw [u8_c (d:=39) (n:=39) rfl,u8_c (d:=92) (n:=92) rfl]
 refine or_b (c:=decide (KI s i=92)) (λ_ Q' hq=>KA hq) ?_
 refine KH (λhc=>?_) (λhc=>?_)
 ·rw [EO,Ei,Ei]at hc
  have hi:i<s.length:=JM (by rcases hc with h|h<;>(rw [h];decide))
  refine KIZ R hi (λh1 u1 R1=>KA (H1 _ _ _ ?_ (Km.upd u1 rfl) R1))
  unfold escP
  rw [if_pos hc]
 ·have hc':¬(KI s i=39\/KI s i=92):=by
   intro hh
   rw [<-Ei (p:=KI s i=39),<-Ei (p:=KI s i=92),<-EO,hc]at hh
   cases hh
  refine Zn (NH (lit:=[120]) R (by decide) (λj h1 hj K1 R1=>?_) (λe h1 hj K1=>?_))
  ·have hE:escP s i=if hexN (KI s j)<0\/(1<hexN (KI s j)/\hexN (KI s j)<7)then .error j
     else if hexN (KI s (j+1))<0\/(hexN (KI s j)=7/\hexN (KI s (j+1))<15)then .error (j+1)
     else .ok (UInt8.ofNat ((hexN (KI s j)*16+hexN (KI s (j+1))).toNat),j+2):=by
    unfold escP
    rw [if_neg hc',hj]
   refine KD (Wy R1 (KD (KPF ?_)))
   refine Kc (Kc (KHO R1 (KOE R1 ?_)))
   have hbad:(hexN (KI s j)<0\/(1<hexN (KI s j)/\hexN (KI s j)<7))->(ZC (some ⟨b,0,none⟩) (hexN (KI s j)) true).wp h1 Q:=λhb=>by
    unfold ZC
    rw [if_pos hb]at hE
    exact iteT rfl (XI R1 (H2 _ _ hE K1))
   have hgood:¬(hexN (KI s j)<0\/(1<hexN (KI s j)/\hexN (KI s j)<7))->(ZC (some ⟨b,0,none⟩) (hexN (KI s j)) false).wp h1 Q:=λhb=>by
    unfold ZC UX
    rw [if_neg hb]at hE
    have hjl:j<s.length:=KMo (by omega)
    refine iteF rfl (KIZ R1 hjl (λh2 u2 R2=>?_))
    have K2:Kb b h h2:=K1.trans (Km.upd u2 rfl)
    refine KD (Wy R2 (KD (KPF ?_)))
    refine Kc (Kc (KHO R2 (KOE R2 ?_)))
    have hbad2:(hexN (KI s (j+1))<0\/(hexN (KI s j)=7/\hexN (KI s (j+1))<15))->(ZB (some ⟨b,0,none⟩) (hexN (KI s j)) (hexN (KI s (j+1))) true).wp h2 Q:=λhb=>by
     unfold ZB
     rw [if_pos hb]at hE
     exact iteT rfl (XI R2 (H2 _ _ hE K2))
    have hgood2:¬(hexN (KI s (j+1))<0\/(hexN (KI s j)=7/\hexN (KI s (j+1))<15))->(ZB (some ⟨b,0,none⟩) (hexN (KI s j)) (hexN (KI s (j+1))) false).wp h2 Q:=λhb2=>by
     unfold ZB UW
     rw [if_neg hb2]at hE
     have hjl2:j+1<s.length:=KMo (by omega)
     refine iteF rfl (KIZ R2 hjl2 (λh3 u3 R3=>KA ?_))
     rw [hexb (by omega) (KEL _) (by omega) (KEL _)]
     exact H1 _ _ _ hE (K2.trans (Km.upd u3 rfl)) R3
    refine KH (λhge=>?_) (λhlt=>?_)
    ·refine hbad2 (.inl ?_)
     have hge:=Ec hge
     rw [Ke]at hge
     have:KI s (j+1)=0:=by unfold KI;rw [EK (by omega)];rfl
     rw [this,KJv];decide
    ·refine KH (λhn=>hbad2 (.inl (Ec hn))) (λhn=>?_)
     have hn:=Ed hn
     refine KH (λh7=>?_) (λh7=>?_)
     ·rw [eqI,Ei]at h7
      by_cases h15:hexN (KI s (j+1))<15
      ·rw [Ej h15]
       exact hbad2 (.inr ⟨h7,h15⟩)
      ·rw [Eo h15]
       exact hgood2 (λhh=>hh.elim hn (λhh=>h15 hh.2))
     ·rw [eqI,EQ]at h7
      exact hgood2 (λhh=>hh.elim hn (λhh=>h7 hh.1))
   refine KH (λhge=>?_) (λhlt=>?_)
   ·refine hbad (.inl ?_)
    have hge:=Ec hge
    rw [Ke]at hge
    have:KI s j=0:=by unfold KI;rw [EK (by omega)];rfl
    rw [this,KJv];decide
   ·refine KH (λhn=>hbad (.inl (Ec hn))) (λhn=>?_)
    have hn:=Ed hn
    refine KH (λh1'=>?_) (λh1'=>?_)
    ·have h1':=Ec h1'
     by_cases h7:hexN (KI s j)<7
     ·rw [Ej h7]
      exact hbad (.inr ⟨h1',h7⟩)
     ·rw [Eo h7]
      exact hgood (λhh=>hh.elim hn (λhh=>h7 hh.2))
    ·have h1':=Ed h1'
     exact hgood (λhh=>hh.elim hn (λhh=>h1' hh.1))
  ·refine H2 e h1 ?_ K1
   unfold escP
   rw [if_neg hc',hj]
theorem KOF {s:Eb} {i j:Nat} {c:UInt8} (h:escP s i=.ok (c,j)):i<j/\j<=s.length:=by
 unfold escP at h
 split at h
 ·rename_i hc
  have hi:i<s.length:=JM (by rcases hc with h|h<;>(rw [h];decide))
  cases h
  omega
 ·split at h
  ·cases h
  ·rename_i j' hj
   obtain⟨h1,h2,_⟩:=Vt hj
   split at h
   ·cases h
   ·split at h
    ·cases h
    ·rename_i hn
     have:=KMo (s:=s) (i:=j'+1) (by omega)
     cases h
     have:j'=i+1:=h1
     omega
def strL (s:Eb):Nat->Nat->Eb->Except Nat (Eb×Nat)
 |0,i,_=>.error i
 |f+1,i,acc=>
  if KI s i=39 then .ok (acc,i+1)
  else if(KI s i).toNat<32\/126<(KI s i).toNat then .error i
  else if KI s i=92 then(match escP s (i+1)with| .error e=>.error e| .ok (d,j)=>strL s f j (acc++[d]))
  else strL s f (i+1) (acc++[KI s i])
def strP (s:Eb) (i:Nat):Except Nat (Eb×Nat):=match Xo s [39] i with| .error e=>.error e| .ok j=>strL s (s.length+1 - j) j []
theorem KPG {β:Type} {lo:Nat} {h:Heap} {Q:β->Heap->Prop} {r:Sl} {l:Eb} {c:UInt8} {f:Sl->M β} (G:Gw lo h r 1 (l.map bv)) (hle:lo<=h.size) (hm:l.length<=1099511627776)
  (H:∀h' r',Gw lo h' r' 1 ((l++[c]).map bv)->h.size<=h'.size->(∀j,j<lo->h'[j]?=h[j]?)->(f r').wp h' Q):(bdL Ko 1 #[.int .u8 (c.toNat:Int)]>>=λx=>apL Ko 1 1 (#[.int .u8 0]:Ea) r x>>=f).wp h Q:=by
 refine KAz ?_
 have e6:=Ext.push h (.cells #[.int .u8 (c.toNat:Int)] Ko)
 have g6:(h.push (.cells #[.int .u8 (c.toNat:Int)] Ko))[h.size]?=some (.cells #[.int .u8 (c.toNat:Int)] Ko (0,0)):=Kx
 generalize h.push (.cells #[.int .u8 (c.toNat:Int)] Ko)=h6 at e6 g6⊢
 have G6:=G.ext e6
 have hrl:=G6.len
 rw [EL,FT]at hrl
 refine KGA (vs:=l.map bv) (news:=[bv c]) rfl G6 rfl (.inr ⟨_,rfl,λj v hj=>?_⟩) (λv hv=>by simp at hv;subst hv;rfl) (by dsimp only;omega) (by dsimp only;omega) (by have:=e6.size;omega) (λh7 r7 G7 hlen7 hs7 same7 on7=>?_)
 ·rw [KM,EC,KF g6]
  rw [show(#[.int .u8 (c.toNat:Int)]:Ea)=[bv c].toArray from rfl]
  simpa using hj
 ·refine H h7 r7 (by rw [Fm];exact G7) (Fb e6.size hs7) (λj hj=>(same7 j (by have:=e6.size;omega) (λho=>by have:=(G6.lt ho).2;omega)).trans (e6.same j (by omega)))
theorem KT8 {h:Heap} {Q:Value⊕ByteArray->Heap->Prop} {b i:Nat} {s:Eb} (R:Rd h b s i)
  (H1:∀t j h',strP s i=.ok (t,j)->Kb b h h'->Rd h' b s j->Q (.inr (bs t)) h') (H2:∀e h',strP s i=.error e->Kb b h h'->Q (.inl (KBY e)) h'):(Ww (some ⟨b,0,none⟩)).wp h Q:=by
 unfold Ww
 refine Zn (NH (lit:=[39]) R (by decide) (λj h1 hj K1 R1=>?_) (λe h1 hj K1=>?_))
 ·have hP:strP s i=strL s (s.length+1 - j) j []:=by unfold strP;rw [hj]
  rw [hP]at H1 H2
  have hb:=R1.lt
  refine M.loop_inv (λ(x:Sl) hh=>∃(acc:Eb) (f i':Nat),s.length<f+i'/\acc.length<=i'/\Kb b h1 hh/\Rd hh b s i'/\Gw h1.size hh x 1 (acc.map bv)/\strL s f i' acc=strL s (s.length+1 - j) j [])
   (λx _=>s.length+1 - x.len) ?_ ⟨[],_,j,by have:=R1.le;omega,El _,Km.refl _ _,R1,Gw.nil _ _ _,rfl⟩
  rintro x hh ⟨acc,f,i',hf,hai,K,R',G,hm⟩ self hself
  have hsm:=R'.small
  have hle:=R'.le
  have hxl:=G.len
  rw [EL,FT]at hxl
  obtain⟨f,rfl⟩:∃g,f=g+1:=⟨f - 1,by omega⟩
  rw [strL]at hm
  unfold Xf
  refine KD (Wy R' ?_)
  rw [show(((KI s i').toNat:Int) !=39)=!decide (KI s i'=39) by rw [<-u8_c (d:=39) (n:=39) rfl];rfl]
  refine KH (λhne=>?_) (λheq=>?_)
  ·have hne:KI s i'≠39:=by simpa using hne
   rw [if_neg hne]at hm
   refine KD (Wy R' ?_)
   refine or_b (c:=decide (((KI s i').toNat:Int)>126)) (λ_ Q' hq=>KA hq) ?_
   refine KH (λhbad=>?_) (λhok=>?_)
   ·rw [EO,Ei,Ei]at hbad
    rw [if_pos (by omega)]at hm
    exact XI R' (H2 _ _ hm.symm (K1.trans K))
   ·rw [Ff,EQ,EQ]at hok
    rw [if_neg (by omega)]at hm
    have hil:i'<s.length:=JM (λe=>by rw [e]at hok;exact absurd hok.1 (by decide))
    unfold Wk
    refine KIZ R' hil (λh2 u2 R2=>?_)
    have K2:Kb b h1 h2:=K.trans (Km.upd u2 rfl)
    have G2:Gw h1.size h2 x 1 (acc.map bv):=G.same (λk hk=>u2.ne k (λe=>by have:=(G.lt hk).2;omega))
    have hs2:h1.size<=h2.size:=K2.size
    have next:∀(c:UInt8) (i2:Nat) (h3:Heap),i'<i2->Kb b h1 h3->Rd h3 b s i2->Gw h1.size h3 x 1 (acc.map bv)->strL s f i2 (acc++[c])=strL s (s.length+1 - j) j []->(Uv self x (c.toNat:Int)).wp h3 Q:=by
     intro c i2 h3 hi2 K3 R3 G3 hm3
     unfold Uv
     refine KPG G3 K3.size (by omega) (λh4 r4 G4 hs4 same4=>?_)
     have hl4:=G4.len
     rw [EL,List.length_append,List.length_singleton,FT]at hl4
     refine hself _ _ ⟨acc++[c],f,i2,by omega,by rw [List.length_append,List.length_singleton];omega,⟨Fb K3.size hs4,λk hk hkb=>(same4 k hk).trans (K3.same k hk hkb)⟩,⟨by rw [same4 b hb];exact R3.blk,R3.le,R3.small⟩,G4,hm3⟩ ?_
     omega
    by_cases h92:KI s i'=92
    ·rw [if_pos h92]at hm
     refine iteT (by rw [u8_c (d:=92) (n:=92) rfl,Ej h92]) (Zn (KT7 R2 (λc j2 h3 he K3 R3=>?_) (λe h3 he K3=>?_)))
     ·rw [he]at hm
      exact next c j2 h3 (by have:=KOF he;omega) (K2.trans K3) R3 (G2.same (λk hk=>K3.same k (G2.lt hk).1 (λe=>by have:=(G2.lt hk).2;omega))) hm
     ·rw [he]at hm
      exact H2 _ _ hm.symm (K1.trans (K2.trans K3))
    ·rw [if_neg h92]at hm
     refine iteF (by rw [u8_c (d:=92) (n:=92) rfl,Eo h92]) ?_
     exact next _ (i'+1) h2 (by omega) K2 R2 G2 hm
  ·have heq:KI s i'=39:=by simpa using heq
   rw [if_pos heq]at hm
   have hil:i'<s.length:=JM (by rw [heq];decide)
   refine KIZ R' hil (λh2 u2 R2=>?_)
   have G2:Gw h1.size h2 x 1 (acc.map bv):=G.same (λk hk=>u2.ne k (λe=>by have:=(G.lt hk).2;omega))
   refine KTp (ns:=acc) hxl G2.reads (KA ?_)
   exact H1 _ _ _ hm.symm (K1.trans (K.trans (Km.upd u2 rfl))) R2
 ·refine H2 e h1 ?_ K1
  unfold strP
  rw [hj]
end Gx
namespace Gx
open Go Go.Proofs Go.Shelf Go.RowKit Go.Lib
def zY (k:Int) (s:Eb) (i:Nat):Except Nat (Vl×Nat):=
 match Xo s [91] (i+1)with
 | .error e=>.error e
 | .ok j=>match numF s j with
  | .error e=>.error e
  | .ok (n,j2)=>match Xo s [93] j2 with
   | .error e=>.error e
   | .ok j3=>.ok (.mk k n [] [],j3)
def Ya (pv:Nat->Except Nat (Vl×Nat)) (two:Bool) (s:Eb) (i:Nat):Except Nat (List Vl×Nat):=
 match pv i with
 | .error e=>.error e
 | .ok (v,j)=>if two=true then(match Xo s [58,32] j with
   | .error e=>.error e
   | .ok j2=>match pv j2 with
    | .error e=>.error e
    | .ok (w,j3)=>.ok ([v,w],j3))else .ok ([v],j)
def sepP (l:List Vl) (s:Eb) (i:Nat):Except Nat Nat:=if l.length=0 then .ok i else Xo s [44,32] i
def Vc (pv:Nat->Except Nat (Vl×Nat)) (en:UInt8) (two:Bool) (s:Eb):Nat->List Vl->Nat->Except Nat (List Vl×Nat)
 |0,_,i=>.error i
 |f+1,l,i=>if KI s i=en then .ok (l,i+1)else
  match sepP l s i with
  | .error e=>.error e
  | .ok i1=>match Ya pv two s i1 with
   | .error e=>.error e
   | .ok (vs,i2)=>if KI s i2≠en/\KI s i2≠44 then .error i2 else Vc pv en two s f (l++vs) i2
def pval (s:Eb):Nat->Nat->Except Nat (Vl×Nat)
 |0,i=>.error i
 |d+1,i=>
  if KI s i=45\/digB (KI s i)=true then(match numF s i with| .error e=>.error e| .ok (n,j)=>.ok (.mk 1 n [] [],j))
  else if KI s i=39 then(match strP s i with| .error e=>.error e| .ok (t,j)=>.ok (.mk 2 0 t [],j))
  else if KI s i=116 then(match Xo s [116,114,117,101] i with| .error e=>.error e| .ok j=>.ok (.mk 3 1 [] [],j))
  else if KI s i=102 then(match Xo s [102,97,108,115,101] i with| .error e=>.error e| .ok j=>.ok (.mk 3 0 [] [],j))
  else if KI s i=118 then zY 6 s i
  else if KI s i=101 then zY 7 s i
  else if KI s i=91 then(match Vc (pval s d) 93 false s (s.length - i) [] (i+1)with| .error e=>.error e| .ok (l,j)=>.ok (.mk 4 0 [] l,j))
  else if KI s i=123 then(match Vc (pval s d) 125 true s (s.length - i) [] (i+1)with| .error e=>.error e| .ok (l,j)=>.ok (.mk 5 0 [] l,j))
  else .error i
theorem KQj {t:Eb} {n:Int} (h:Lib.parseIntB 64 t=.ok n):I64 n:=by
 unfold parseIntB at h
 split at h
 ·cases h
 ·dsimp only at h
  split at h
  ·cases h
  ·cases h
  ·split at h
   ·cases h
   ·split at h
    ·cases h
    ·rename_i u _ h1 h2
     cases h
     have e63:(2:Nat)^(64 - 1)=9223372036854775808:=by decide
     rw [e63]at h1 h2
     unfold I64
     split<;>rename_i h3<;>(simp only [h3,not_true_eq_false,I9,true_and,false_and]at h1 h2;omega)
theorem KPH {t:Eb} (h:(numP t).2=0):I64 (numP t).1:=by
 unfold numP at h⊢
 split
 ·rename_i h1;rw [if_pos h1]at h;exact absurd h (by decide)
 ·rename_i h1
  rw [if_neg h1]at h
  split
  ·rename_i h2;rw [if_pos h2]at h;exact absurd h (by decide)
  ·rename_i h2
   rw [if_neg h2]at h
   split
   ·rename_i h3;rw [if_pos h3]at h;exact absurd h (by decide)
   ·rename_i h3
    rw [if_neg h3]at h
    split
    ·rename_i n hn;exact KQj hn
    ·rename_i hne
     exfalso
     revert h
     split
     ·rename_i n hn;exact absurd hn (hne n)
     ·decide
theorem KRw {s:Eb} {fr:Nat}:∀{f i:Nat} {n m:Int} {j:Nat},numL s fr f i n=.ok (m,j)->I64 n->i<=s.length->I64 m/\i<=j/\j<=s.length
 |0,i,n,m,j,h,hn,hi=>by cases h;exact⟨hn,Ee _,hi⟩
 |f+1,i,n,m,j,h,hn,hi=>by
  rw [numL]at h
  split at h
  ·rename_i hd
   have hil:=KIa hd
   split at h
   ·cases h
   ·split at h
    ·cases h;exact⟨hn,Ee _,hi⟩
    ·rename_i h0
     have:=KRw h (KPH (IP.1 h0)) (by omega)
     exact⟨this.1,by omega,this.2.2⟩
  ·cases h;exact⟨hn,Ee _,hi⟩
theorem KRx:∀n:Fin 256,digB (UInt8.ofNat n.val)=true->(numP [UInt8.ofNat n.val]).2=0/\(UInt8.ofNat n.val≠48->(numP [45,UInt8.ofNat n.val]).2=0):=by decide+kernel
theorem KBl {c:UInt8} (h:digB c=true):(numP [c]).2=0/\(c≠48->(numP [45,c]).2=0):=by
 have:=KRx ⟨c.toNat,c.toNat_lt⟩
 simp only [FS]at this
 exact this h
theorem KEM {s:Eb} {i j:Nat} {n:Int} (h:numF s i=.ok (n,j)) (hi:i<=s.length):I64 n/\i<j/\j<=s.length:=by
 unfold numF at h
 split at h
 ·cases h
 ·rename_i hb
  have hd:digB (KI s (numJ s i))=true:=by
   cases hh:digB (KI s (numJ s i))with
   |true=>rfl
   |false=>exact absurd (.inl hh) hb
  have hil:=KIa hd
  have hij:i<=numJ s i:=by unfold numJ;split<;>omega
  rw [show s.length - numJ s i=(s.length - (numJ s i+1))+1 by omega,numL,if_pos hd]at h
  have ht:(numP ((s.drop i).take (numJ s i+1 - i))).2=0:=by
   by_cases h45:KI s i=45
   ·have hJ:numJ s i=i+1:=by unfold numJ;rw [if_pos h45]
    rw [hJ]at hb hd hil⊢
    have h2:(s.drop i).take (i+1+1 - i)=[45,KI s (i+1)]:=by
     rw [show i+1+1 - i=2 by omega,Eh (by omega),Eh hil]
     rw [Uz hil,<-h45,Uz (by omega)]
     rfl
    rw [h2]
    exact(KBl hd).2 (λe=>hb (.inr ⟨by omega,e⟩))
   ·have hJ:numJ s i=i:=by unfold numJ;rw [if_neg h45]
    rw [hJ]at hd hil⊢
    have h2:(s.drop i).take (i+1 - i)=[KI s i]:=by
     rw [show i+1 - i=1 by omega,Eh hil,Uz hil]
     rfl
    rw [h2]
    exact(KBl hd).1
  rw [if_neg (by rw [ht];decide),if_neg (by rw [ht];exact λh=>h rfl)]at h
  have:=KRw h (KPH ht) (by omega)
  exact⟨this.1,by omega,this.2.2⟩
theorem KOG {s:Eb}:∀{f i:Nat} {acc t:Eb} {j:Nat},strL s f i acc=.ok (t,j)->i<j/\j<=s.length/\t.length+i<=acc.length+j
 |0,i,acc,t,j,h=>by cases h
 |f+1,i,acc,t,j,h=>by
  rw [strL]at h
  split at h
  ·rename_i h39
   have:=JM (s:=s) (i:=i) (by rw [h39];decide)
   cases h
   omega
  ·split at h
   ·cases h
   ·split at h
    ·split at h
     ·cases h
     ·rename_i d j2 he
      have h1:=KOF he
      have h2:=KOG h
      rw [List.length_append,List.length_singleton]at h2
      omega
    ·have h2:=KOG h
     rw [List.length_append,List.length_singleton]at h2
     omega
theorem KLE {s:Eb} {i j:Nat} {t:Eb} (h:strP s i=.ok (t,j)):i<j/\j<=s.length/\t.length<=s.length:=by
 unfold strP at h
 split at h
 ·cases h
 ·rename_i j1 hj
  have h1:=(Vt hj).1
  have h2:=KOG h
  rw [En]at h2
  omega
theorem KBm {s:Eb} {i j:Nat} {k:Int} {v:Vl} (h:zY k s i=.ok (v,j)):∃n,v=.mk k n [] []/\I64 n/\i<j/\j<=s.length:=by
 unfold zY at h
 split at h
 ·cases h
 ·rename_i j1 h1
  split at h
  ·cases h
  ·rename_i n j2 h2
   split at h
   ·cases h
   ·rename_i j3 h3
    cases h
    have a1:=Vt h1
    have a2:=KEM h2 (a1.2.1 (by simp))
    have a3:=Vt h3
    have b1:j1=i+1+1:=a1.1
    have b3:j=j2+1:=a3.1
    exact⟨n,rfl,a2.1,by omega,a3.2.1 (by simp)⟩
def Prog (s:Eb) (pv:Nat->Except Nat (Vl×Nat)):Prop:=∀i v j,pv i=.ok (v,j)->i<j/\j<=s.length
theorem KT9 {s:Eb} {pv:Nat->Except Nat (Vl×Nat)} (hp:Prog s pv) {two:Bool} {i j:Nat} {vs:List Vl} (h:Ya pv two s i=.ok (vs,j)):i+vs.length<=j/\0<vs.length/\j<=s.length:=by
 unfold Ya at h
 split at h
 ·cases h
 ·rename_i v j1 h1
  have a1:=hp _ _ _ h1
  split at h
  ·split at h
   ·cases h
   ·rename_i j2 h2
    have a2:j2=j1+2:=(Vt h2).1
    split at h
    ·cases h
    ·rename_i w j3 h3
     have a3:=hp _ _ _ h3
     cases h
     simp only [Ef,En]
     omega
  ·cases h
   simp only [Ef,En]
   omega
theorem KWv {l:List Vl} {s:Eb} {i j:Nat} (h:sepP l s i=.ok j):i<=j:=by
 unfold sepP at h
 split at h
 ·cases h;exact Ee _
 ·have:j=i+2:=(Vt h).1
  omega
theorem KLF {s:Eb} {pv:Nat->Except Nat (Vl×Nat)} (hp:Prog s pv) {en:UInt8} (he:en≠0) {two:Bool}:∀{f i:Nat} {l t:List Vl} {j:Nat},Vc pv en two s f l i=.ok (t,j)->i<j/\j<=s.length/\t.length+i<=l.length+j
 |0,i,l,t,j,h=>by cases h
 |f+1,i,l,t,j,h=>by
  rw [Vc]at h
  split at h
  ·rename_i hh
   have:=JM (s:=s) (i:=i) (by rw [hh];exact he)
   cases h
   omega
  ·split at h
   ·cases h
   ·rename_i i1 h1
    have a1:=KWv h1
    split at h
    ·cases h
    ·rename_i vs i2 h2
     have a2:=KT9 hp h2
     split at h
     ·cases h
     ·have:=KLF hp he h
      rw [List.length_append]at this
      omega
theorem KLG (s:Eb):∀d,Prog s (pval s d)
 |0=>λi v j h=>by cases h
 |d+1=>λi v j h=>by
  have ih:=KLG s d
  rw [pval]at h
  split at h
  ·rename_i hc
   have hi:i<s.length:=JM (λe=>by rw [e]at hc;exact absurd hc (by decide))
   split at h
   ·cases h
   ·rename_i n j1 h1
    cases h
    exact(KEM h1 (by omega)).2
  ·split at h
   ·split at h
    ·cases h
    ·rename_i t j1 h1
     cases h
     exact⟨(KLE h1).1,(KLE h1).2.1⟩
   ·split at h
    ·split at h
     ·cases h
     ·rename_i j1 h1
      cases h
      have a:=Vt h1
      have a1:j=i+4:=a.1
      exact⟨by omega,a.2.1 (by simp)⟩
    ·split at h
     ·split at h
      ·cases h
      ·rename_i j1 h1
       cases h
       have a:=Vt h1
       have a1:j=i+5:=a.1
       exact⟨by omega,a.2.1 (by simp)⟩
     ·split at h
      ·obtain⟨n,_,_,h3⟩:=KBm h
       exact h3
      ·split at h
       ·obtain⟨n,_,_,h3⟩:=KBm h
        exact h3
       ·split at h
        ·split at h
         ·cases h
         ·rename_i l j1 h1
          have a:=KLF ih (by decide) h1
          cases h
          omega
        ·split at h
         ·split at h
          ·cases h
          ·rename_i l j1 h1
           have a:=KLF ih (by decide) h1
           cases h
           omega
         ·cases h
end Gx
namespace Gx
open Go Go.Proofs Go.Shelf Go.RowKit Go.Lib
theorem N4 (S:Nat->Prop) (h:Heap) {k n:Int} {s:Eb} (hk:I64 k) (hn:I64 n) (hs:s.length<=9223372036854775807):Zg S h (.mk k n s []) (ZK k n s Sl.nil):=
 Zg.eq.2 ⟨Sl.nil,rfl,hk,hn,hs,rfl,Ee _,by decide,by rw [qk];trivial⟩
theorem KFo {S:Nat->Prop} {h:Heap} {k n:Int} {l:List Vl} {x:Sl} (hk:I64 k) (hn:I64 n) (hl:VsRepS S h x l):Zg S h (.mk k n [] l) (ZK k n [] x):=
 Zg.eq.2 ⟨x,rfl,hk,hn,by decide,hl⟩
theorem KRy {α:Type} {h:Heap} {Q:α⊕Ea->Heap->Prop} {g:Nat} {z cs:Ea} {t:TypeId} (hg:h[g]?=some (.cells z t (0,0))) (hz:z.size=4) (hc:cs.size=4) (h1:∀v∈cs.toList,one v=true)
  (H:∀h',Upd g h h'->Q (.inr cs) h'):(M.need (cs.size=4)>>=λ_=>stG ⟨g,0,none⟩ cs>>=λ_=>ldG 4 ⟨g,0,none⟩>>=λr=>(M.pure (.inr r):M (α⊕Ea))).wp h Q:=by
 refine ZH hc (stR hg (by omega) h1 (λh' u g'=>?_))
 have hl:lay z 0 cs.toList=cs:=by
  rw [KW (by rw [Ep];omega)]
 rw [hl]at g'
 exact ldR g' hc (KA (H _ u))
theorem KOH {β:Type} {lo:Nat} {S:Nat->Prop} {h:Heap} {Q:β->Heap->Prop} {r:Sl} {css:List (Ea)} {l:List Vl} {v:Vl} {c:Ea} {f:Sl->M β} (G:VGw lo S h r css l) (hS:∀k,S k->k<h.size/\¬Sl.on r k) (hv:Zg S h v c) (hlo:lo<=h.size) (hm:l.length<=1099511627776)
  (H:∀h' r',VGw lo S h' r' (css++[c]) (l++[v])->h.size<=h'.size->(∀i,i<h.size->¬Sl.on r i->h'[i]?=h[i]?)->(∀i,Sl.on r' i->Sl.on r i\/h.size<=i)->(f r').wp h' Q):
  (Xs 4 1 (#[.int .i64 0,.int .i64 0,.string ByteArray.empty,.slice none 0 0]:Ea) [(0,.agg c)]>>=λy=>bdL KB 1 y>>=λx=>apL KB 4 56 (#[.int .i64 0,.int .i64 0,.string ByteArray.empty,.slice none 0 0]:Ea) r x>>=f).wp h Q:=by
 have hc:=hv.size
 refine zD hc (KAz ?_)
 have e1:=Ext.push h (.cells c KB)
 have g1:(h.push (.cells c KB))[h.size]?=some (.cells c KB (0,0)):=Kx
 generalize h.push (.cells c KB)=h1 at e1 g1⊢
 have hs1:=e1.size
 have G1:VGw lo S h1 r css l:=G.same (λk hk=>e1.same k (G.gw.lt hk).1) (λk hk=>e1.same k (hS k hk).1)
 refine KD (KPE (l':=[v]) (css':=[c]) G1 (by omega) (λk hk=>⟨by have:=(hS k hk).1;omega,(hS k hk).2⟩) (λx hx=>by simp at hx;subst hx;exact⟨hc,hv.to.one⟩) rfl rfl (.inr ⟨_,rfl,λj u hj=>?_⟩) (λj h1 h2=>?_) (by simp only [Ef,En];omega) (λh2 r2 G2 hs2 same2 on2=>?_))
 ·rw [KM,EC,KF g1]
  have:JC [c]=c.toList:=by simp [JC]
  rw [this,Fu]at hj
  exact hj
 ·have hj0:j=0:=by simp only [Ef,En]at h1;omega
  subst hj0
  exact hv.same (λk hk=>e1.same k (hS k hk).1)
 ·exact H _ _ G2 (by omega) (λi hi ho=>(same2 i (by omega) ho).trans (e1.same i hi)) (λi hi=>(on2 i hi).imp id (λh=>by omega))
abbrev HS (h h':Heap):Nat->Prop:=λk=>h.size<=k/\k<h'.size
theorem KMp {h:Heap} {Q:Value⊕Ea->Heap->Prop} {b i:Nat} {s:Eb} {k:Int} (R:Rd h b s i) (hi:i<s.length) (he:ErrV h) (hb:b≠gER)
  (H1:∀n j h',zY k s i=.ok (.mk k n [] [],j)->Kb b h h'->Rd h' b s j->Q (.inr (ZK k n [] Sl.nil)) h') (H2:∀e h',zY k s i=.error e->Kb b h h'->Q (.inl (KBY e)) h'):(JU (some ⟨b,0,none⟩) k).wp h Q:=by
 unfold JU
 refine Kw (λh1 e1 hs1 g1=>?_)
 refine KIZ (R.ext e1) hi (λh2 u2 R2=>?_)
 have hbl:=R.lt
 have K2:Kb b h h2:=(Km.ext e1).trans (Km.upd u2 rfl)
 have g2:=(u2.ne h.size (by omega)).trans g1
 refine Zn (NH (lit:=[91]) R2 (by decide) (λj h3 hj K3 R3=>?_) (λe h3 hj K3=>H2 e h3 (by unfold zY;rw [hj]) (K2.trans K3)))
 have g3:=K3.blk g2 (show ¬h.size=b by omega)
 have K3':=K2.trans K3
 refine Zn (KIb R3 (he.km K3' hb) hb (λn j2 h4 hn K4 R4=>?_) (λe h4 hn K4=>H2 e h4 (by unfold zY;rw [hj];dsimp only;rw [hn]) (K3'.trans K4)))
 have g4:=K4.blk g3 (show ¬h.size=b by omega)
 have K4':=K3'.trans K4
 have hs4:=K4'.size
 refine Kw (λh5 e5 hs5 g5=>?_)
 refine ZH rfl (stR g5 (Ee 4) (by intro v hv;simp at hv;rcases hv with rfl|rfl|rfl|rfl<;>rfl) (λh6 u6 g6=>?_))
 have hl6:lay (#[.int .i64 0,.int .i64 0,.string ByteArray.empty,.slice none 0 0]:Ea) 0 (#[.int .i64 k,.int .i64 n,.string ByteArray.empty,.slice none 0 0]:Ea).toList=ZK k n [] Sl.nil:=by
  exact KW (cs:=vz) (vs:=(ZK k n [] Sl.nil).toList) rfl
 rw [hl6]at g6
 have hlt4:h.size<h4.size:=JV g4
 have K6:Kb b h h6:=⟨by have:=u6.size;have:=e5.size;omega,λq hq hqb=>(u6.ne q (by omega)).trans ((e5.same q (by omega)).trans (K4'.same q hq hqb))⟩
 have R6:Rd h6 b s j2:=⟨(u6.ne b (by have:=R4.lt;omega)).trans (e5.blk R4.blk),R4.le,R4.small⟩
 have g6':h6[h.size]?=some (.cells (#[.int .i64 0,.int .i64 0,.string ByteArray.empty,.slice none 0 0]:Ea) KB (0,0)):=(u6.ne h.size (by omega)).trans (e5.blk g4)
 refine Zn (NH (lit:=[93]) R6 (by decide) (λj3 h7 hj3 K7 R7=>?_) (λe h7 hj3 K7=>H2 e h7 (by unfold zY;rw [hj];dsimp only;rw [hn];dsimp only;rw [hj3]) (K6.trans K7)))
 have g7:=K7.blk g6 (show ¬h4.size=b by have:=R4.lt;omega)
 have g7':=K7.blk g6' (show ¬h.size=b by omega)
 refine ldR g7 rfl ?_
 refine KRy g7' rfl rfl (ZF _ _ _ _) (λh8 u8=>H1 n j3 h8 ?_ ?_ ?_)
 ·unfold zY;rw [hj];dsimp only;rw [hn];dsimp only;rw [hj3]
 ·have:=(K6.trans K7)
  exact⟨by rw [u8.size];exact this.size,λq hq hqb=>(u8.ne q (by omega)).trans (this.same q hq hqb)⟩
 ·exact⟨(u8.ne b (by omega)).trans R7.blk,R7.le,R7.small⟩
theorem KQk {β:Type} {h:Heap} {Q:β->Heap->Prop} {cs:Ea} {f:Ea->M β} (hc:cs.size=4) (h1:∀v∈cs.toList,one v=true) (H:∀h',Ext h h'->(f cs).wp h' Q):
  ((mkB KB (#[.int .i64 0,.int .i64 0,.string ByteArray.empty,.slice none 0 0]:Ea)>>=λx=>M.need (cs.size=4)>>=λ_=>stG x cs>>=λ_=>ldG 4 x>>=λr=>(M.pure r:M (Ea)))>>=f).wp h Q:=by
 refine KR (Kw (λh1 e1 hs1 g1=>KR (ZH hc (KR (stR g1 (by rw [hc];exact Ee 4) ‹_› (λh2 u2 g2=>KR ?_))))))
 rw [KW (cs:=vz) (vs:=cs.toList) (by rw [Ep,hc];rfl)]at g2
 exact ldR g2 hc (KZ (H _ (e1.upd u2 (Ee _))))
theorem KVc {β:Type} {h:Heap} {Q:β->Heap->Prop} {n:Int} {f:Ea->M β} (H:∀h',Ext h h'->(f (ZK 1 n [] Sl.nil)).wp h' Q):(KBN n>>=f).wp h Q:=KQk (cs:=ZK 1 n [] Sl.nil) rfl (ZF _ _ _ _) H
theorem KVd {β:Type} {h:Heap} {Q:β->Heap->Prop} {s:Eb} {f:Ea->M β} (H:∀h',Ext h h'->(f (ZK 2 0 s Sl.nil)).wp h' Q):(KBO (bs s)>>=f).wp h Q:=KQk (cs:=ZK 2 0 s Sl.nil) rfl (ZF _ _ _ _) H
theorem KOI {β:Type} {h:Heap} {Q:β->Heap->Prop} {c:Bool} {f:Ea->M β} (H:∀h',Ext h h'->(f (ZK 3 (if c=true then 1 else 0) [] Sl.nil)).wp h' Q):(GY c>>=f).wp h Q:=by
 unfold GY
 refine KR (Kw (λh1 e1 hs1 g1=>KR (Kw (λh2 e2 hs2 g2=>KR (ZH rfl (KR (stR (cs:=vz) (vs:=ZK 3 0 [] Sl.nil) g2 (Ee 4) (ZF _ _ _ _) (λh3 u3 g3=>?_))))))))
 rw [KW (cs:=vz) (vs:=(ZK 3 0 [] Sl.nil).toList) rfl]at g3
 have key:∀(n:Int) (h4:Heap),Upd h1.size h2 h4->h4[h1.size]?=some (.cells (ZK 3 n [] Sl.nil) KB (0,0))->(∀h',Ext h h'->(f (ZK 3 n [] Sl.nil)).wp h' Q)->(X9 ⟨h.size,0,none⟩ ⟨h1.size,0,none⟩>>=f).wp h4 Q:=by
  intro n h4 u4 g4 HH
  unfold X9
  have g1':h4[h.size]?=some (.cells vz KB (0,0)):=(u4.ne _ (by omega)).trans (e2.blk g1)
  refine KR (ldR g4 rfl (KR (ZH rfl (KR (stR g1' (Ee 4) (ZF _ _ _ _) (λh5 u5 g5=>KR ?_))))))
  rw [KW (cs:=vz) (vs:=(ZK 3 n [] Sl.nil).toList) rfl]at g5
  refine ldR g5 rfl (KZ (HH _ ?_))
  have a4:Ext h h4:=(e1.trans e2).upd u4 (by omega)
  exact a4.upd u5 (Ee _)
 refine KJF (λhc=>?_) (λhc=>?_)
 ·subst hc
  refine KR (qF (x:=.int .i64 0) (by rw [KM,KF g3];rfl) (by rw [KM];exact Kv g3) rfl ?_)
  rw [KM,EC]
  exact key 1 _ (u3.trans (Upd.hset _ _ _ _)) (J8 g3) H
 ·subst hc
  exact key 0 _ u3 g3 H
def KY2 (s:Eb) (d:Nat):Prop:=∀(i:Nat) (h:Heap) (Q:Value⊕Ea->Heap->Prop) (b:Nat),Rd h b s i->ErrV h->b≠gER->
 (∀v j h' c,pval s d i=.ok (v,j)->Kb b h h'->Rd h' b s j->Zg (HS h h') h' v c->Q (.inr c) h')->
 (∀e h',pval s d i=.error e->Kb b h h'->Q (.inl (KBY e)) h')->(VV (some ⟨b,0,none⟩) ((9 - d:Nat):Int)).wp h Q
theorem KMq {s:Eb} {d:Nat} (hd:d<=8) (IH:KY2 s d) {en:UInt8} (hen:en≠0) {two:Bool} {i:Nat} {h:Heap} {Q:Value⊕Sl->Heap->Prop} {b:Nat} (R:Rd h b s i) (hi:i<s.length) (he:ErrV h) (hb:b≠gER)
  (H1:∀l j h' r,Vc (pval s d) en two s (s.length - i) [] (i+1)=.ok (l,j)->Kb b h h'->Rd h' b s j->VsRepS (HS h h') h' r l->Q (.inr r) h')
  (H2:∀e h',Vc (pval s d) en two s (s.length - i) [] (i+1)=.error e->Kb b h h'->Q (.inl (KBY e)) h'):
  (Ge (some ⟨b,0,none⟩) ((8 - d:Nat):Int) (en.toNat:Int) (if two=true then 2 else 1)).wp h Q:=by
 unfold Ge
 have hP:=KLG s d
 refine KIZ R hi (λh1 u1 R1=>?_)
 have K1:Kb b h h1:=Km.upd u1 rfl
 have hs1:=u1.size
 have hb1:=R1.lt
 refine M.loop_inv (λ(x:Sl) hh=>∃(l:List Vl) (css:List (Ea)) (f i':Nat),s.length<f+i'/\l.length<=i'/\Kb b h1 hh/\Rd hh b s i'/\VGw h1.size (λk=>h1.size<=k/\k<hh.size/\¬Sl.on x k) hh x css l/\Vc (pval s d) en two s f l i'=Vc (pval s d) en two s (s.length - i) [] (i+1))
  (λx _=>s.length+1 - x.len) ?_ ⟨[],[],_,i+1,by omega,El _,Km.refl _ _,R1,VGw.nil _ _ _,rfl⟩
 rintro x hh ⟨l,css,f,i',hf,hli,K,R',G,hm⟩ self hself
 have hsm:=R'.small
 have hle:=R'.le
 have hxl:x.len=l.length:=by rw [G.gw.len4 G.w4,G.len]
 obtain⟨f,rfl⟩:∃g,f=g+1:=⟨f - 1,by omega⟩
 rw [Vc]at hm
 have hKs:=K.size
 unfold Y8
 refine KD (Wy R' ?_)
 rw [show(((KI s i').toNat:Int) !=(en.toNat:Int))=!decide (KI s i'=en) by rw [<-u8_c (d:=en) (n:=(en.toNat:Int)) rfl];rfl]
 refine KH (λhne=>?_) (λheq=>?_)
 ·have hne:KI s i'≠en:=by simpa using hne
  rw [if_neg hne]at hm
  have test:∀(l2:List Vl) (css2:List (Ea)) (i2:Nat) (h2:Heap) (x2:Sl),i'<i2->l.length<l2.length->l2.length<=i2->Kb b h1 h2->Rd h2 b s i2->VGw h1.size (λk=>h1.size<=k/\k<h2.size/\¬Sl.on x2 k) h2 x2 css2 l2->
    (if KI s i2≠en/\KI s i2≠44 then .error i2 else Vc (pval s d) en two s f l2 i2)=Vc (pval s d) en two s (s.length - i) [] (i+1)->(US self (some ⟨b,0,none⟩) (en.toNat:Int) x2).wp h2 Q:=by
   intro l2 css2 i2 h2 x2 hi2 hl2 hli2 K2 R2 G2 hm2
   unfold US
   refine KD (Wy R2 ?_)
   rw [show(((KI s i2).toNat:Int) !=(en.toNat:Int))=!decide (KI s i2=en) by rw [<-u8_c (d:=en) (n:=(en.toNat:Int)) rfl];rfl]
   refine Jp (c:=!decide (KI s i2=44)) (λ_ Q' hq=>KA ?_) ?_
   ·rw [show(((KI s i2).toNat:Int) !=44)=!decide (KI s i2=44) by rw [<-u8_c (d:=44) (n:=44) rfl];rfl]
    exact hq
   ·refine KH (λhbad=>?_) (λhok=>?_)
    ·have hbad:KI s i2≠en/\KI s i2≠44:=by simpa using hbad
     rw [if_pos hbad]at hm2
     exact XI R2 (H2 _ _ hm2.symm (K1.trans K2))
    ·have hok:¬(KI s i2≠en/\KI s i2≠44):=by
      intro hh2
      rw [Eo hh2.1,Eo hh2.2]at hok
      cases hok
     rw [if_neg hok]at hm2
     have hx2:x2.len=l2.length:=by rw [G2.gw.len4 G2.w4,G2.len]
     have:=R2.le
     exact hself _ _ ⟨l2,css2,f,i2,by omega,hli2,K2,R2,G2,hm2⟩ (by omega)
  have one_:∀{l2:List Vl} {css2:List (Ea)} {i2:Nat} {h2:Heap} {x2:Sl} {Qs:Value⊕Sl->Heap->Prop} {F:Sl->M (Value⊕Sl)},l2.length<=i2->Kb b h1 h2->Rd h2 b s i2->VGw h1.size (λk=>h1.size<=k/\k<h2.size/\¬Sl.on x2 k) h2 x2 css2 l2->
    (∀v j h3 x3 css3,pval s d i2=.ok (v,j)->Kb b h1 h3->Rd h3 b s j->VGw h1.size (λk=>h1.size<=k/\k<h3.size/\¬Sl.on x3 k) h3 x3 css3 (l2++[v])->(F x3).wp h3 Qs)->
    (∀e h3,pval s d i2=.error e->Kb b h1 h3->Qs (.inl (KBY e)) h3)->
    (thr (Gr Tryz.prog Js #[.pointer (some ⟨b,0,none⟩),.int .i64 (IntKind.wrap .i64 (((8 - d:Nat):Int)+1))] (λr:Ea=>.agg r)) λXx24=>
     (Xs 4 1 (#[.int .i64 0,.int .i64 0,.string ByteArray.empty,.slice none 0 0]:Ea) [(0,.agg Xx24)]>>=λy=>bdL KB 1 y>>=λx=>apL KB 4 56 (#[.int .i64 0,.int .i64 0,.string ByteArray.empty,.slice none 0 0]:Ea) x2 x>>=F)).wp h2 Qs:=by
   intro l2 css2 i2 h2 x2 Qs F hli2 K2 R2 G2 HF HE
   have hle2:=R2.le
   rw [w64 (by omega) (by omega),show(((8 - d:Nat):Int)+1)=((9 - d:Nat):Int) by omega]
   have hK2:=K2.size
   refine Zn (KEV (Nl _ _) (IH i2 h2 _ b R2 ((he.km K1 hb).km K2 hb) hb (λv j h3 c hv K3 R3 V3=>?_) (λe h3 hv K3=>HE e h3 hv (K2.trans K3))))
   have hK3:=K3.size
   have G3:VGw h1.size (λk=>h1.size<=k/\k<h3.size/\¬Sl.on x2 k) h3 x2 css2 l2:=
    (G2.same (λk hk=>K3.same k (G2.gw.lt hk).1 (λe=>by have:=(G2.gw.lt hk).2;omega)) (λk hk=>K3.same k hk.2.1 (λe=>by have:=hk.1;omega))).mono (λk hk=>⟨hk.1,by have:=hk.2.1;omega,hk.2.2⟩)
   refine KOH G3 (λk hk=>hk.2) (V3.mono (λk hk=>⟨by have:=hk.1;omega,hk.2,λho=>by have:=(G2.gw.lt ho).1;have:=hk.1;omega⟩)) (by omega) (by omega) (λh4 x4 G4 hs4 same4 on4=>?_)
   refine HF v j h4 x4 _ hv ⟨by omega,λk hk hkb=>(same4 k (by omega) (λho=>by have:=(G2.gw.lt ho).2;omega)).trans ((K2.trans K3).same k hk hkb)⟩ ⟨?_,R3.le,R3.small⟩ (G4.mono (λk hk=>⟨hk.1,by have:=hk.2.1;omega,λho=>(on4 k ho).elim hk.2.2 (λh=>by have:=hk.2.1;omega)⟩))
   rw [same4 b (by omega) (λho=>by have:=(G2.gw.lt ho).2;omega)]
   exact R3.blk
  have body:∀(i1:Nat) (h2:Heap),i'<=i1->Kb b h1 h2->Rd h2 b s i1->VGw h1.size (λk=>h1.size<=k/\k<h2.size/\¬Sl.on x k) h2 x css l->
    (match Ya (pval s d) two s i1 with
     | .error e=>.error e
     | .ok (vs,i2)=>if KI s i2≠en/\KI s i2≠44 then .error i2 else Vc (pval s d) en two s f (l++vs) i2)=Vc (pval s d) en two s (s.length - i) [] (i+1)->
    (UT self (some ⟨b,0,none⟩) ((8 - d:Nat):Int) (en.toNat:Int) (if two=true then 2 else 1) x).wp h2 Q:=by
   intro i1 h2 hi1 K2 R2 G2 hm2
   unfold UT
   refine one_ (by omega) K2 R2 G2 (λv j h3 x3 css3 hv K3 R3 G3=>?_) (λe h3 hv K3=>?_)
   ·have hvj:=hP _ _ _ hv
    cases two with
    |false=>
     refine iteF rfl ?_
     have hpair:Ya (pval s d) false s i1=.ok ([v],j):=by unfold Ya;rw [hv];rfl
     rw [hpair]at hm2
     exact test _ _ j h3 x3 (by omega) (by simp) (by rw [List.length_append,List.length_singleton];omega) K3 R3 G3 hm2
    |true=>
     refine iteT rfl ?_
     refine Zn (NH (lit:=[58,32]) R3 (by decide) (λj2 h4 hj2 K4 R4=>?_) (λe h4 hj2 K4=>?_))
     ·have hj2':j2=j+2:=(Vt hj2).1
      have hK3:=K3.size
      have hK4:=K4.size
      have G4:VGw h1.size (λk=>h1.size<=k/\k<h4.size/\¬Sl.on x3 k) h4 x3 css3 (l++[v]):=
       (G3.same (λk hk=>K4.same k (G3.gw.lt hk).1 (λe=>by have:=(G3.gw.lt hk).2;omega)) (λk hk=>K4.same k hk.2.1 (λe=>by have:=hk.1;omega))).mono (λk hk=>⟨hk.1,by have:=hk.2.1;omega,hk.2.2⟩)
      refine one_ (by rw [List.length_append,List.length_singleton];omega) (K3.trans K4) R4 G4 (λw j3 h5 x5 css5 hw K5 R5 G5=>?_) (λe h5 hw K5=>?_)
      ·have hwj:=hP _ _ _ hw
       have hpair:Ya (pval s d) true s i1=.ok ([v,w],j3):=by unfold Ya;rw [hv];dsimp only;rw [if_pos rfl,hj2];dsimp only;rw [hw]
       rw [hpair]at hm2
       rw [Ek]at G5
       exact test _ _ j3 h5 x5 (by omega) (by simp) (by simp only [List.length_append,Ef,En];omega) K5 R5 G5 hm2
      ·have hpair:Ya (pval s d) true s i1=.error e:=by unfold Ya;rw [hv];dsimp only;rw [if_pos rfl,hj2];dsimp only;rw [hw]
       rw [hpair]at hm2
       exact H2 _ _ hm2.symm (K1.trans K5)
     ·have hpair:Ya (pval s d) true s i1=.error e:=by unfold Ya;rw [hv];dsimp only;rw [if_pos rfl,hj2]
      rw [hpair]at hm2
      exact H2 _ _ hm2.symm (K1.trans (K3.trans K4))
   ·have hpair:Ya (pval s d) two s i1=.error e:=by unfold Ya;rw [hv]
    rw [hpair]at hm2
    exact H2 _ _ hm2.symm (K1.trans K3)
  refine KH (λhpos=>?_) (λhz=>?_)
  ·have hl0:¬l.length=0:=by have:=Ec hpos;omega
   unfold sepP at hm
   rw [if_neg hl0]at hm
   refine Zn (NH (lit:=[44,32]) R' (by decide) (λj h2 hj K2 R2=>?_) (λe h2 hj K2=>?_))
   ·rw [hj]at hm
    have hj':j=i'+2:=(Vt hj).1
    have hK2:=K2.size
    exact body j h2 (by omega) (K.trans K2) R2 ((G.same (λk hk=>K2.same k (G.gw.lt hk).1 (λe=>by have:=(G.gw.lt hk).2;omega)) (λk hk=>K2.same k hk.2.1 (λe=>by have:=hk.1;omega))).mono (λk hk=>⟨hk.1,by have:=hk.2.1;omega,hk.2.2⟩)) hm
   ·rw [hj]at hm
    exact H2 _ _ hm.symm (K1.trans (K.trans K2))
  ·have hl0:l.length=0:=by have:=Ed hz;omega
   unfold sepP at hm
   rw [if_pos hl0]at hm
   exact body i' hh (Ee _) K R' G hm
 ·have heq:KI s i'=en:=by simpa using heq
  rw [if_pos heq]at hm
  have hil:i'<s.length:=JM (by rw [heq];exact hen)
  refine KIZ R' hil (λh2 u2 R2=>KA ?_)
  have hu2:=u2.size
  have G2:=G.same (λk hk=>u2.ne k (λe=>by have:=(G.gw.lt hk).2;omega)) (λk hk=>u2.ne k (λe=>by have:=hk.1;omega))
  refine H1 l (i'+1) h2 x hm.symm (K1.trans (K.trans (Km.upd u2 rfl))) R2 ?_
  refine(G2.rep_ (by omega)).same (λ_ _=>rfl) (λk hk=>?_)
  rcases hk with hk|hk
  ·exact⟨by have:=hk.1;omega,by have:=hk.2.1;omega⟩
  ·have:=G2.gw.lt hk
   exact⟨by omega,by omega⟩
end Gx
