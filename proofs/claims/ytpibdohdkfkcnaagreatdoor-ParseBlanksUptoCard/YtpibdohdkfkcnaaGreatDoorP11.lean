/- Own proofs: what those Lean programs compute. No condition. -/
import Derived.Test.YtpibdohdkfkcnaaGreatDoorP0
import Derived.Test.YtpibdohdkfkcnaaGreatDoorP1
import Derived.Test.YtpibdohdkfkcnaaGreatDoorP2
import Derived.Test.YtpibdohdkfkcnaaGreatDoorP3
import Derived.Test.YtpibdohdkfkcnaaGreatDoorP4
import Derived.Test.YtpibdohdkfkcnaaGreatDoorP5
import Derived.Test.YtpibdohdkfkcnaaGreatDoorP6
import Derived.Test.YtpibdohdkfkcnaaGreatDoorP7
import Derived.Test.YtpibdohdkfkcnaaGreatDoorP8
import Derived.Test.YtpibdohdkfkcnaaGreatDoorP9
import Derived.Test.YtpibdohdkfkcnaaGreatDoorP10
import Derived.Test.YtpibdohdkfkcnaaGreatDoorTie
import Derived.KernelRfl
import Derived.ChangeArms
import Derived.DataReads
import Derived.WalkKit
import Derived.ProofKit
import Derived.OpenShut
import Derived.ShutString
import Derived.ChangeOld
import Derived.Below
import Derived.SizedLaws
import Derived.Lib.SmallJoins
import Derived.Deep.DeepHandedRow
import Derived.Lib.LaidTab
import Derived.JoinedCond
import Derived.SevenTiedAt
set_option linter.unusedVariables false
set_option linter.unusedSimpArgs false
set_option maxRecDepth 100000
open Go.Proofs
namespace Gx
open Go
def stC (op:Int) (x1 x2 x3 x4 x5:Sl):Ea:=#[.int .i64 op,x1.v,x2.v,x3.v,x4.v,x5.v]
theorem KP6 {op:Int}:stWd op=[]↔¬(1<=op/\op<=60):=by
 constructor
 ·rintro h ⟨h1,h2⟩
  have:=(KLf h1 h2).1
  rw [h]at this
  cases this
 ·intro h
  unfold stWd KI3
  rw [KNM,if_pos (by omega)]
theorem KI8 {α:Type} {p:α->Bool} {l:List α} {k:Nat} (hk:k<l.length) (h:p l[k]=false):l.all p=false:=by
 rw [List.all_eq_false]
 exact⟨l[k],EJ _,by rw [h];decide⟩
theorem KLn {α:Type} {p:α->Bool} {l:List α} {k:Nat} (hk:k<l.length) (h:(l.take k).all p=true) (h2:p l[k]=true):(l.take (k+1)).all p=true:=by
 rw [Et hk,F1,h]
 simpa using h2
theorem KUw {S:Nat->Prop} {b:Nat} {op:Int} {x1 x2 x3 x4 x5:Sl} {ps:List (Int×List Vl)} {vs:List Vl} {h:Heap} {Q:Bool->Heap->Prop} (hS:∀k,S k->k<h.size) (g:h[b]?=some (.cells (stC op x1 x2 x3 x4 x5) KU (0,0))) (R:RowS 2 GI S h x3 ps) (V:VsRep h x4 vs) (hm:ps.length<=1099511627776)
  (H:∀h',Ext h h'->Q (ps.all okP&&vs.all (mayV 8)) h'):(M.loop (WZ ⟨b,0,none⟩) 0).wp h Q:=by
 have hl:=R.len
 refine M.loop_inv (λ(i:Int) hh=>∃k:Nat,i=(k:Int)/\k<=ps.length/\Ext h hh/\(ps.take k).all okP=true) (λi _=>ps.length - i.toNat) ?_ ⟨0,rfl,El _,Ext.refl _,rfl⟩
 rintro i hh ⟨k,rfl,hk,E,ha⟩ self hself
 unfold WZ
 have l3:KJ hh (Addr.add ⟨b,0,none⟩ 3)=some x3.v:=by rw [KM,KF (E.blk g)];rfl
 have l4:KJ hh (Addr.add ⟨b,0,none⟩ 4)=some x4.v:=by rw [KM,KF (E.blk g)];rfl
 refine Kn l3 (KH (λhlt=>?_) (λhge=>?_))
 ·have hlt:k<ps.length:=by have:=Ec hlt;omega
  refine Kn l3 (UZ (Ky JY hS R E) hlt rfl (λa c _ hs hc hv=>YF hs hc (KD (KQ1 hv (λh1 e1=>?_)))))
  refine KH (λhb=>KA ?_) (λhb=>?_)
  ·have:=H _ (E.trans e1)
   rw [KI8 hlt (by simpa using hb)]at this
   exact this
  ·rw [w64 (by omega) (by omega)]
   exact hself _ _ ⟨k+1,by push_cast;rfl,hlt,E.trans e1,KLn hlt ha (by simpa using hb)⟩ (by omega)
 ·have:k=ps.length:=by have:=Ed hge;omega
  subst this
  rw [ER]at ha
  refine Kn l4 (KD (KG4 (V.ext E) (λh1 e1=>KA ?_)))
  have:=H _ (E.trans e1)
  rw [ha]at this
  exact this
theorem KUx {S:Nat->Prop} {b:Nat} {op:Int} {x1 x2 x3 x4 x5:Sl} {us:List Int} {ps:List (Int×List Vl)} {vs:List Vl} {h:Heap} {Q:Bool->Heap->Prop} (hS:∀k,S k->k<h.size) (g:h[b]?=some (.cells (stC op x1 x2 x3 x4 x5) KU (0,0))) (R2:RowS 1 KAD S h x2 us) (R:RowS 2 GI S h x3 ps) (V:VsRep h x4 vs) (hu:us.length<=1099511627776) (hm:ps.length<=1099511627776)
  (H:∀h',Ext h h'->Q (us.all numB&&(ps.all okP&&vs.all (mayV 8))) h'):(M.loop (Wa ⟨b,0,none⟩) 0).wp h Q:=by
 have hl:=R2.len
 refine M.loop_inv (λ(i:Int) hh=>∃k:Nat,i=(k:Int)/\k<=us.length/\Ext h hh/\(us.take k).all numB=true) (λi _=>us.length - i.toNat) ?_ ⟨0,rfl,El _,Ext.refl _,rfl⟩
 rintro i hh ⟨k,rfl,hk,E,ha⟩ self hself
 unfold Wa
 have l2:KJ hh (Addr.add ⟨b,0,none⟩ 2)=some x2.v:=by rw [KM,KF (E.blk g)];rfl
 refine Kn l2 (KH (λhlt=>?_) (λhge=>?_))
 ·have hlt:k<us.length:=by have:=Ec hlt;omega
  refine Kn l2 (UZ (Ky Jq hS R2 E) hlt rfl (λa c _ hs hc hv=>?_))
  obtain⟨rfl,hI⟩:=hv
  have c0:KJ hh a=some (.int .i64 us[k]):=by have:=hc 0 (by decide);rw [add_zero]at this;exact this
  refine KV c0 ?_
  refine or_b (c:=decide (us[k]>9007199254740992)) (λ_ Q' hq=>Kn l2 (UZ (Ky Jq hS R2 E) hlt rfl (λa c _ hs hc hv=>?_))) ?_
  ·obtain⟨rfl,hI⟩:=hv
   refine KV (n:=us[k]) (by have:=hc 0 (by decide);rw [add_zero]at this;exact this) (KA hq)
  ·rw [<-Fe]
   refine KH (λhb=>KA ?_) (λhb=>?_)
   ·have hb:=Ec hb
    have:=H _ E
    rw [KI8 hlt (by unfold numB;rw [<-IU];simp only [Eg,EN];omega)]at this
    exact this
   ·have hb:=Ed hb
    rw [w64 (by omega) (by omega)]
    exact hself _ _ ⟨k+1,by push_cast;rfl,hlt,E,KLn hlt ha (by unfold numB;simp only [Eg,EN];omega)⟩ (by omega)
 ·have:k=us.length:=by have:=Ed hge;omega
  subst this
  rw [ER]at ha
  refine KUw (λk hk=>Ez (hS k hk) E.size) (E.blk g) (Ky JY hS R E) (V.ext E) hm (λh1 e1=>?_)
  have:=H _ (E.trans e1)
  rw [ha]at this
  exact this
theorem KUy {S:Nat->Prop} {b:Nat} {op:Int} {x1 x2 x3 x4 x5:Sl} {ns:List (Eb)} {us:List Int} {ps:List (Int×List Vl)} {vs:List Vl} {h:Heap} {Q:Bool->Heap->Prop} (hS:∀k,S k->k<h.size) (g:h[b]?=some (.cells (stC op x1 x2 x3 x4 x5) KU (0,0))) (R1:RowS 1 zQ S h x1 ns) (R2:RowS 1 KAD S h x2 us) (R:RowS 2 GI S h x3 ps) (V:VsRep h x4 vs) (hn:ns.length<=1099511627776) (hu:us.length<=1099511627776) (hm:ps.length<=1099511627776)
  (H:∀h',Ext h h'->Q (ns.all Gf&&(us.all numB&&(ps.all okP&&vs.all (mayV 8)))) h'):(M.loop (Wb ⟨b,0,none⟩) 0).wp h Q:=by
 have hl:=R1.len
 refine M.loop_inv (λ(i:Int) hh=>∃k:Nat,i=(k:Int)/\k<=ns.length/\Ext h hh/\(ns.take k).all Gf=true) (λi _=>ns.length - i.toNat) ?_ ⟨0,rfl,El _,Ext.refl _,rfl⟩
 rintro i hh ⟨k,rfl,hk,E,ha⟩ self hself
 unfold Wb
 have l1:KJ hh (Addr.add ⟨b,0,none⟩ 1)=some x1.v:=by rw [KM,KF (E.blk g)];rfl
 refine Kn l1 (KH (λhlt=>?_) (λhge=>?_))
 ·have hlt:k<ns.length:=by have:=Ec hlt;omega
  refine Kn l1 (UZ (Ky Z0 hS R1 E) hlt rfl (λa c _ hs hc hv=>?_))
  have hv:c=#[sv ns[k]]:=hv
  subst hv
  refine WO (n:=bs ns[k]) (by have:=hc 0 (by decide);rw [add_zero]at this;exact this) (KD (KJz ?_))
  refine KH (λhb=>KA ?_) (λhb=>?_)
  ·have:=H _ E
   rw [KI8 hlt (by simpa using hb)]at this
   exact this
  ·rw [w64 (by omega) (by omega)]
   exact hself _ _ ⟨k+1,by push_cast;rfl,hlt,E,KLn hlt ha (by simpa using hb)⟩ (by omega)
 ·have:k=ns.length:=by have:=Ed hge;omega
  subst this
  rw [ER]at ha
  refine KUx (λk hk=>Ez (hS k hk) E.size) (E.blk g) (Ky Jq hS R2 E) (Ky JY hS R E) (V.ext E) hu hm (λh1 e1=>?_)
  have:=H _ (E.trans e1)
  rw [ha]at this
  exact this
theorem KLo {op:Int} {x1 x2 x3 x4 x5:Sl}:∀u∈(stC op x1 x2 x3 x4 x5).toList,one u=true:=KHb
theorem KQ2 {S:Nat->Prop} {op:Int} {ns:List (Eb)} {us:List Int} {ps:List (Int×List Vl)} {vs:List Vl} {ss:List (List St)} {c:Ea} {h:Heap} {Q:Bool->Heap->Prop} (hS:∀k,S k->k<h.size) (R:WR S h (.mk op ns us ps vs ss) c) (hw:swS (.mk op ns us ps vs ss)<=1099511627776)
  (H:∀h',Ext h h'->Q (okA op ns us ps vs ss.length) h'):(VB c).wp h Q:=by
 obtain⟨x1,x2,x3,x4,x5,rfl,hI,r1,r2,r3,r4,r5⟩:=WR.eq.1 R
 have lens:ns.length<=1099511627776/\us.length<=1099511627776/\ps.length<=1099511627776:=by
  have a1:∀l:List (Eb),l.length<=(l.map (λs=>s.length+1)).sum:=λl=>by
   induction l with
   |nil=>exact El _
   |cons a l ih=>simp only [Er,Ft,Ef];omega
  have a3:∀l:List (Int×List Vl),l.length<=(l.map (λp=>wt.wts p.2+1)).sum:=λl=>by
   induction l with
   |nil=>exact El _
   |cons a l ih=>simp only [Er,Ft,Ef];omega
  rw [swS]at hw
  have:=a1 ns
  have:=a3 ps
  omega
 unfold VB
 refine Kw (λh1 e1 s1 g1=>?_)
 have g1:h1[h.size]?=some (.cells (stC op x1 x2 x3 x4 x5) KU (0,0)):=g1
 have no:∀{hh:Heap},Ext h hh->¬OkA op ns us ps vs ss.length->Q false hh:=λE hn=>by
  have:=H _ E
  have he:okA op ns us ps vs ss.length=false:=by
   rw [<-IU,KI4];exact hn
  rw [he]at this
  exact this
 have l0:KJ h1 (Addr.add ⟨h.size,0,none⟩ 0)=some (.int .i64 op):=by rw [KM,KF g1];rfl
 refine KV l0 (KD (KKI (λh2 e2=>?_)))
 have E2:=e1.trans e2
 rw [KO9,KC4]
 refine KH (λhc=>KA (no E2 (λok=>KP6.1 (Ec hc) ⟨ok.op1,ok.op2⟩))) (λhc=>?_)
 have hop:1<=op/\op<=60:=EM (λhn=>Ed hc (KP6.2 hn))
 refine KV (by rw [KM,KF (e2.blk g1)];rfl) (KD (KOi (λh3 e3=>?_)))
 refine Kw (λh4 e4 s4 g4=>ZH rfl (stR g4 (by simp [shp9]) (KNb _) (λh5 u5 g5=>?_)))
 have e35:Ext h3 h5:=e4.upd u5 (Ee _)
 have E5:=E2.trans (e3.trans e35)
 have g5:h5[h3.size]?=some (.cells (shp9 (Kz op)) Yj (0,0)):=by
  have e:lay (Array.replicate 9 (.int .i64 0):Ea) 0 (shp9 (Kz op)).toList=shp9 (Kz op):=KW (by simp [shp9])
  rw [<-e];exact g5
 have k1:=e35.blk (e3.blk (e2.blk g1))
 have ln:∀{i:Nat} {x:Sl},(stC op x1 x2 x3 x4 x5)[i]?=some x.v->KJ h5 (Addr.add ⟨h.size,0,none⟩ i)=some x.v:=λ{i x} hx=>by rw [KM,KF k1,EC];exact hx
 have sh:∀{i:Nat} {n:Int},(shp9 (Kz op))[i]?=some (.int .i64 n)->KJ h5 (Addr.add ⟨h3.size,0,none⟩ i)=some (.int .i64 n):=λ{i n} hx=>by rw [KM,KF g5,EC];exact hx
 have n1:=r1.len
 have n2:=r2.len
 have n3:=r3.len
 have n4:=r4.len
 have n5:=r5.len
 refine Kn (ln (i:=1) rfl) (KV (sh (i:=0) rfl) (KV (sh (i:=1) rfl) (KD (KAd ?_))))
 refine or_b (c:=!(decide (((Kz op).u.1:Int)<=(x2.len:Int))&&decide ((x2.len:Int)<=((Kz op).u.2:Int)))) (λ_ Q' hq=>Kn (ln (i:=2) rfl) (KV (sh (i:=2) rfl) (KV (sh (i:=3) rfl) (KD (KAd (KA hq)))))) ?_
 refine or_b (c:=((x3.len:Int) !=((Kz op).p.1:Int))) (λ_ Q' hq=>Kn (ln (i:=3) rfl) (KV (sh (i:=4) rfl) (KA hq))) ?_
 refine or_b (c:=!(decide (((Kz op).v.1:Int)<=(x4.len:Int))&&decide ((x4.len:Int)<=((Kz op).v.2:Int)))) (λ_ Q' hq=>Kn (ln (i:=4) rfl) (KV (sh (i:=5) rfl) (KV (sh (i:=6) rfl) (KD (KAd (KA hq)))))) ?_
 refine or_b (c:=!(decide (((Kz op).s.1:Int)<=(x5.len:Int))&&decide ((x5.len:Int)<=((Kz op).s.2:Int)))) (λ_ Q' hq=>Kn (ln (i:=5) rfl) (KV (sh (i:=7) rfl) (KV (sh (i:=8) rfl) (KD (KAd (KA hq)))))) ?_
 have hp12:(Kz op).p.1=(Kz op).p.2:=(Ec (KNX op)).2.2.1
 refine KH (λhb=>KA (no E5 (λok=>?_))) (λhb=>?_)
 ·have k1:=ok.n
  have k2:=ok.u
  have k3:=ok.p
  have k4:=ok.v
  have k5:=ok.s
  rw [neI]at hb
  simp only [EO,FJ,It,EQ,EN]at hb
  omega
 ·rw [neI]at hb
  simp only [Ff,Bool.not_eq_false',Eg,EQ,EN]at hb
  refine KUy (λk hk=>Ez (hS k hk) E5.size) k1 (Ky Z0 hS r1 E5) (Ky Jq hS r2 E5) (Ky JY hS r3 E5) (r4.to.ext E5) lens.1 lens.2.1 lens.2.2 (λh6 e6=>?_)
  have:=H _ (E5.trans e6)
  have he:okA op ns us ps vs ss.length=(ns.all Gf&&(us.all numB&&(ps.all okP&&vs.all (mayV 8)))):=by
   unfold okA KJd
   rw [Ej hop.1,Ej hop.2,Ej (show(Kz op).n.1<=ns.length by omega),Ej (show ns.length<=(Kz op).n.2 by omega),Ej (show(Kz op).u.1<=us.length by omega),Ej (show us.length<=(Kz op).u.2 by omega),Ej (show(Kz op).p.1<=ps.length by omega),Ej (show ps.length<=(Kz op).p.2 by omega),Ej (show(Kz op).v.1<=vs.length by omega),Ej (show vs.length<=(Kz op).v.2 by omega),Ej (show(Kz op).s.1<=ss.length by omega),Ej (show ss.length<=(Kz op).s.2 by omega)]
   simp only [E9,Ol]
  rw [he]at this
  exact this
end Gx
namespace Gx
open Go
def St.op:St->Int
 | .mk op _ _ _ _ _=>op
def St.ns:St->List (Eb)
 | .mk _ ns _ _ _ _=>ns
def St.us:St->List Int
 | .mk _ _ us _ _ _=>us
def St.ps:St->List (Int×List Vl)
 | .mk _ _ _ ps _ _=>ps
def St.vs:St->List Vl
 | .mk _ _ _ _ vs _=>vs
def St.ss:St->List (List St)
 | .mk _ _ _ _ _ ss=>ss
theorem KP7 (s:St):gdS s=(okA s.op s.ns s.us s.ps s.vs s.ss.length&&gdSs s.ss):=by cases s;rw [gdS];rfl
theorem KXf (s:St):cntS s=1+NZ s.ss:=by cases s;rw [cntS];rfl
theorem KZV (s:St):dpS s=dpSs s.ss:=by cases s;rw [dpS];rfl
theorem KP8 {l:List St} {s:St} {r:List St} (hs:s∈l) (hr:r∈s.ss):sizeOf r<sizeOf l:=by
 have h1:=FF hs
 have h2:=FF hr
 cases s with
 |mk op ns us ps vs ss=>
  have h3:sizeOf ss<sizeOf (St.mk op ns us ps vs ss):=by rw [St.mk.sizeOf_spec];omega
  have h2:sizeOf r<sizeOf ss:=h2
  omega
mutual
theorem KXg:∀s:St,cntS s<=swS s
 | .mk op ns us ps vs ss=>by have:=KLq ss;rw [cntS,swS];omega
theorem KLp:∀l:List St,cntL l<=swL l
 | []=>by rw [cntL,swL];exact Ee _
 |s::l=>by have:=KXg s;have:=KLp l;rw [cntL,swL];omega
theorem KLq:∀r:List (List St),NZ r<=swSs r
 | []=>by rw [NZ,swSs];exact Ee _
 |l::r=>by have:=KLp l;have:=KLq r;rw [NZ,swSs];omega
end
theorem KI9:∀l:List St,l.length<=swL l
 | []=>El _
 |s::l=>by
  have:=KI9 l
  have:1<=swS s:=by cases s;rw [swS];omega
  rw [swL,Ef];omega
theorem KFz:∀l:List (List St),l.length<=swSs l
 | []=>El _
 |s::l=>by have:=KFz l;rw [swSs,Ef];omega
theorem KGo:∀{l:List St} {s:St},s∈l->swS s<=swL l
 | [],_,h=>by cases h
 |a::l,s,h=>by
  rw [swL]
  rcases ED.1 h with rfl|h
  ·omega
  ·have:=KGo h;omega
theorem KHg:∀{r:List (List St)} {l:List St},l∈r->swL l+1<=swSs r
 | [],_,h=>by cases h
 |a::l,s,h=>by
  rw [swSs]
  rcases ED.1 h with rfl|h
  ·omega
  ·have:=KHg h;omega
theorem KS9 (s:St):swSs s.ss+1<=swS s:=by
 cases s with
 |mk op ns us ps vs ss=>
  rw [swS]
  show swSs ss+1<=_
  omega
theorem KV1 {l:List St} {s:St} {r:List St} (hs:s∈l) (hr:r∈s.ss):swL r+2<=swL l:=by
 have h1:=KGo hs
 have h2:=KHg hr
 have h3:=KS9 s
 omega
def cntR (l:List St) (deep:Nat):Int×Int×Bool:=if(!l.isEmpty&&gdL l)=true then((cntL l:Int),((deep+dpL l:Nat):Int),true)else(0,0,false)
theorem KUz (a b:Nat):iMax (a:Int) (b:Int)=((max a b:Nat):Int):=by unfold iMax;split<;>omega
theorem KU0 {l:List St} {k:Nat} (hk:k<l.length) (h:gdL (l.take k)=true) (h2:gdS l[k]=true):gdL (l.take (k+1))=true:=by
 rw [Et hk,KS4,h,h2];rfl
theorem KTA {l:List St} {deep:Nat} {s:St} (hs:s∈l) (h:gdS s=false):cntR l deep=(0,0,false):=by
 unfold cntR
 rw [if_neg]
 rw [Eg]
 rintro⟨_,hg⟩
 rw [KLj hg s hs]at h
 cases h
theorem KZW {s:St} {r:List St} (hr:r∈s.ss) (h:(!r.isEmpty&&gdL r)=false):gdS s=false:=by
 rw [KP7,It]
 right
 rw [<-IU]
 intro hg
 obtain⟨h1,h2⟩:=KHe hg r hr
 rw [h2]at h
 cases r with
 |nil=>exact h1 rfl
 |cons a r=>cases h
theorem WR.ex {S:Nat->Prop} {h:Heap} {s:St} {c:Ea} (R:WR S h s c):∃x1 x2 x3 x4 x5:Sl,c=stC s.op x1 x2 x3 x4 x5/\I64 s.op/\RowS 1 zQ S h x1 s.ns/\RowS 1 KAD S h x2 s.us/\RowS 2 GI S h x3 s.ps/\VsRepS S h x4 s.vs/\RowS 1 KAE S h x5 s.ss:=by
 cases s
 exact WR.eq.1 R
theorem KOj {S:Nat->Prop}:∀(m:Nat) (l:List St) {x:Sl} {deep:Nat} {h:Heap} {Q:Int×Int×Bool->Heap->Prop},sizeOf l<m->(∀k,S k->k<h.size)->YE S h x l->swL l+deep<=1099511627776->(∀h',Ext h h'->Q (cntR l deep) h')->(WE x (deep:Int)).wp h Q:=by
 intro m
 induction m with
 |zero=>intro l _ _ _ _ hm;omega
 |succ m ih=>
  intro l x deep h Q hm hS R hw H
  have hl:=R.len
  have hll:=KI9 l
  unfold WE
  rw [eqI]
  refine KH (λh0=>KA ?_) (λh0=>?_)
  ·have h0:l=[]:=E8.1 (by have:=Ec h0;omega)
   subst h0
   exact H h (Ext.refl _)
  have hne:l≠[]:=λe=>by subst e;exact Ed h0 (by rw [hl];rfl)
  refine M.loop_inv (λ(s:Int×Int×Int) hh=>∃k:Nat,s=((cntL (l.take k):Int),((deep+dpL (l.take k):Nat):Int),(k:Int))/\k<=l.length/\Ext h hh/\gdL (l.take k)=true) (λs _=>l.length - s.2.2.toNat) ?_ ⟨0,rfl,El _,Ext.refl _,rfl⟩
  rintro s hh ⟨k,rfl,hk,E,hg⟩ self hself
  unfold Yw
  refine KH (λhlt=>?_) (λhge=>?_)
  ·have hlt:k<l.length:=by have:=Ec hlt;omega
   have hmem:l[k]∈l:=EJ hlt
   have hct:cntL (l.take (k+1))=cntL (l.take k)+cntS l[k]:=by rw [Et hlt,KP1]
   have hdp:dpL (l.take (k+1))=max (dpL (l.take k)) (dpS l[k]):=by rw [Et hlt,KS5]
   have hcle:∀q,cntL (l.take q)<=swL l:=λq=>by
    refine Fb (KLp _) ?_
    clear hct hdp hmem hlt hg hk hself H hne h0 hll hl hw R hS hm
    induction l generalizing q with
    |nil=>simp
    |cons a l ih'=>
     cases q with
     |zero=>exact El _
     |succ q=>rw [Fq,swL,swL];have:=ih' q;omega
   have hsw:=KGo hmem
   refine UZ (Ky Vd hS R E) hlt rfl (λa c _ hs hc hv=>YF hs hc (KD ?_))
   have hSh:∀k,S k->k<hh.size:=λk hk=>Ez (hS k hk) E.size
   have hstep:∀Q':Bool->Heap->Prop,(∀h',Ext hh h'->Q' (okA l[k].op l[k].ns l[k].us l[k].ps l[k].vs l[k].ss.length) h')->(VB c).wp hh Q':=λQ' HQ=>by
    cases hk:l[k]with
    |mk op ns us ps vs ss=>
     rw [hk]at hv hsw HQ
     exact KQ2 hSh hv (by omega) HQ
   refine hstep _ (λh1 e1=>?_)
   have E1:=E.trans e1
   refine KH (λhb=>KA ?_) (λhb=>?_)
   ·have:=H _ E1
    rw [KTA hmem (by rw [KP7,It];exact .inl (by simpa using hb))]at this
    exact this
   ·have hok:okA l[k].op l[k].ns l[k].us l[k].ps l[k].vs l[k].ss.length=true:=by simpa using hb
    have hssl:=KFz l[k].ss
    have hss:=KS9 l[k]
    have hct1:=hcle (k+1)
    have hctk:=hcle k
    rw [KXf]at hct
    rw [KZV]at hdp
    rw [w64 (by omega) (by omega)]
    refine M.loop_inv (λ(s:Int×Int×Int) hh=>∃q:Nat,s=(((cntL (l.take k)+1+NZ (l[k].ss.take q):Nat):Int),((max (deep+dpL (l.take k)) (deep+dpSs (l[k].ss.take q)):Nat):Int),(q:Int))/\q<=l[k].ss.length/\Ext h hh/\gdSs (l[k].ss.take q)=true) (λs _=>l[k].ss.length - s.2.2.toNat) ?_
     ⟨0,by rw [FU,NZ,dpSs];refine Ik (by dsimp only;push_cast;omega) (Ik (by dsimp only;omega) rfl),El _,E1,rfl⟩
    rintro s h2 ⟨q,rfl,hq,E2,hgq⟩ self2 hself2
    unfold Yv
    refine UZ (Ky Vd hS R E2) hlt rfl (λa c _ hs hc hv=>?_)
    obtain⟨x1,x2,x3,x4,x5,rfl,hI,r1,r2,r3,r4,r5⟩:=WR.ex hv
    have n5:=r5.len
    refine Kn (n:=x5) (by rw [hc 5 (by decide)];rfl) (KH (λhlt2=>?_) (λhge2=>?_))
    ·have hlt2:q<l[k].ss.length:=by have:=Ec hlt2;omega
     have hmem2:l[k].ss[q]∈l[k].ss:=EJ hlt2
     have hsub:=KV1 hmem hmem2
     refine UZ (Ky Vd hS R E2) hlt rfl (λa c _ hs hc hv=>?_)
     obtain⟨x1,x2,x3,x4,x5,rfl,hI,r1,r2,r3,r4,r5⟩:=WR.ex hv
     refine Kn (n:=x5) (by rw [hc 5 (by decide)];rfl) (UZ r5 hlt2 rfl (λa c _ hs hc hv=>?_))
     obtain⟨y,rfl,Ry⟩:=hv
     refine Kn (n:=y) (by have:=hc 0 (by decide);rw [add_zero]at this;exact this) (KD (YI (qU y _) ?_))
     rw [w64 (by omega) (by omega),show(deep:Int)+1=((deep+1:Nat):Int) by push_cast;rfl]
     refine ih _ (by have:=KP8 hmem hmem2;omega) (λk hk=>Ez (hS k hk) E2.size) Ry (by omega) (λh3 e3=>?_)
     have E3:=E2.trans e3
     unfold cntR
     by_cases hgd:(!l[k].ss[q].isEmpty&&gdL l[k].ss[q])=true
     ·rw [if_pos hgd]
      have hcs:NZ (l[k].ss.take (q+1))=NZ (l[k].ss.take q)+cntL l[k].ss[q]:=by rw [Et hlt2,KNZ]
      have hds:dpSs (l[k].ss.take (q+1))=max (dpSs (l[k].ss.take q)) (1+dpL l[k].ss[q]):=by rw [Et hlt2,KP0]
      have c1:=KLp l[k].ss[q]
      have c2:NZ (l[k].ss.take q)<=swSs l[k].ss:=by
       refine Fb (KLq _) ?_
       have:∀(r:List (List St)) (q:Nat),swSs (r.take q)<=swSs r:=λr=>by
        induction r with
        |nil=>intro q;simp
        |cons a r ih'=>
         intro q
         cases q with
         |zero=>exact El _
         |succ q=>rw [Fq,swSs,swSs];have:=ih' q;omega
       exact this _ _
      refine iteF rfl ?_
      rw [KUz,w64 (by omega) (by omega),w64 (by omega) (by omega)]
      refine hself2 (_,_,_) _ ⟨q+1,?_,hlt2,E3,?_⟩ (by dsimp only;omega)
      ·rw [hcs,hds]
       refine Ik (by dsimp only;push_cast;omega) (Ik (by dsimp only;omega) (by dsimp only;push_cast;rfl))
      ·rw [Et hlt2,KPz,hgq,hgd];rfl
     ·rw [if_neg hgd]
      refine iteT rfl (KA ?_)
      have:=H _ E3
      rw [KTA hmem (KZW hmem2 (by simpa using hgd))]at this
      exact this
    ·have:q=l[k].ss.length:=by have:=Ed hge2;omega
     subst this
     rw [ER]at hgq⊢
     rw [w64 (by omega) (by omega)]
     refine hself (_,_,_) _ ⟨k+1,?_,hlt,E2,KU0 hlt hg (by rw [KP7,hok,hgq];rfl)⟩ (by dsimp only;omega)
     rw [hct,hdp]
     refine Ik (by dsimp only;push_cast;omega) (Ik (by dsimp only;omega) (by dsimp only;push_cast;rfl))
  ·have:k=l.length:=by have:=Ed hge;omega
   subst this
   rw [ER]at hg⊢
   refine KA ?_
   have:=H _ E
   unfold cntR at this
   rw [if_pos (by rw [hg];cases l with|nil=>exact absurd rfl hne|cons a l=>rfl)]at this
   exact this
def chkL (l:List St):Int:=if(!l.isEmpty&&gdL l)=true then(if 256<cntL l\/8<1+dpL l then 3 else 0)else 161
theorem KNc {l:List St}:chkL l=0↔Goes l:=by
 unfold chkL
 constructor
 ·intro h
  split at h
  ·next hg=>
   rw [Eg]at hg
   split at h
   ·cases h
   ·next hn=>exact⟨λe=>by subst e;exact absurd hg.1 (by decide),hg.2,by omega,by omega⟩
  ·cases h
 ·rintro⟨h1,h2,h3,h4⟩
  rw [if_pos (by rw [h2];cases l with|nil=>exact absurd rfl h1|cons a l=>rfl),if_neg (by omega)]
theorem KTB {l:List St} {h:Heap} {Q:Int->Heap->Prop} (H:Q (chkL l) h):(M.ite (!(cntR l 1).2.2) (M.pure 161) (do
  let Xx9<-M.ite (decide ((cntR l 1).1>256)) (M.pure true) (M.pure (decide ((cntR l 1).2.1>8)))
  M.ite Xx9 (M.pure 3) (M.pure 0)):M Int).wp h Q:=by
 unfold cntR
 unfold chkL at H
 by_cases hg:(!l.isEmpty&&gdL l)=true
 ·rw [if_pos hg]at H⊢
  refine iteF rfl (or_b (c:=decide (((1+dpL l:Nat):Int)>8)) (λ_ Q' hq=>KA hq) ?_)
  rw [<-Fe]
  refine KH (λhc=>KA ?_) (λhc=>KA ?_)
  ·have:=Ec hc
   dsimp only at this
   rw [if_pos (by omega)]at H
   exact H
  ·have:=Ed hc
   dsimp only at this
   rw [if_neg (by omega)]at H
   exact H
 ·rw [if_neg hg]at H⊢
  exact iteT rfl (KA H)
theorem KLr {S:Nat->Prop} {l:List St} {x:Sl} {h:Heap} {Q:Int->Heap->Prop} (hS:∀k,S k->k<h.size) (R:YE S h x l) (hw:swL l<=1099511000000) (H:∀h',Ext h h'->Q (chkL l) h'):(WF x).wp h Q:=by
 unfold WF
 exact KD (KOj (S:=S) _ l (deep:=1) (EH _) hS R (by omega) (λh1 e1=>KTB (H _ e1)))
end Gx
namespace Gx
open Go
theorem KLs (a b:Int):cmpI a b=0↔a=b:=by
 unfold cmpI
 (repeat' split)<;>omega
theorem KHh {x y:Int}:cOr x y=0↔x=0/\y=0:=by
 unfold cOr
 by_cases hx:x=0
 ·rw [if_pos hx];simp [hx]
 ·rw [if_neg hx];simp [hx]
def cmpL {α:Type} (f:α->α->Int):List α->List α->Int
 | [],[]=>0
 | [],_::_=>-1
 |_::_,[]=>1
 |a::l,b::l'=>cOr (f a b) (cmpL f l l')
theorem KOk {α:Type} {f:α->α->Int}:∀{l l':List α},(∀a∈l,∀b∈l',f a b=0↔a=b)->(cmpL f l l'=0↔l=l')
 | [],[],_=>by simp [cmpL]
 | [],_::_,_=>by simp [cmpL]
 |_::_,[],_=>by simp [cmpL]
 |a::l,b::l',h=>by
  rw [cmpL,KHh,h a (by simp) b (by simp),KOk (λx hx y hy=>h x (Ev _ hx) y (Ev _ hy))]
  simp
def cmpU (a b:UInt8):Int:=cmpI (a.toNat:Int) (b.toNat:Int)
theorem KV2:∀s t:Eb,Lib.compareBytes s t=cmpL cmpU s t
 | [],[]=>rfl
 | [],_::_=>rfl
 |_::_,[]=>rfl
 |a::s,b::t=>by
  rw [z6,cmpL,cOr,KV2 s t]
  have:cmpU a b=0↔a=b:=by
   unfold cmpU
   rw [KLs,<-Fg];omega
  by_cases h:a=b
  ·rw [if_pos h,if_pos (this.2 h)]
  ·rw [if_neg h,if_neg (λh'=>h (this.1 h'))];rfl
theorem KXh (a b:UInt8):cmpU a b=0↔a=b:=by
 unfold cmpU
 rw [KLs,<-Fg];omega
theorem KTC:∀l l':List Vl,qj l l'=cmpL cmpV l l'
 | [],[]=>by simp [qj,cmpL]
 | [],_::_=>by simp [qj,cmpL]
 |_::_,[]=>by simp [qj,cmpL]
 |a::l,b::l'=>by rw [qj,cmpL,KTC l l']
theorem KXi (k n k' n':Int) (s s':Eb) (l l':List Vl):cmpV (.mk k n s l) (.mk k' n' s' l')=cOr (cmpI k k') (cOr (cmpI n n') (cOr (cmpL cmpU s s') (cmpL cmpV l l'))):=by
 rw [cmpV,KV2,KTC]
theorem KZX {k n:Int} {s:Eb} {l:List Vl} {m:Nat} {v:Vl} (hm:sizeOf (Vl.mk k n s l)<m+1) (hv:v∈l):sizeOf v<m:=by
 have:=FF hv
 simp only [Vl.mk.sizeOf_spec]at hm
 omega
theorem KU1:∀(m:Nat) (a b:Vl),sizeOf a<m->(cmpV a b=0↔a=b):=by
 intro m
 induction m with
 |zero=>intro a b h;omega
 |succ m ih=>
  rintro⟨k,n,s,l⟩ ⟨k',n',s',l'⟩ hm
  rw [KXi,KHh,KHh,KHh,KLs,KLs,KOk (λa _ b _=>KXh a b),KOk (λa ha b hb=>ih a b (KZX hm ha))]
  simp
theorem KTD (a b:Vl):cmpV a b=0↔a=b:=KU1 _ a b (EH _)
end Gx
namespace Gx
open Go
theorem KGp {α:Type} {l m:List α} {k:Nat} (h1:k<l.length) (h2:k<m.length) (h:l.take k=m.take k) (e:l[k]=m[k]):l.take (k+1)=m.take (k+1):=by
 rw [Et h1,Et h2,h,e]
theorem KBt {α:Type} {l m:List α} (hl:l.length=m.length) (h:l.take l.length=m.take l.length):l=m:=by
 rw [ER]at h
 rw [h,hl,ER]
theorem KKJ {α:Type} {l m:List α} {k:Nat} (h1:k<l.length) (h2:k<m.length) (e:l[k]≠m[k]):¬l=m:=by
 rintro rfl
 exact e rfl
theorem KF0 {x y:Sl} {l m:List Vl} {h:Heap} {Q:Bool->Heap->Prop} (hx:VsRep h x l) (hy:VsRep h y m) (H:∀r h',(r=true↔l=m)->Ext h h'->Q r h'):(Z5 x y).wp h Q:=by
 have lx:=hx.len
 have ly:=hy.len
 have bx:=hx.big
 unfold Z5
 rw [neI]
 refine KH (λhc=>KA (H _ _ ?_ (Ext.refl _))) (λhc=>?_)
 ·have:=Ec hc
  exact⟨λh=>(by cases h),λe=>by subst e;omega⟩
 have hlm:l.length=m.length:=by have:=Ed hc;omega
 refine M.loop_inv (λ(i:Int) hh=>∃k:Nat,i=(k:Int)/\k<=l.length/\Ext h hh/\l.take k=m.take k) (λi _=>l.length - i.toNat) ?_ ⟨0,rfl,El _,Ext.refl _,rfl⟩
 rintro i hh ⟨k,rfl,hk,E,ha⟩ self hself
 unfold W9
 refine KH (λhlt=>?_) (λhge=>?_)
 ·have hlt:k<l.length:=by have:=Ec hlt;omega
  refine KFl (hx.ext E) hlt rfl (λa c hs hc hv=>KFl (hy.ext E) (i:=k) (by omega) rfl (λa2 c2 hs2 hc2 hv2=>YF hs hc (YF hs2 hc2 (KD (KQd hv hv2 (λh1 e1=>?_))))))
  refine KH (λhb=>KA (H _ _ ?_ (E.trans e1))) (λhb=>?_)
  ·have hb:¬cmpV l[k] (m[k]'(by omega))=0:=by simpa using hb
   exact⟨λh=>(by cases h),λe=>absurd e (KKJ hlt (by omega) (λe=>hb ((KTD _ _).2 e)))⟩
  ·have hb:cmpV l[k] (m[k]'(by omega))=0:=by simpa using hb
   rw [w64 (by omega) (by omega)]
   exact hself _ _ ⟨k+1,by push_cast;rfl,hlt,E.trans e1,KGp hlt (by omega) ha ((KTD _ _).1 hb)⟩ (by omega)
 ·have:k=l.length:=by have:=Ed hge;omega
  subst this
  exact KA (H _ _ ⟨λ_=>KBt hlm ha,λ_=>rfl⟩ E)
theorem KOl {S T:Nat->Prop} {x y:Sl} {l m:List (Int×List Vl)} {h:Heap} {Q:Bool->Heap->Prop} (hS:∀k,S k->k<h.size) (hT:∀k,T k->k<h.size) (hx:RowS 2 GI S h x l) (hy:RowS 2 GI T h y m) (hm:l.length<=1099511627776) (H:∀r h',(r=true↔l=m)->Ext h h'->Q r h'):(Wr x y).wp h Q:=by
 have lx:=hx.len
 have ly:=hy.len
 unfold Wr
 rw [neI]
 refine KH (λhc=>KA (H _ _ ?_ (Ext.refl _))) (λhc=>?_)
 ·have:=Ec hc
  exact⟨λh=>(by cases h),λe=>by subst e;omega⟩
 have hlm:l.length=m.length:=by have:=Ed hc;omega
 refine M.loop_inv (λ(i:Int) hh=>∃k:Nat,i=(k:Int)/\k<=l.length/\Ext h hh/\l.take k=m.take k) (λi _=>l.length - i.toNat) ?_ ⟨0,rfl,El _,Ext.refl _,rfl⟩
 rintro i hh ⟨k,rfl,hk,E,ha⟩ self hself
 unfold Xb
 have hX:=Ky JY hS hx E
 have hY:=Ky JY hT hy E
 refine KH (λhlt=>?_) (λhge=>?_)
 ·have hlt:k<l.length:=by have:=Ec hlt;omega
  have hlt2:k<m.length:=by omega
  have no:∀{hh:Heap},Ext h hh->l[k]≠m[k]->Q false hh:=λE hne=>H _ _ ⟨λh=>(by cases h),λe=>absurd e (KKJ hlt hlt2 hne)⟩ E
  refine UZ hX hlt rfl (λa c _ hs hc hv=>UZ hY hlt2 rfl (λa2 c2 _ hs2 hc2 hv2=>?_))
  obtain⟨z,rfl,i1,V1⟩:=hv
  obtain⟨z2,rfl,i2,V2⟩:=hv2
  refine KV (n:=l[k].1) (by rw [hc 0 (by decide)];rfl) (KV (n:=m[k].1) (by rw [hc2 0 (by decide)];rfl) ?_)
  rw [neI]
  unfold Wd
  refine KH (λhb=>?_) (λhb=>?_)
  ·have hb:=Ec hb
   exact iteT rfl (KA (no E (λe=>hb (by rw [e]))))
  ·have hb:l[k].1=m[k].1:=EM (Ed hb)
   refine UZ hX hlt rfl (λa c _ hs hc hv=>UZ hY hlt2 rfl (λa2 c2 _ hs2 hc2 hv2=>?_))
   obtain⟨z,rfl,i1,V1⟩:=hv
   obtain⟨z2,rfl,i2,V2⟩:=hv2
   refine Kn (n:=z) (by rw [hc 1 (by decide)];rfl) (Kn (n:=z2) (by rw [hc2 1 (by decide)];rfl) (KD (KF0 V1.to V2.to (λr h1 hr e1=>?_))))
   refine KH (λhb2=>KA (no (E.trans e1) (λe=>?_))) (λhb2=>?_)
   ·have:=hr.2 (by rw [e])
    rw [this]at hb2
    cases hb2
   ·rw [w64 (by omega) (by omega)]
    refine hself _ _ ⟨k+1,by push_cast;rfl,hlt,E.trans e1,KGp hlt hlt2 ha (Ik hb (hr.1 (by simpa using hb2)))⟩ (by omega)
 ·have:k=l.length:=by have:=Ed hge;omega
  subst this
  exact KA (H _ _ ⟨λ_=>KBt hlm ha,λ_=>rfl⟩ E)
theorem St.ext {s t:St} (h1:s.op=t.op) (h2:s.ns=t.ns) (h3:s.us=t.us) (h4:s.ps=t.ps) (h5:s.vs=t.vs) (h6:s.ss=t.ss):s=t:=by
 cases s;cases t
 cases h1;cases h2;cases h3;cases h4;cases h5;cases h6
 rfl
end Gx
namespace Gx
open Go
theorem KU2 {S:Nat->Prop}:∀(m:Nat) (l:List St) {x:Sl} {deep:Int} {h:Heap} {Q:Bool->Heap->Prop},sizeOf l<m->(∀k,S k->k<h.size)->YE S h x l->swL l<=1099511627776->(∀b h',Ext h h'->Q b h')->(YS x deep).wp h Q:=by
 intro m
 induction m with
 |zero=>intro l _ _ _ _ hm;omega
 |succ m ih=>
  intro l x deep h Q hm hS R hw H
  have hl:=R.len
  have hll:=KI9 l
  unfold YS
  refine or_b (c:=decide (deep>12)) (λ_ Q' hq=>KA hq) (KH (λ_=>KA (H _ _ (Ext.refl _))) (λ_=>?_))
  refine M.loop_inv (λ(s:Int) hh=>∃k:Nat,s=(k:Int)/\k<=l.length/\Ext h hh) (λs _=>l.length - s.toNat) ?_ ⟨0,rfl,El _,Ext.refl _⟩
  rintro s hh ⟨k,rfl,hk,E⟩ self hself
  unfold X7
  refine KH (λhlt=>?_) (λhge=>KA (H _ _ E))
  have hlt:k<l.length:=by have:=Ec hlt;omega
  have hmem:l[k]∈l:=EJ hlt
  refine UZ (Ky Vd hS R E) hlt rfl (λa c _ hs hc hv=>YF hs hc ?_)
  obtain⟨x1,x2,x3,x4,x5,rfl,hI,r1,r2,r3,r4,r5⟩:=WR.ex hv
  refine Kw (λh1 e1 s1 g1=>ZH rfl (stR g1 (Ee 6) KLo (λh2 u2 g2=>?_)))
  have e12:Ext hh h2:=e1.upd u2 (Ee _)
  have g2:h2[hh.size]?=some (.cells (stC l[k].op x1 x2 x3 x4 x5) KU (0,0)):=by
   have e:lay (#[.int .i64 0,.slice none 0 0,.slice none 0 0,.slice none 0 0,.slice none 0 0,.slice none 0 0]:Ea) 0 (stC l[k].op x1 x2 x3 x4 x5).toList=stC l[k].op x1 x2 x3 x4 x5:=KW (by rfl)
   rw [<-e];exact g2
  have E2:=E.trans e12
  have ln:∀{i:Nat} {x:Sl},(stC l[k].op x1 x2 x3 x4 x5)[i]?=some x.v->KJ h2 (Addr.add ⟨hh.size,0,none⟩ i)=some x.v:=λ{i x} hx=>by rw [KM,KF g2,EC];exact hx
  have n5:=r5.len
  have hssl:=KFz l[k].ss
  have hss:=KS9 l[k]
  have hsw:=KGo hmem
  refine Kn (ln (i:=1) rfl) (Kn (ln (i:=2) rfl) (Kn (ln (i:=3) rfl) (Kn (ln (i:=4) rfl) (Kn (ln (i:=5) rfl) (KH (λ_=>KA (H _ _ E2)) (λ_=>Kn (ln (i:=5) rfl) ?_))))))
  refine M.loop_inv (λ(s:Int) hh=>∃q:Nat,s=(q:Int)/\q<=l[k].ss.length/\Ext h2 hh) (λs _=>l[k].ss.length - s.toNat) ?_ ⟨0,rfl,El _,Ext.refl _⟩
  rintro s h3 ⟨q,rfl,hq,E3⟩ self2 hself2
  have E13:=E2.trans E3
  unfold Xz
  refine KH (λhlt2=>?_) (λhge2=>?_)
  ·have hlt2:q<l[k].ss.length:=by have:=Ec hlt2;omega
   have hmem2:l[k].ss[q]∈l[k].ss:=EJ hlt2
   have hsub:=KV1 hmem hmem2
   refine UZ (Ky UY (λk hk=>Ez (hS k hk) E.size) r5 (e12.trans E3)) hlt2 rfl (λa c _ hs hc hv=>?_)
   obtain⟨y,rfl,Ry⟩:=hv
   refine Kn (n:=y) (by have:=hc 0 (by decide);rw [add_zero]at this;exact this) (KD (YI (zq y _) ?_))
   refine ih _ (by have:=KP8 hmem hmem2;omega) (λk hk=>Ez (hS k hk) E13.size) Ry (by omega) (λb h4 e4=>?_)
   refine KH (λ_=>KA (H _ _ (E13.trans e4))) (λ_=>?_)
   rw [w64 (by omega) (by omega)]
   exact hself2 _ _ ⟨q+1,by push_cast;rfl,hlt2,E3.trans e4⟩ (by omega)
  ·have:q=l[k].ss.length:=by have:=Ed hge2;omega
   rw [w64 (by omega) (by omega)]
   exact hself _ _ ⟨k+1,by push_cast;rfl,hlt,E13⟩ (by omega)
end Gx
namespace Gx
open Go
theorem KKK (c:UInt8) (a:Eb):∀l:List (Eb),YB c (l++[a])=(if l=[]then []else YB c l++[c])++a
 | []=>rfl
 | [b]=>by simp [YB]
 |b::d::l=>by
  have ih:=KKK c a (d::l)
  rw [if_neg (by simp)]at ih⊢
  rw [Ey,Ey,YB,<-Ey,ih,YB]
  simp
theorem KGq (c:UInt8) {l:List (Eb)} {k:Nat} (hk:k<l.length):YB c (l.take (k+1))=(if k=0 then []else YB c (l.take k)++[c])++l[k]:=by
 rw [Et hk,KKK]
 congr 1
 by_cases h0:k=0
 ·subst h0;rfl
 ·rw [if_neg h0,if_neg]
  intro e
  have:=Ew List.length e
  rw [EI,En]at this
  omega
theorem KLt:∀(l:List (Eb)) (k:Nat),lnB (l.take k)<=lnB l
 | [],k=>by simp
 |a::l,0=>by simp [lnB]
 |a::l,k+1=>by have:=KLt l k;rw [Fq,Gp,Gp];omega
theorem KKL (c:UInt8) (l:List (Eb)) (k:Nat):(YB c (l.take k)).length<=lnB l+l.length:=by
 have h1:=NK c (l.take k)
 have h2:=KLt l k
 rw [EI]at h1
 omega
theorem KOm {l:List (Eb)} {k:Nat} (hk:k<l.length):l[k].length<=lnB l:=by
 induction l generalizing k with
 |nil=>simp at hk
 |cons a l ih=>
  rw [Gp]
  cases k with
  |zero=>simp
  |succ k=>have:=ih (k:=k) (by simpa using hk);simp only [FY];omega
theorem KHi {v:Vl} {x:Ea} {h:Heap} {Q:ByteArray->Heap->Prop} (hx:VRep h v x) (hm:wt v<=34359738368) (H:∀h',Ext h h'->Q (bs (txV v)) h'):(Z1 x).wp h Q:=
 KQm hx (by have:=KVy (KSG 8 v x hx);omega) H
theorem KJe {S:Nat->Prop} {p:Int×List Vl} {c:Ea} {h:Heap} {Q:ByteArray->Heap->Prop} (R:GI S h p c) (ok:okP p=true) (hw:wt.wts p.2<=34359738368) (H:∀h',Ext h h'->Q (bs (txP p)) h'):(UO c).wp h Q:=by
 obtain⟨y,rfl,hI,V⟩:=R
 obtain⟨op,vs⟩:=p
 dsimp only at hI V hw
 obtain⟨h1,h2,h3,h4⟩:=KGn.1 ok
 dsimp only at h1 h2 h3 h4
 have hl:=V.len
 have hvl:=KLl (KXd V)
 unfold UO
 refine Kw (λha e1 s1 g1=>?_)
 have l1:∀{hh:Heap},Ext ha hh->KJ hh (Addr.add ⟨h.size,0,none⟩ 1)=some y.v:=λe=>by rw [KM,KF (e.blk g1)];rfl
 have l0:∀{hh:Heap},Ext ha hh->KJ hh (Addr.add ⟨h.size,0,none⟩ 0)=some (.int .i64 op):=λe=>by rw [KM,KF (e.blk g1)];rfl
 refine M.loop_inv (λ(s:ByteArray×Int) hh=>∃k:Nat,s=(bs (YB 44 ((vs.map txV).take k)),(k:Int))/\k<=vs.length/\Ext ha hh) (λs _=>vs.length - s.2.toNat) ?_ ⟨0,rfl,El _,Ext.refl _⟩
 rintro s hh ⟨k,rfl,hk,E⟩ self hself
 have hjl:=KKL 44 (vs.map txV) k
 rw [EL]at hjl
 unfold Wh
 refine Kn (l1 E) (KH (λhlt=>?_) (λhge=>?_))
 ·have hlt:k<vs.length:=by have:=Ec hlt;omega
  have hltm:k<(vs.map txV).length:=by rw [EL];exact hlt
  have hwk:=KRt (EJ hlt)
  have hgl:=KOm hltm
  have nxt:∀{s:Eb},s=(if k=0 then []else YB 44 ((vs.map txV).take k)++[44])->(JL self ⟨h.size,0,none⟩ (k:Int) (bs s)).wp hh Q:=λ{s} hs=>by
   unfold JL
   refine Kn (l1 E) (KFl (V.to.ext (e1.trans E)) hlt rfl (λa c hs' hc hv=>YF hs' hc (KD (KHi hv (by omega) (λh5 e5=>?_)))))
   have hsl:s.length<=(YB 44 ((vs.map txV).take k)).length+1:=by rw [hs];split<;>simp
   rw [Ie]at hgl
   refine Xk (by omega) ?_
   rw [w64 (by omega) (by omega)]
   refine hself (_,_) _ ⟨k+1,Ik ?_ (by push_cast;rfl),hlt,E.trans e5⟩ (by dsimp only;omega)
   dsimp only
   rw [KGq 44 hltm,hs,Ie]
  refine KH (λh0=>?_) (λh0=>?_)
  ·have h0:=Ec h0
   refine Xk (y:=[44]) (by simp only [Ef,En];omega) (nxt ?_)
   rw [if_neg (by omega)]
  ·have h0:=Ed h0
   have hk0:k=0:=by omega
   subst hk0
   exact nxt rfl
 ·have:k=vs.length:=by have:=Ed hge;omega
  subst this
  rw [show(vs.map txV).take vs.length=vs.map txV from EU (by simp)]at hjl⊢
  refine KV (l0 E) ?_
  rw [eqI]
  have HH:=H hh (e1.trans E)
  unfold txP at HH
  dsimp only at HH
  refine KH (λho=>KA ?_) (λho=>?_)
  ·rw [if_pos (Ec ho)]at HH;exact HH
  ·have ho:=Ed ho
   refine KV (l0 E) (KD (KI7 (s:=prW) (by decide) (λh5 x e5 R5=>qE (l0 (E.trans e5)) ?_)))
   have H5:=H h5 ((e1.trans E).trans e5)
   unfold txP at H5
   dsimp only at H5
   rw [if_neg ho]at H5
   have hlen:(splW prW).length=9:=by decide+kernel
   have hj:(op - 1).toNat<(splW prW).length:=by omega
   have hwd:prWd op=(splW prW)[(op - 1).toNat]:=by
    unfold prWd KI3
    rw [if_neg (by omega),Em hj];rfl
   have hwl:=KVz (op:=op)
   rw [w64 (by omega) (by omega)]
   refine UZ R5 hj (by omega) (λa c _ hs hc hv=>?_)
   have hv:c=#[sv (splW prW)[(op - 1).toNat]]:=hv
   subst hv
   refine WO (n:=bs (splW prW)[(op - 1).toNat]) (by have:=hc 0 (by decide);rw [add_zero]at this;exact this) ?_
   rw [<-hwd]
   refine Xk (y:=[40]) (by simp only [Ef,En];omega) (Xk (by simp only [List.length_append,Ef,En];omega) (Xk (y:=[41]) (by simp only [List.length_append,Ef,En];omega) (KA ?_)))
   have e:prWd op++[40]++YB 44 (vs.map txV)++[41]=prWd op++(40::(YB 44 (vs.map txV)++[41])):=by simp
   rw [e]
   exact H5
def AInv (h hh:Heap) (r:Sl) (L:List (Eb)):Prop:=Ext h hh/\∃css,TGw h.size hh r css L
theorem AInv.ext {h hh h':Heap} {r:Sl} {L:List (Eb)} (I:AInv h hh r L) (e:Ext hh h'):AInv h h' r L:=by
 obtain⟨E,css,G⟩:=I
 exact⟨E.trans e,css,G.same Z0 (λk hk=>e.same k (G.gw.lt hk).1) (λk hk=>hk.elim) (λ_ hk=>hk)⟩
theorem KNd {β:Type} {h hh:Heap} {Q:β->Heap->Prop} {r:Sl} {L:List (Eb)} {s:Eb} {f:Sl->M β} (I:AInv h hh r L) (hm:L.length<=4398046511103) (H:∀h' r',AInv h h' r' (L++[s])->(f r').wp h' Q):
  (bdL ZW 1 #[.string (bs s)]>>=λx=>apL ZW 1 16 (#[.string ByteArray.empty]:Ea) r x>>=f).wp hh Q:=by
 obtain⟨E,css,G⟩:=I
 refine KZU G E.size hm (λh' r' css' G' hs same=>H h' r' ⟨⟨Fb E.size hs,λi hi=>(same i hi).trans (E.same i hi)⟩,css',G'⟩)
theorem AInv.nil (h:Heap):AInv h h Sl.nil []:=⟨Ext.refl _,[],RGw.nil _ _ _ _ _⟩
theorem AInv.row {h hh:Heap} {r:Sl} {L:List (Eb)} (I:AInv h hh r L):RowS 1 zQ (HS h hh) hh r L:=by
 obtain⟨E,css,G⟩:=I
 refine(G.row Z0 (by decide)).same Z0 (λ_ _=>rfl) (λk hk=>?_)
 rcases hk with hk|hk
 ·exact hk.elim
 ·have:=G.gw.lt hk;exact⟨this.2,this.1⟩
def KBu (l:List St):Prop:=∀{S:Nat->Prop} {x:Sl} {h:Heap} {Q:ByteArray->Heap->Prop},(∀k,S k->k<h.size)->YE S h x l->gdL l=true->swL l<=34359738368->(∀h',Ext h h'->Q (bs (YB 46 (txL l))) h')->(Wp x).wp h Q
theorem KP9:∀(r:List (List St)) (l:List St),txSs (r++[l])=txSs r++[YB 46 (txL l)]
 | [],l=>by simp [txSs]
 |a::r,l=>by rw [Ey,txSs,txSs,KP9 r l];rfl
theorem KTE {r:List (List St)} {k:Nat} (hk:k<r.length):txSs (r.take (k+1))=txSs (r.take k)++[YB 46 (txL r[k])]:=by rw [Et hk,KP9]
theorem KHj {α β:Type} {f:α->β} {r:List α} {k:Nat} (hk:k<r.length):(r.take (k+1)).map f=(r.take k).map f++[f r[k]]:=by rw [Et hk,Fm];rfl
theorem KU3 {S:Nat->Prop} {b:Nat} {op:Int} {x1 x2 x3 x4 x5 r:Sl} {ss:List (List St)} {L:List (Eb)} {h hh:Heap} {Q:Sl->Heap->Prop} (hS:∀k,S k->k<h.size) (g:h[b]?=some (.cells (stC op x1 x2 x3 x4 x5) KU (0,0))) (R:RowS 1 KAE S h x5 ss) (hg:gdSs ss=true) (hw:swSs ss<=34359738368) (ih:∀l∈ss,KBu l)
  (I:AInv h hh r L) (hL:L.length+ss.length<=4398046511103) (H:∀h' r',AInv h h' r' (L++txSs ss)->Q r' h'):(M.loop (J2 ⟨b,0,none⟩) (r,0)).wp hh Q:=by
 have hl:=R.len
 refine M.loop_inv (λ(s:Sl×Int) h2=>∃k:Nat,s.2=(k:Int)/\k<=ss.length/\AInv h h2 s.1 (L++txSs (ss.take k))) (λs _=>ss.length - s.2.toNat) ?_ ⟨0,rfl,El _,by rw [FU,txSs,E0];exact I⟩
 rintro⟨r,i⟩ h2 ⟨k,hi,hk,I⟩ self hself
 dsimp only at hi I
 subst hi
 have E:=I.1
 unfold J2
 have l5:KJ h2 (Addr.add ⟨b,0,none⟩ 5)=some x5.v:=by rw [KM,KF (E.blk g)];rfl
 refine Kn l5 (KH (λhlt=>?_) (λhge=>?_))
 ·have hlt:k<ss.length:=by have:=Ec hlt;omega
  have hmem:ss[k]∈ss:=EJ hlt
  have:=KHg hmem
  refine Kn l5 (UZ (Ky UY hS R E) hlt rfl (λa c _ hs hc hv=>?_))
  obtain⟨y,rfl,Ry⟩:=hv
  refine Kn (n:=y) (by have:=hc 0 (by decide);rw [add_zero]at this;exact this) (KD (YI (zN y) ?_))
  refine ih _ hmem (λk hk=>Ez (hS k hk) E.size) Ry (KHe hg _ hmem).2 (by omega) (λh3 e3=>?_)
  refine KNd (I.ext e3) (by rw [List.length_append,KP3,EI];omega) (λh4 r4 I4=>?_)
  rw [w64 (by omega) (by omega)]
  refine hself (_,_) _ ⟨k+1,by push_cast;rfl,hlt,?_⟩ (by dsimp only;omega)
  rw [KTE hlt,<-Ek]
  exact I4
 ·have:k=ss.length:=by have:=Ed hge;omega
  subst this
  rw [ER]at I
  exact KA (H _ _ I)
theorem KU4 {S:Nat->Prop} {b:Nat} {op:Int} {x1 x2 x3 x4 x5 r:Sl} {vs:List Vl} {ss:List (List St)} {L:List (Eb)} {h hh:Heap} {Q:Sl->Heap->Prop} (hS:∀k,S k->k<h.size) (g:h[b]?=some (.cells (stC op x1 x2 x3 x4 x5) KU (0,0))) (V:VsRep h x4 vs) (R:RowS 1 KAE S h x5 ss) (hg:gdSs ss=true) (hwv:wt.wts vs<=34359738368) (hw:swSs ss<=34359738368) (ih:∀l∈ss,KBu l)
  (I:AInv h hh r L) (hL:L.length+vs.length+ss.length<=4398046511103) (H:∀h' r',AInv h h' r' (L++(vs.map txV++txSs ss))->Q r' h'):(M.loop (J3 ⟨b,0,none⟩) (r,0)).wp hh Q:=by
 have hl:=V.len
 refine M.loop_inv (λ(s:Sl×Int) h2=>∃k:Nat,s.2=(k:Int)/\k<=vs.length/\AInv h h2 s.1 (L++(vs.take k).map txV)) (λs _=>vs.length - s.2.toNat) ?_ ⟨0,rfl,El _,by rw [FU,Iq,E0];exact I⟩
 rintro⟨r,i⟩ h2 ⟨k,hi,hk,I⟩ self hself
 dsimp only at hi I
 subst hi
 have E:=I.1
 unfold J3
 have l4:KJ h2 (Addr.add ⟨b,0,none⟩ 4)=some x4.v:=by rw [KM,KF (E.blk g)];rfl
 refine Kn l4 (KH (λhlt=>?_) (λhge=>?_))
 ·have hlt:k<vs.length:=by have:=Ec hlt;omega
  have:=KRt (EJ hlt)
  refine Kn l4 (KFl (V.ext E) hlt rfl (λa c hs hc hv=>YF hs hc (KD (KHi hv (by omega) (λh3 e3=>?_)))))
  refine KNd (I.ext e3) (by rw [List.length_append,EL,EI];omega) (λh4 r4 I4=>?_)
  rw [w64 (by omega) (by omega)]
  refine hself (_,_) _ ⟨k+1,by push_cast;rfl,hlt,?_⟩ (by dsimp only;omega)
  rw [KHj hlt,<-Ek]
  exact I4
 ·have:k=vs.length:=by have:=Ed hge;omega
  subst this
  rw [ER]at I
  refine KU3 hS g R hg hw ih I (by rw [List.length_append,EL];omega) (λh' r' I'=>H _ _ ?_)
  rw [<-Ek]
  exact I'
theorem KU5 {S:Nat->Prop} {b:Nat} {op:Int} {x1 x2 x3 x4 x5 r:Sl} {ps:List (Int×List Vl)} {vs:List Vl} {ss:List (List St)} {L:List (Eb)} {h hh:Heap} {Q:Sl->Heap->Prop} (hS:∀k,S k->k<h.size) (g:h[b]?=some (.cells (stC op x1 x2 x3 x4 x5) KU (0,0))) (R3:RowS 2 GI S h x3 ps) (V:VsRep h x4 vs) (R:RowS 1 KAE S h x5 ss)
  (hp:∀p∈ps,okP p=true/\wt.wts p.2<=34359738368) (hg:gdSs ss=true) (hwv:wt.wts vs<=34359738368) (hw:swSs ss<=34359738368) (ih:∀l∈ss,KBu l)
  (I:AInv h hh r L) (hL:L.length+ps.length+vs.length+ss.length<=4398046511103) (H:∀h' r',AInv h h' r' (L++(ps.map txP++(vs.map txV++txSs ss)))->Q r' h'):(M.loop (J4 ⟨b,0,none⟩) (r,0)).wp hh Q:=by
 have hl:=R3.len
 refine M.loop_inv (λ(s:Sl×Int) h2=>∃k:Nat,s.2=(k:Int)/\k<=ps.length/\AInv h h2 s.1 (L++(ps.take k).map txP)) (λs _=>ps.length - s.2.toNat) ?_ ⟨0,rfl,El _,by rw [FU,Iq,E0];exact I⟩
 rintro⟨r,i⟩ h2 ⟨k,hi,hk,I⟩ self hself
 dsimp only at hi I
 subst hi
 have E:=I.1
 unfold J4
 have l3:KJ h2 (Addr.add ⟨b,0,none⟩ 3)=some x3.v:=by rw [KM,KF (E.blk g)];rfl
 refine Kn l3 (KH (λhlt=>?_) (λhge=>?_))
 ·have hlt:k<ps.length:=by have:=Ec hlt;omega
  obtain⟨p1,p2⟩:=hp _ (EJ hlt)
  refine Kn l3 (UZ (Ky JY hS R3 E) hlt rfl (λa c _ hs hc hv=>YF hs hc (KD (KJe hv p1 p2 (λh3 e3=>?_)))))
  refine KNd (I.ext e3) (by rw [List.length_append,EL,EI];omega) (λh4 r4 I4=>?_)
  rw [w64 (by omega) (by omega)]
  refine hself (_,_) _ ⟨k+1,by push_cast;rfl,hlt,?_⟩ (by dsimp only;omega)
  rw [KHj hlt,<-Ek]
  exact I4
 ·have:k=ps.length:=by have:=Ed hge;omega
  subst this
  rw [ER]at I
  refine KU4 hS g V R hg hwv hw ih I (by rw [List.length_append,EL];omega) (λh' r' I'=>H _ _ ?_)
  rw [<-Ek]
  exact I'
theorem KU6 {S:Nat->Prop} {b:Nat} {op:Int} {x1 x2 x3 x4 x5 r:Sl} {us:List Int} {ps:List (Int×List Vl)} {vs:List Vl} {ss:List (List St)} {L:List (Eb)} {h hh:Heap} {Q:Sl->Heap->Prop} (hS:∀k,S k->k<h.size) (g:h[b]?=some (.cells (stC op x1 x2 x3 x4 x5) KU (0,0))) (R2:RowS 1 KAD S h x2 us) (R3:RowS 2 GI S h x3 ps) (V:VsRep h x4 vs) (R:RowS 1 KAE S h x5 ss)
  (hp:∀p∈ps,okP p=true/\wt.wts p.2<=34359738368) (hg:gdSs ss=true) (hwv:wt.wts vs<=34359738368) (hw:swSs ss<=34359738368) (ih:∀l∈ss,KBu l)
  (I:AInv h hh r L) (hL:L.length+us.length+ps.length+vs.length+ss.length<=4398046511103) (H:∀h' r',AInv h h' r' (L++(us.map Lib.itoa++(ps.map txP++(vs.map txV++txSs ss))))->Q r' h'):(M.loop (J5 ⟨b,0,none⟩) (r,0)).wp hh Q:=by
 have hl:=R2.len
 refine M.loop_inv (λ(s:Sl×Int) h2=>∃k:Nat,s.2=(k:Int)/\k<=us.length/\AInv h h2 s.1 (L++(us.take k).map Lib.itoa)) (λs _=>us.length - s.2.toNat) ?_ ⟨0,rfl,El _,by rw [FU,Iq,E0];exact I⟩
 rintro⟨r,i⟩ h2 ⟨k,hi,hk,I⟩ self hself
 dsimp only at hi I
 subst hi
 have E:=I.1
 unfold J5
 have l2:KJ h2 (Addr.add ⟨b,0,none⟩ 2)=some x2.v:=by rw [KM,KF (E.blk g)];rfl
 refine Kn l2 (KH (λhlt=>?_) (λhge=>?_))
 ·have hlt:k<us.length:=by have:=Ec hlt;omega
  refine Kn l2 (UZ (Ky Jq hS R2 E) hlt rfl (λa c _ hs hc hv=>?_))
  obtain⟨rfl,hI⟩:=hv
  refine KV (n:=us[k]) (by have:=hc 0 (by decide);rw [add_zero]at this;exact this) ?_
  unfold V8
  refine KQk (cs:=ZK 1 us[k] [] Sl.nil) rfl (ZF _ _ _ _) (λh3 e3=>?_)
  refine KD (KHi (v:=.mk 1 us[k] [] []) (N4 (λ_=>True) h3 ⟨by decide,by decide⟩ hI (by decide)).to (by rw [wt,wt.wts];decide) (λh4 e4=>?_))
  rw [KOQ]
  refine KNd (I.ext (e3.trans e4)) (by rw [List.length_append,EL,EI];omega) (λh5 r5 I5=>?_)
  rw [w64 (by omega) (by omega)]
  refine hself (_,_) _ ⟨k+1,by push_cast;rfl,hlt,?_⟩ (by dsimp only;omega)
  rw [KHj hlt,<-Ek]
  exact I5
 ·have:k=us.length:=by have:=Ed hge;omega
  subst this
  rw [ER]at I
  refine KU5 hS g R3 V R hp hg hwv hw ih I (by rw [List.length_append,EL];omega) (λh' r' I'=>H _ _ ?_)
  rw [<-Ek]
  exact I'
theorem KU7 {S:Nat->Prop} {b:Nat} {op:Int} {x1 x2 x3 x4 x5 r:Sl} {ns:List (Eb)} {us:List Int} {ps:List (Int×List Vl)} {vs:List Vl} {ss:List (List St)} {h hh:Heap} {Q:Sl->Heap->Prop} (hS:∀k,S k->k<h.size) (g:h[b]?=some (.cells (stC op x1 x2 x3 x4 x5) KU (0,0))) (R1:RowS 1 zQ S h x1 ns) (R2:RowS 1 KAD S h x2 us) (R3:RowS 2 GI S h x3 ps) (V:VsRep h x4 vs) (R:RowS 1 KAE S h x5 ss)
  (hn:∀s∈ns,s.length<=34359738367) (hp:∀p∈ps,okP p=true/\wt.wts p.2<=34359738368) (hg:gdSs ss=true) (hwv:wt.wts vs<=34359738368) (hw:swSs ss<=34359738368) (ih:∀l∈ss,KBu l)
  (I:AInv h hh r []) (hL:ns.length+us.length+ps.length+vs.length+ss.length<=4398046511103) (H:∀h' r',AInv h h' r' (txA ns us ps vs++txSs ss)->Q r' h'):(M.loop (J6 ⟨b,0,none⟩) (r,0)).wp hh Q:=by
 have hl:=R1.len
 refine M.loop_inv (λ(s:Sl×Int) h2=>∃k:Nat,s.2=(k:Int)/\k<=ns.length/\AInv h h2 s.1 ((ns.take k).map J7)) (λs _=>ns.length - s.2.toNat) ?_ ⟨0,rfl,El _,by rw [FU,Iq];exact I⟩
 rintro⟨r,i⟩ h2 ⟨k,hi,hk,I⟩ self hself
 dsimp only at hi I
 subst hi
 have E:=I.1
 unfold J6
 have l1:KJ h2 (Addr.add ⟨b,0,none⟩ 1)=some x1.v:=by rw [KM,KF (E.blk g)];rfl
 refine Kn l1 (KH (λhlt=>?_) (λhge=>?_))
 ·have hlt:k<ns.length:=by have:=Ec hlt;omega
  have hnl:=hn _ (EJ hlt)
  refine Kn l1 (UZ (Ky Z0 hS R1 E) hlt rfl (λa c _ hs hc hv=>?_))
  have hv:c=#[sv ns[k]]:=hv
  subst hv
  refine WO (n:=bs ns[k]) (by have:=hc 0 (by decide);rw [add_zero]at this;exact this) ?_
  unfold V9
  refine KQk (cs:=ZK 2 0 ns[k] Sl.nil) rfl (ZF _ _ _ _) (λh3 e3=>?_)
  refine KD (KHi (v:=.mk 2 0 ns[k] []) (N4 (λ_=>True) h3 ⟨by decide,by decide⟩ ⟨by decide,by decide⟩ (by omega)).to (by rw [wt,wt.wts];omega) (λh4 e4=>?_))
  rw [KOR]
  refine KNd (I.ext (e3.trans e4)) (by rw [EL,EI];omega) (λh5 r5 I5=>?_)
  rw [w64 (by omega) (by omega)]
  refine hself (_,_) _ ⟨k+1,by push_cast;rfl,hlt,?_⟩ (by dsimp only;omega)
  rw [KHj hlt]
  exact I5
 ·have:k=ns.length:=by have:=Ed hge;omega
  subst this
  rw [ER]at I
  refine KU6 hS g R2 R3 V R hp hg hwv hw ih I (by rw [EL];omega) (λh' r' I'=>H _ _ ?_)
  have e:txA ns us ps vs++txSs ss=ns.map J7++(us.map Lib.itoa++(ps.map txP++(vs.map txV++txSs ss))):=by simp [txA]
  rw [e]
  exact I'
end Gx
namespace Gx
open Go
theorem KQA {α:Type} {f:α->Nat}:∀{l:List α} {a:α},a∈l->f a<=(l.map f).sum
 |b::l,a,h=>by
  rw [Er,Ft]
  rcases ED.1 h with rfl|h
  ·omega
  ·have:=KQA (f:=f) h;omega
theorem KLu {α:Type} {f:α->Nat} (hf:∀a,1<=f a):∀l:List α,l.length<=(l.map f).sum
 | []=>El _
 |b::l=>by have:=KLu hf l;have:=hf b;rw [Er,Ft,Ef];omega
structure SwOf (s:St):Prop where
 n:s.ns.length+s.us.length+s.ps.length+s.vs.length+s.ss.length+1<=swS s
 p:∀p∈s.ps,wt.wts p.2<=swS s
 v:wt.wts s.vs<=swS s
 s:swSs s.ss+1<=swS s
theorem KZY (s:St):SwOf s:=by
 cases s with
 |mk op ns us ps vs ss=>
  have h1:=KLu (f:=λs:Eb=>s.length+1) (λa=>by omega) ns
  have h2:=KLu (f:=λp:Int×List Vl=>wt.wts p.2+1) (λa=>by omega) ps
  have h3:=KRs vs
  have h4:=KFz ss
  refine⟨?_,λp hp=>?_,?_,?_⟩
  ·rw [swS];show ns.length+us.length+ps.length+vs.length+ss.length+1<=_;omega
  ·rw [swS];have:=KQA (f:=λp:Int×List Vl=>wt.wts p.2+1) (l:=ps) hp;have this:wt.wts p.2+1<=_:=this;omega
  ·rw [swS];show wt.wts vs<=_;omega
  ·rw [swS];show swSs ss+1<=_;omega
theorem KV3 (s:St):txS s=stWd s.op++(40::(YB 44 (txA s.ns s.us s.ps s.vs++txSs s.ss)++[41])):=by cases s;rw [txS];rfl
theorem KXj (s:St):gdS s=true->OkA s.op s.ns s.us s.ps s.vs s.ss.length/\gdSs s.ss=true:=λh=>by
 rw [KP7,Eg]at h
 exact⟨KI4.1 h.1,h.2⟩
theorem KTF:∀{l:List St} {k:Nat} (hk:k<l.length) (hk2:k<(txL l).length),(txL l)[k]=txS l[k]
 |s::l,0,_,_=>by simp only [txL,FO]
 |s::l,k+1,hk,hk2=>by
  simp only [txL,FY]
  exact KTF _ _
theorem KNe:∀(m:Nat) (l:List St),sizeOf l<m->KBu l:=by
 intro m
 induction m with
 |zero=>intro l hm;omega
 |succ m ih=>
  intro l hm S x h Q hS R hg hw H
  have hl:=R.len
  have hll:=KI9 l
  obtain⟨wf,hi64⟩:=R.wf
  have hlen2:=KHf l wf hi64
  have htl:=KLm l
  unfold Wp
  refine M.loop_inv (λ(s:ByteArray×Int) hh=>∃k:Nat,s=(bs (YB 46 ((txL l).take k)),(k:Int))/\k<=l.length/\Ext h hh) (λs _=>l.length - s.2.toNat) ?_ ⟨0,rfl,El _,Ext.refl _⟩
  rintro s hh ⟨k,rfl,hk,E⟩ self hself
  have hjl:=KKL 46 (txL l) k
  unfold XY
  refine KH (λhlt=>?_) (λhge=>?_)
  ·have hlt:k<l.length:=by have:=Ec hlt;omega
   have hmem:l[k]∈l:=EJ hlt
   have hsw:=KGo hmem
   have hso:=KZY l[k]
   obtain⟨ok,hgs⟩:=KXj _ (KLj hg _ hmem)
   have hltm:k<(txL l).length:=by omega
   have hxk:(txL l)[k]=txS l[k]:=KTF hlt hltm
   have hxl:=KOm hltm
   rw [hxk,KV3]at hxl
   have hal:=NK 44 (txA l[k].ns l[k].us l[k].ps l[k].vs++txSs l[k].ss)
   simp only [List.length_append,Ef,En]at hxl
   have nxt:∀{s:Eb},s=(if k=0 then []else YB 46 ((txL l).take k)++[46])->(Uo self x (k:Int) (bs s)).wp hh Q:=λ{s} hs=>by
    have hsl:s.length<=(YB 46 ((txL l).take k)).length+1:=by rw [hs];split<;>simp
    unfold Uo
    refine UZ (Ky Vd hS R E) hlt rfl (λa c _ hs1 hc hv=>?_)
    obtain⟨x1,x2,x3,x4,x5,rfl,hI,r1,r2,r3,r4,r5⟩:=WR.ex hv
    refine KV (n:=l[k].op) (by rw [hc 0 (by decide)];rfl) (KD (KKI (λh1 e1=>?_)))
    have E1:=E.trans e1
    refine Xk (y:=[40]) (by simp only [Ef,En];omega) (Xk (by simp only [List.length_append,Ef,En];omega) ?_)
    refine UZ (Ky Vd hS R E1) hlt rfl (λa c _ hs1 hc hv=>YF hs1 hc (KD (YI (KAW c) ?_)))
    obtain⟨x1,x2,x3,x4,x5,rfl,hI,r1,r2,r3,r4,r5⟩:=WR.ex hv
    unfold NC
    refine Kw (λh2 e2 s2 g2=>?_)
    have E2:=E1.trans e2
    have hS1:∀k,S k->k<h1.size:=λk hk=>Ez (hS k hk) E1.size
    have hS2:∀k,S k->k<h2.size:=λk hk=>Ez (hS k hk) E2.size
    refine KU7 hS2 g2 (Ky Z0 hS1 r1 e2) (Ky Jq hS1 r2 e2) (Ky JY hS1 r3 e2) (r4.to.ext e2) (Ky UY hS1 r5 e2)
     (λs hs=>by have:=KLg (ok.nok s hs);omega) (λp hp=>⟨ok.pok p hp,by have:=hso.p p hp;omega⟩) hgs (by have:=hso.v;omega) (by have:=hso.s;omega)
     (λl' hl'=>ih l' (by have:=KP8 hmem hl';omega)) (AInv.nil h2) (by have:=hso.n;omega) (λh3 r3 I3=>?_)
    have R3:=I3.row
    have E3:=E2.trans I3.1
    obtain⟨args,hargs⟩:∃args,args=txA l[k].ns l[k].us l[k].ps l[k].vs++txSs l[k].ss:=⟨_,rfl⟩
    rw [<-hargs]at R3 hal hxl
    have h3l:=R3.len
    have hal2:args.length<=lnB args+args.length:=by omega
    refine M.loop_inv (λ(t:ByteArray×Int) h4=>∃q:Nat,t=(bs (s++(stWd l[k].op++[40])++YB 44 (args.take q)),(q:Int))/\q<=args.length/\Ext h3 h4) (λt _=>args.length - t.2.toNat) ?_ ⟨0,by rw [FU];exact Ik (by simp [YB]) rfl,El _,Ext.refl _⟩
    rintro t h4 ⟨q,rfl,hq,E4⟩ self2 hself2
    have hql:(YB 44 (args.take q)).length<=34359738368*50:=by
     have h1:=NK 44 (args.take q)
     have h2:=KLt args q
     rw [EI]at h1
     omega
    have h40:(stWd l[k].op++[40]).length=(stWd l[k].op).length+1:=by simp
    unfold XX
    refine KH (λhlt2=>?_) (λhge2=>?_)
    ·have hlt2:q<args.length:=by have:=Ec hlt2;omega
     have hgl:=KOm hlt2
     have nx2:∀{w:Eb},w=s++(stWd l[k].op++[40])++(if q=0 then []else YB 44 (args.take q)++[44])->(Un self2 r3 (q:Int) (bs w)).wp h4 Q:=λ{w} hw2=>by
      have hwl:w.length<=s.length+(stWd l[k].op).length+1+(YB 44 (args.take q)).length+1:=by
       rw [hw2,List.length_append,List.length_append,h40]
       split
       ·simp;omega
       ·rw [List.length_append,List.length_singleton];omega
      unfold Un
      refine UZ (Ky Z0 (λk hk=>hk.2) R3 E4) hlt2 rfl (λa c _ hs hc hv=>?_)
      have hv:c=#[sv args[q]]:=hv
      subst hv
      refine WO (n:=bs args[q]) (by have:=hc 0 (by decide);rw [add_zero]at this;exact this) (Xk (by omega) ?_)
      rw [w64 (by omega) (by omega)]
      refine hself2 (_,_) _ ⟨q+1,Ik ?_ (by push_cast;rfl),hlt2,E4⟩ (by dsimp only;omega)
      dsimp only
      rw [KGq 44 hlt2,hw2]
      simp only [Ek]
     refine KH (λh0=>?_) (λh0=>?_)
     ·have h0:=Ec h0
      refine Xk (y:=[44]) (by rw [List.length_append,List.length_append,h40];simp only [Ef,En];omega) (nx2 ?_)
      rw [if_neg (by omega)]
      simp only [Ek]
     ·have h0:=Ed h0
      have hq0:q=0:=by omega
      subst hq0
      exact nx2 rfl
    ·have:q=args.length:=by have:=Ed hge2;omega
     subst this
     rw [ER]at hql⊢
     refine Xk (y:=[41]) (by rw [List.length_append,List.length_append,h40];simp only [Ef,En];omega) ?_
     rw [w64 (by omega) (by omega)]
     refine hself (_,_) _ ⟨k+1,Ik ?_ (by push_cast;rfl),hlt,E3.trans E4⟩ (by dsimp only;omega)
     dsimp only
     rw [KGq 46 hltm,hxk,KV3,<-hargs,hs]
     simp only [Ek,Ey,EW]
   refine KH (λh0=>?_) (λh0=>?_)
   ·have h0:=Ec h0
    refine Xk (y:=[46]) (by simp only [Ef,En];omega) (nxt ?_)
    rw [if_neg (by omega)]
   ·have h0:=Ed h0
    have hk0:k=0:=by omega
    subst hk0
    exact nxt rfl
  ·have:k=l.length:=by have:=Ed hge;omega
   subst this
   have:=H _ E
   rw [show(txL l).take l.length=txL l from EU (by omega)]
   exact KA this
def prtL (l:List St):Eb×Int:=if chkL l=0 then(txG l,0)else([],chkL l)
theorem KLv {S:Nat->Prop} {l:List St} {x:Sl} {h:Heap} {Q:ByteArray×Int->Heap->Prop} (hS:∀k,S k->k<h.size) (R:YE S h x l) (hw:swL l<=34359738368) (H:∀h',Ext h h'->Q (bs (prtL l).1,(prtL l).2) h'):(WG x).wp h Q:=by
 unfold WG
 refine KD (KLr hS R (by omega) (λh1 e1=>?_))
 rw [neI]
 refine KH (λhc=>KA ?_) (λhc=>?_)
 ·have hc:=Ec hc
  have:=H h1 e1
  unfold prtL at this
  rw [if_neg hc]at this
  exact this
 ·have hc:chkL l=0:=EM (Ed hc)
  have G:=KNc.1 hc
  obtain⟨wf,hi64⟩:=R.wf
  have hlen2:=KXc wf hi64
  refine KD (KNe _ l (EH _) (λk hk=>Ez (hS k hk) e1.size) (Ky Vd hS R e1) G.gd hw (λh2 e2=>?_))
  have:=H h2 (e1.trans e2)
  unfold prtL at this
  rw [if_pos hc]at this
  refine Xk (x:=[103,46]) (by unfold txG at hlen2;simp only [Ef,En]at hlen2⊢;omega) (KA this)
end Gx
namespace Gx
open Go
def KQB (l:List St):Prop:=∀{m:List St} {S T:Nat->Prop} {x y:Sl} {h:Heap} {Q:Bool->Heap->Prop},(∀k,S k->k<h.size)->(∀k,T k->k<h.size)->YE S h x l->YE T h y m->swL l<=1099511627776->(∀r h',(r=true↔l=m)->Ext h h'->Q r h')->(Ws x y).wp h Q
section
variable {S T:Nat->Prop} {b c:Nat} {op op2:Int} {x1 x2 x3 x4 x5 y1 y2 y3 y4 y5:Sl} {i:Int} {h:Heap} {Q:Bool->Heap->Prop} {self1:Int->M Bool}
theorem KU8 {l m:List (List St)} (hS:∀k,S k->k<h.size) (hT:∀k,T k->k<h.size) (g:h[b]?=some (.cells (stC op x1 x2 x3 x4 x5) KU (0,0))) (g2:h[c]?=some (.cells (stC op2 y1 y2 y3 y4 y5) KU (0,0))) (R:RowS 1 KAE S h x5 l) (R2:RowS 1 KAE T h y5 m) (hl:l.length=m.length)
  (ih:∀r∈l,KQB r) (hw:swSs l<=1099511627776) (H1:l≠m->∀h',Ext h h'->Q false h') (H2:l=m->∀h',Ext h h'->(self1 (IntKind.wrap .i64 (i+1))).wp h' Q):(M.loop (Uq self1 i ⟨b,0,none⟩ ⟨c,0,none⟩) 0).wp h Q:=by
 have lx:=R.len
 have ly:=R2.len
 have hsl:=KFz l
 refine M.loop_inv (λ(j:Int) hh=>∃k:Nat,j=(k:Int)/\k<=l.length/\Ext h hh/\l.take k=m.take k) (λj _=>l.length - j.toNat) ?_ ⟨0,rfl,El _,Ext.refl _,rfl⟩
 rintro j hh ⟨k,rfl,hk,E,ha⟩ self hself
 unfold Uq
 have e5:KJ hh (Addr.add ⟨b,0,none⟩ 5)=some x5.v:=by rw [KM,KF (E.blk g)];rfl
 have f5:KJ hh (Addr.add ⟨c,0,none⟩ 5)=some y5.v:=by rw [KM,KF (E.blk g2)];rfl
 refine Kn e5 (KH (λhlt=>?_) (λhge=>?_))
 ·have hlt:k<l.length:=by have:=Ec hlt;omega
  have hlt2:k<m.length:=by omega
  have hmem:l[k]∈l:=EJ hlt
  have:=KHg hmem
  refine Kn e5 (UZ (Ky UY hS R E) hlt rfl (λa c _ hs hc hv=>?_))
  obtain⟨z,rfl,V1⟩:=hv
  refine Kn (n:=z) (by have:=hc 0 (by decide);rw [add_zero]at this;exact this) (Kn f5 (UZ (Ky UY hT R2 E) hlt2 rfl (λa2 c2 _ hs2 hc2 hv2=>?_)))
  obtain⟨z2,rfl,V2⟩:=hv2
  refine Kn (n:=z2) (by have:=hc2 0 (by decide);rw [add_zero]at this;exact this) (KD (YI (zO z z2) ?_))
  refine ih _ hmem (λk hk=>Ez (hS k hk) E.size) (λk hk=>Ez (hT k hk) E.size) V1 V2 (by omega) (λr h1 hr e1=>?_)
  refine KH (λhb=>KA (H1 (KKJ hlt hlt2 (λe=>?_)) _ (E.trans e1))) (λhb=>?_)
  ·rw [hr.2 e]at hb;cases hb
  ·rw [w64 (by omega) (by omega)]
   exact hself _ _ ⟨k+1,by push_cast;rfl,hlt,E.trans e1,KGp hlt hlt2 ha (hr.1 (by simpa using hb))⟩ (by omega)
 ·have:k=l.length:=by have:=Ed hge;omega
  subst this
  exact H2 (KBt hl ha) _ E
theorem KU9 {l m:List Int} {Q':Prop} (hS:∀k,S k->k<h.size) (hT:∀k,T k->k<h.size) (g:h[b]?=some (.cells (stC op x1 x2 x3 x4 x5) KU (0,0))) (g2:h[c]?=some (.cells (stC op2 y1 y2 y3 y4 y5) KU (0,0))) (R:RowS 1 KAD S h x2 l) (R2:RowS 1 KAD T h y2 m) (hl:l.length=m.length) (hm:l.length<=1099511627776)
  (H1:l≠m->Q false h) (H2:l=m->(M.loop (Uq self1 i ⟨b,0,none⟩ ⟨c,0,none⟩) 0).wp h Q):(M.loop (Ur self1 i ⟨b,0,none⟩ ⟨c,0,none⟩) 0).wp h Q:=by
 have lx:=R.len
 have ly:=R2.len
 refine M.loop_inv (λ(j:Int) hh=>∃k:Nat,j=(k:Int)/\k<=l.length/\hh=h/\l.take k=m.take k) (λj _=>l.length - j.toNat) ?_ ⟨0,rfl,El _,rfl,rfl⟩
 rintro j hh ⟨k,rfl,hk,rfl,ha⟩ self hself
 unfold Ur
 have e2:KJ hh (Addr.add ⟨b,0,none⟩ 2)=some x2.v:=by rw [KM,KF g];rfl
 have f2:KJ hh (Addr.add ⟨c,0,none⟩ 2)=some y2.v:=by rw [KM,KF g2];rfl
 refine Kn e2 (KH (λhlt=>?_) (λhge=>?_))
 ·have hlt:k<l.length:=by have:=Ec hlt;omega
  have hlt2:k<m.length:=by omega
  refine Kn e2 (UZ R hlt rfl (λa c _ hs hc hv=>?_))
  obtain⟨rfl,_⟩:=hv
  refine KV (n:=l[k]) (by have:=hc 0 (by decide);rw [add_zero]at this;exact this) (Kn f2 (UZ R2 hlt2 rfl (λa2 c2 _ hs2 hc2 hv2=>?_)))
  obtain⟨rfl,_⟩:=hv2
  refine KV (n:=m[k]) (by have:=hc2 0 (by decide);rw [add_zero]at this;exact this) ?_
  rw [neI]
  refine KH (λhb=>KA (H1 (KKJ hlt hlt2 (Ec hb)))) (λhb=>?_)
  rw [w64 (by omega) (by omega)]
  exact hself _ _ ⟨k+1,by push_cast;rfl,hlt,rfl,KGp hlt hlt2 ha (EM (Ed hb))⟩ (by omega)
 ·have:k=l.length:=by have:=Ed hge;omega
  subst this
  exact H2 (KBt hl ha)
theorem KVA {l m:List (Eb)} (hS:∀k,S k->k<h.size) (hT:∀k,T k->k<h.size) (g:h[b]?=some (.cells (stC op x1 x2 x3 x4 x5) KU (0,0))) (g2:h[c]?=some (.cells (stC op2 y1 y2 y3 y4 y5) KU (0,0))) (R:RowS 1 zQ S h x1 l) (R2:RowS 1 zQ T h y1 m) (hl:l.length=m.length) (hm:l.length<=1099511627776)
  (H1:l≠m->Q false h) (H2:l=m->(M.loop (Ur self1 i ⟨b,0,none⟩ ⟨c,0,none⟩) 0).wp h Q):(M.loop (Jg self1 i ⟨b,0,none⟩ ⟨c,0,none⟩) 0).wp h Q:=by
 have lx:=R.len
 have ly:=R2.len
 refine M.loop_inv (λ(j:Int) hh=>∃k:Nat,j=(k:Int)/\k<=l.length/\hh=h/\l.take k=m.take k) (λj _=>l.length - j.toNat) ?_ ⟨0,rfl,El _,rfl,rfl⟩
 rintro j hh ⟨k,rfl,hk,rfl,ha⟩ self hself
 unfold Jg
 have e1:KJ hh (Addr.add ⟨b,0,none⟩ 1)=some x1.v:=by rw [KM,KF g];rfl
 have f1:KJ hh (Addr.add ⟨c,0,none⟩ 1)=some y1.v:=by rw [KM,KF g2];rfl
 refine Kn e1 (KH (λhlt=>?_) (λhge=>?_))
 ·have hlt:k<l.length:=by have:=Ec hlt;omega
  have hlt2:k<m.length:=by omega
  refine Kn e1 (UZ R hlt rfl (λa c _ hs hc hv=>?_))
  have hv:c=#[sv l[k]]:=hv
  subst hv
  refine WO (n:=bs l[k]) (by have:=hc 0 (by decide);rw [add_zero]at this;exact this) (Kn f1 (UZ R2 hlt2 rfl (λa2 c2 _ hs2 hc2 hv2=>?_)))
  have hv2:c2=#[sv m[k]]:=hv2
  subst hv2
  refine WO (n:=bs m[k]) (by have:=hc2 0 (by decide);rw [add_zero]at this;exact this) ?_
  rw [KC4]
  refine KH (λhb=>KA (H1 (KKJ hlt hlt2 (by simpa using hb)))) (λhb=>?_)
  rw [w64 (by omega) (by omega)]
  exact hself _ _ ⟨k+1,by push_cast;rfl,hlt,rfl,KGp hlt hlt2 ha (by simpa using hb)⟩ (by omega)
 ·have:k=l.length:=by have:=Ed hge;omega
  subst this
  exact H2 (KBt hl ha)
end
theorem KNf:∀(n:Nat) (l:List St),sizeOf l<n->KQB l:=by
 intro n
 induction n with
 |zero=>intro l hn;omega
 |succ n ih=>
  intro l hn m S T x y h Q hS hT hx hy hw H
  have lx:=hx.len
  have ly:=hy.len
  have hll:=KI9 l
  unfold Ws
  rw [neI]
  refine KH (λhc=>KA (H _ _ ?_ (Ext.refl _))) (λhc=>?_)
  ·have:=Ec hc
   exact⟨λh=>(by cases h),λe=>by subst e;omega⟩
  have hlm:l.length=m.length:=by have:=Ed hc;omega
  refine M.loop_inv (λ(j:Int) hh=>∃k:Nat,j=(k:Int)/\k<=l.length/\Ext h hh/\l.take k=m.take k) (λj _=>l.length - j.toNat) ?_ ⟨0,rfl,El _,Ext.refl _,rfl⟩
  rintro j hh ⟨k,rfl,hk,E,ha⟩ self hself
  unfold Xc
  refine KH (λhlt=>?_) (λhge=>?_)
  ·have hlt:k<l.length:=by have:=Ec hlt;omega
   have hlt2:k<m.length:=by omega
   have hmem:l[k]∈l:=EJ hlt
   have hsw:=KGo hmem
   have hso:=KZY l[k]
   have no:∀{hh:Heap},Ext h hh->l[k]≠m[k]->Q false hh:=λE hne=>H _ _ ⟨λh=>(by cases h),λe=>absurd e (KKJ hlt hlt2 hne)⟩ E
   have hE0:=E
   refine UZ (Ky Vd hS hx E) hlt rfl (λa c _ hs hc hv=>YF hs hc ?_)
   obtain⟨x1,x2,x3,x4,x5,rfl,hI,r1,r2,r3,r4,r5⟩:=WR.ex hv
   refine Kw (λh1 e1 s1 g1=>ZH rfl (stR g1 (Ee 6) KLo (λh2 u2 g2=>?_)))
   have e12:Ext hh h2:=e1.upd u2 (Ee _)
   have g2:h2[hh.size]?=some (.cells (stC l[k].op x1 x2 x3 x4 x5) KU (0,0)):=by
    have e:lay (#[.int .i64 0,.slice none 0 0,.slice none 0 0,.slice none 0 0,.slice none 0 0,.slice none 0 0]:Ea) 0 (stC l[k].op x1 x2 x3 x4 x5).toList=stC l[k].op x1 x2 x3 x4 x5:=KW (by rfl)
    rw [<-e];exact g2
   have E2:=E.trans e12
   refine UZ (Ky Vd hT hy E2) hlt2 rfl (λa c _ hs hc hv2=>YF hs hc ?_)
   obtain⟨y1,y2,y3,y4,y5,rfl,hI2,q1,q2,q3,q4,q5⟩:=WR.ex hv2
   refine Kw (λh3 e3 s3 g3=>ZH rfl (stR g3 (Ee 6) KLo (λh4 u4 g4=>?_)))
   have e34:Ext h2 h4:=e3.upd u4 (Ee _)
   have g4:h4[h2.size]?=some (.cells (stC m[k].op y1 y2 y3 y4 y5) KU (0,0)):=by
    have e:lay (#[.int .i64 0,.slice none 0 0,.slice none 0 0,.slice none 0 0,.slice none 0 0,.slice none 0 0]:Ea) 0 (stC m[k].op y1 y2 y3 y4 y5).toList=stC m[k].op y1 y2 y3 y4 y5:=KW (by rfl)
    rw [<-e];exact g4
   have E4:=E2.trans e34
   have k2:=e34.blk g2
   have S1:∀k,S k->k<hh.size:=λk hk=>Ez (hS k hk) E.size
   have T2:∀k,T k->k<h2.size:=λk hk=>Ez (hT k hk) E2.size
   have S4:∀k,S k->k<h4.size:=λk hk=>Ez (hS k hk) E4.size
   have T4:∀k,T k->k<h4.size:=λk hk=>Ez (hT k hk) E4.size
   have X1:=Ky Z0 S1 r1 (e12.trans e34)
   have X2:=Ky Jq S1 r2 (e12.trans e34)
   have X3:=Ky JY S1 r3 (e12.trans e34)
   have X4:=r4.to.ext (e12.trans e34)
   have X5:=Ky UY S1 r5 (e12.trans e34)
   have Y1:=Ky Z0 T2 q1 e34
   have Y2:=Ky Jq T2 q2 e34
   have Y3:=Ky JY T2 q3 e34
   have Y4:=q4.to.ext e34
   have Y5:=Ky UY T2 q5 e34
   have n1:=r1.len
   have n2:=r2.len
   have n5:=r5.len
   have m1:=q1.len
   have m2:=q2.len
   have m5:=q5.len
   have hln:=hso.n
   have la:∀{h5:Heap} {i:Nat} {x:Sl},Ext h4 h5->(stC l[k].op x1 x2 x3 x4 x5)[i]?=some x.v->KJ h5 (Addr.add ⟨hh.size,0,none⟩ i)=some x.v:=λ{h5 i x} e hx=>by rw [KM,KF (e.blk k2),EC];exact hx
   have lb:∀{h5:Heap} {i:Nat} {x:Sl},Ext h4 h5->(stC m[k].op y1 y2 y3 y4 y5)[i]?=some x.v->KJ h5 (Addr.add ⟨h2.size,0,none⟩ i)=some x.v:=λ{h5 i x} e hx=>by rw [KM,KF (e.blk g4),EC];exact hx
   have z:=Ext.refl h4
   refine KV (n:=l[k].op) (by rw [KM,KF k2];rfl) (KV (n:=m[k].op) (by rw [KM,KF g4];rfl) ?_)
   rw [neI]
   refine or_b (c:=decide ((x1.len:Int)≠(y1.len:Int))) (λ_ Q' hq=>Kn (la z (i:=1) rfl) (Kn (lb z (i:=1) rfl) (by rw [neI];exact KA hq))) ?_
   refine or_b (c:=decide ((x2.len:Int)≠(y2.len:Int))) (λ_ Q' hq=>Kn (la z (i:=2) rfl) (Kn (lb z (i:=2) rfl) (by rw [neI];exact KA hq))) ?_
   have subs:∀{h5:Heap} {b:Bool},Ext h4 h5->(b=true->l[k]≠m[k])->(b=false->l[k].op=m[k].op/\l[k].ns.length=m[k].ns.length/\l[k].us.length=m[k].us.length/\l[k].ps=m[k].ps/\l[k].vs=m[k].vs)->(do
     let Xx42<-M.ite b (do
      M.pure true
      ) (do
      let Xx43<-ldL ((⟨hh.size,0,none⟩:Addr).add 5)
      let Xx44<-ldL ((⟨h2.size,0,none⟩:Addr).add 5)
      M.pure ((Xx43.len:Int) !=(Xx44.len:Int))
      )
     M.ite Xx42 (do
      M.pure false
      ) (do
      M.loop (Jg self (k:Int) (⟨hh.size,0,none⟩:Addr) (⟨h2.size,0,none⟩:Addr)) 0
      ):M Bool).wp h5 Q:=λ{h5 b} e5 hT1 hF=>by
    have E5:=E4.trans e5
    refine or_b (c:=decide ((x5.len:Int)≠(y5.len:Int))) (λ_ Q' hq=>Kn (la e5 (i:=5) rfl) (Kn (lb e5 (i:=5) rfl) (by rw [neI];exact KA hq))) ?_
    refine KH (λhb=>KA (no E5 (λe=>?_))) (λhb=>?_)
    ·rw [EO]at hb
     rcases hb with hb|hb
     ·exact hT1 hb e
     ·have:=Ec hb
      rw [n5,m5,e]at this
      exact this rfl
    ·rw [Ff]at hb
     obtain⟨f1,f2,f3,f4,f5⟩:=hF hb.1
     have f6:=Ed hb.2
     have S5:∀k,S k->k<h5.size:=λk hk=>Ez (S4 k hk) e5.size
     have T5:∀k,T k->k<h5.size:=λk hk=>Ez (T4 k hk) e5.size
     refine KVA S5 T5 (e5.blk k2) (e5.blk g4) (Ky Z0 S4 X1 e5) (Ky Z0 T4 Y1 e5) f2 (by omega) (λhne=>no E5 (λe=>hne (by rw [e]))) (λeq1=>?_)
     refine KU9 (Q':=True) S5 T5 (e5.blk k2) (e5.blk g4) (Ky Jq S4 X2 e5) (Ky Jq T4 Y2 e5) f3 (by omega) (λhne=>no E5 (λe=>hne (by rw [e]))) (λeq2=>?_)
     refine KU8 S5 T5 (e5.blk k2) (e5.blk g4) (Ky UY S4 X5 e5) (Ky UY T4 Y5 e5) (by omega) (λr hr=>ih r (by have:=KP8 hmem hr;omega)) (by have:=hso.s;omega) (λhne h6 e6=>no (E5.trans e6) (λe=>hne (by rw [e]))) (λeq3 h6 e6=>?_)
     rw [w64 (by omega) (by omega)]
     exact hself _ _ ⟨k+1,by push_cast;rfl,hlt,E5.trans e6,KGp hlt hlt2 ha (St.ext f1 eq1 eq2 f4 f5 eq3)⟩ (by omega)
   have vals:∀{h5:Heap} {b:Bool},Ext h4 h5->(b=true->l[k]≠m[k])->(b=false->l[k].op=m[k].op/\l[k].ns.length=m[k].ns.length/\l[k].us.length=m[k].us.length/\l[k].ps=m[k].ps)->(do
     let Xx38<-M.ite b (do
      M.pure true
      ) (do
      let Xx39<-ldL ((⟨hh.size,0,none⟩:Addr).add 4)
      let Xx40<-ldL ((⟨h2.size,0,none⟩:Addr).add 4)
      let Xx41<-Z5 Xx39 Xx40
      M.pure (!Xx41)
      )
     let Xx42<-M.ite Xx38 (do
      M.pure true
      ) (do
      let Xx43<-ldL ((⟨hh.size,0,none⟩:Addr).add 5)
      let Xx44<-ldL ((⟨h2.size,0,none⟩:Addr).add 5)
      M.pure ((Xx43.len:Int) !=(Xx44.len:Int))
      )
     M.ite Xx42 (do
      M.pure false
      ) (do
      M.loop (Jg self (k:Int) (⟨hh.size,0,none⟩:Addr) (⟨h2.size,0,none⟩:Addr)) 0
      ):M Bool).wp h5 Q:=λ{h5 b} e5 hT1 hF=>by
    refine KJF (λhb=>KZ (subs e5 (λ_=>hT1 hb) (λh=>by cases h))) (λhb=>?_)
    refine KR (Kn (la e5 (i:=4) rfl) (KR (Kn (lb e5 (i:=4) rfl) (KR (KD (KF0 (X4.ext e5) (Y4.ext e5) (λr h6 hr e6=>KZ (subs (e5.trans e6) (λh e=>?_) (λh=>?_)))))))))
    ·rw [hr.2 (by rw [e])]at h;cases h
    ·obtain⟨f1,f2,f3,f4⟩:=hF hb
     exact⟨f1,f2,f3,f4,hr.1 (by simpa using h)⟩
   refine KJF (λhb=>KZ (vals z (λ_ e=>?_) (λh=>by cases h))) (λhb=>?_)
   ·simp only [EO,EN]at hb
    rcases hb with(hb|hb)|hb
    ·exact hb (by rw [e])
    ·rw [n1,m1,e]at hb;exact hb rfl
    ·rw [n2,m2,e]at hb;exact hb rfl
   ·simp only [Ff,EQ,Decidable.not_not]at hb
    refine KR (Kn (la z (i:=3) rfl) (KR (Kn (lb z (i:=3) rfl) (KR (KD (KOl S4 T4 X3 Y3 (by omega) (λr h6 hr e6=>KZ (vals e6 (λh e=>?_) (λh=>?_)))))))))
    ·rw [hr.2 (by rw [e])]at h;cases h
    ·exact⟨hb.1.1,by omega,by omega,hr.1 (by simpa using h)⟩
  ·have:k=l.length:=by have:=Ed hge;omega
   subst this
   exact KA (H _ _ ⟨λ_=>KBt hlm ha,λ_=>rfl⟩ E)
end Gx
namespace Gx
open Go
def sepH:Ly->Eb
 | []=>[]
 |y::_=>y.1
def padL (bl:Nat->Eb):Nat->Eb->Ly->Ly
 |_,_,[]=>[]
 |i,pre,x::r=>(x.1++pre,x.2)::padL bl (i+1) (bl i) r
def padE (bl:Nat->Eb):Nat->Eb->Ly->Eb
 |_,pre,[]=>pre
 |i,_,_::r=>padE bl (i+1) (bl i) r
def addT (bl:Nat->Eb):Nat->Ly->Eb
 |_,[]=>[]
 |i,x::r=>tkT x.2++(sepH r++(bl i++addT bl (i+1) r))
theorem KQC (bl:Nat->Eb):∀(L:Ly) (i:Nat) (pre:Eb),layT (padL bl i pre L)++padE bl i pre L=sepH L++(pre++addT bl i L)
 | [],i,pre=>by simp [padL,padE,addT,layT,sepH]
 |x::r,i,pre=>by
  have ih:=KQC bl r (i+1) (bl i)
  rw [padL,padE,layT,Ek,Ek,Ek,ih,addT,sepH]
theorem KV4 (bl:Nat->Eb):∀(L:Ly) (i:Nat) (pre:Eb),ky (padL bl i pre L)=ky L
 | [],i,pre=>rfl
 |x::r,i,pre=>by rw [padL,KI5,KI5,KV4 bl r]
theorem KTG (bl:Nat->Eb):∀(L:Ly) (i:Nat) (pre:Eb),(padL bl i pre L).length=L.length
 | [],i,pre=>rfl
 |x::r,i,pre=>by rw [padL,Ef,Ef,KTG bl r]
theorem KQD {bl:Nat->Eb} (hb:∀i,∀c∈bl i,JD c=true):∀(L:Ly) (i:Nat) (pre:Eb),(∀c∈pre,JD c=true)->Je L->Je (padL bl i pre L)
 | [],i,pre,_,_=>trivial
 |x::r,i,pre,hp,hg=>by
  obtain⟨h1,h2,h3,h4,h5⟩:=hg
  rw [padL]
  refine⟨λc hc=>(F0.1 hc).elim (h1 c) (hp c),h2,h3,?_,KQD hb r (i+1) (bl i) (hb i) h5⟩
  cases r with
  |nil=>trivial
  |cons y r=>
   rw [padL]
   intro hk
   rcases h4 hk with h|h
   ·left
    intro e
    exact h (Ox.1 e).1
   ·exact .inr h
theorem KTH {bl:Nat->Eb} (hb:∀i,∀c∈bl i,JD c=true):∀(L:Ly) (i:Nat) (pre:Eb),(∀c∈pre,JD c=true)->∀c∈padE bl i pre L,JD c=true
 | [],i,pre,hp=>hp
 |x::r,i,pre,hp=>KTH hb r (i+1) (bl i) (hb i)
theorem KOn {bl:Nat->Eb} (hb:∀i,(bl i).length<=3):∀(L:Ly) (i:Nat),(addT bl i L).length+(sepH L).length<=(layT L).length+3*L.length
 | [],i=>by simp [addT,sepH]
 |x::r,i=>by
  have ih:=KOn hb r (i+1)
  have:=hb i
  rw [addT,layT]
  simp only [sepH,List.length_append,Ef]at ih⊢
  omega
theorem KTI {s:Eb}:∀(L:Ly) (a:Nat),a<=s.length->s.drop a=layT L->∀(k:Nat) (hk:k<L.length),∃p:Nat,(posL a L)[k]?=some (p:Int)/\p<=s.length/\s.drop p=tkT L[k].2++layT (L.drop (k+1))/\
  (k+1<L.length->(posL a L)[k+1]?=some ((p+(tkT L[k].2).length+(sepH (L.drop (k+1))).length:Nat):Int))/\(k+1=L.length->s.length=p+(tkT L[k].2).length)
 |x::r,a,ha,hd,0,hk=>by
  rw [layT]at hd
  have hl:s.length=a+(x.1.length+((tkT x.2).length+(layT r).length)):=by
   have:=Ew List.length hd
   simp only [Ex,List.length_append]at this
   omega
  refine⟨a+x.1.length,rfl,by omega,?_,λh1=>?_,λh1=>?_⟩
  ·rw [<-FV,hd,Is];rfl
  ·cases r with
   |nil=>simp at h1
   |cons y r=>rfl
  ·have:r=[]:=E8.1 (by simpa using h1.symm)
   subst this
   simp only [layT,En]at hl
   show s.length=a+x.1.length+(tkT x.2).length
   omega
 |x::r,a,ha,hd,k+1,hk=>by
  rw [layT]at hd
  have hl:s.length=a+(x.1.length+((tkT x.2).length+(layT r).length)):=by
   have:=Ew List.length hd
   simp only [Ex,List.length_append]at this
   omega
  have hd2:s.drop (a+x.1.length+(tkT x.2).length)=layT r:=by rw [<-FV,<-FV,hd,Is,Is]
  obtain⟨p,h1,h2,h3,h4,h5⟩:=KTI r (a+x.1.length+(tkT x.2).length) (by omega) hd2 k (by simpa using hk)
  exact⟨p,h1,h2,h3,λh=>h4 (by simpa using h),λh=>h5 (by simpa using h)⟩
theorem KXk {L:Ly}:∃q,layT L=sepH L++q:=by
 cases L with
 |nil=>exact⟨[],rfl⟩
 |cons x r=>exact⟨_,rfl⟩
def blW (ws:List Nat) (k:Nat):Eb:=match ws[k]? with
 |some z=>([32,10,32]:Eb).take (z%4)
 |none=>[]
theorem KNg (ws:List Nat) (k:Nat):∀c∈blW ws k,JD c=true:=by
 intro c hc
 unfold blW at hc
 split at hc
 ·have:=List.mem_of_mem_take hc
  simp only [ED,EP,Fr]at this
  rcases this with rfl|rfl|rfl<;>rfl
 ·cases hc
theorem KOo (ws:List Nat) (k:Nat):(blW ws k).length<=3:=by
 unfold blW
 split
 ·rw [EI];simp;omega
 ·exact El _
theorem KXl {l:List St} (G:Goes l) (wf:wfL l) (ws:List Nat) (hlen:(txG l).length<=4096):prdP parF (addT (blW ws) 0 (lyoG l))=((((addT (blW ws) 0 (lyoG l)).length:Int),0),some l):=by
 have hg:=KVv G.gd wf
 have hlay:=KZS G.gd
 have e0:sepH (lyoG l)=[]:=rfl
 have ht:=KQC (blW ws) (lyoG l) 0 []
 rw [e0,EW,EW]at ht
 have hal:=KOn (KOo ws) (lyoG l) 0
 rw [e0,hlay]at hal
 have hnl:(lyoG l).length<=(txG l).length:=by
  rw [<-hlay]
  have:∀L:Ly,Je L->L.length<=(layT L).length:=λL=>by
   induction L with
   |nil=>exact λ_=>Ee _
   |cons x r ih=>
    intro hg
    obtain⟨_,h2,_,_,h5⟩:=hg
    have:=ih h5
    obtain⟨c,w,hc,_⟩:=KHX h2
    rw [layT,List.length_append,List.length_append,Ef,hc,Ef]
    omega
  exact this _ hg
 refine(KXV G (L:=padL (blW ws) 0 [] (lyoG l)) (w:=padE (blW ws) 0 [] (lyoG l)) ht.symm (KTH (KNg ws) _ _ _ bl0) (KQD (KNg ws) _ _ _ bl0 hg) (KV4 _ _ _ _) (by simp only [En]at hal;omega)).1 (by rw [KTG];omega)
end Gx
namespace Gx
open Go
theorem KQ3 {S T:Nat->Prop} {x y:Sl} {l:List St} {ws:List Nat} {h:Heap} {Q:Bool->Heap->Prop} (hS:∀k,S k->k<h.size) (R:YE S h x l) (hT:∀k,T k->k<h.size) (W:RowS 1 KP2 T h y ws) (hw:swL l<=1048576) (hp:KMQ h) (hd:KRh h) (he:ErrV h) (H:∀h',Ext h h'->Q true h'):(We x y).wp h Q:=by
 obtain⟨wf,hi64⟩:=R.wf
 unfold We
 refine KD (KU2 _ l (EH _) hS R (by omega) (λb h1 e1=>KH (λ_=>KA (H _ e1)) (λ_=>?_)))
 have hS1:∀k,S k->k<h1.size:=λk hk=>Ez (hS k hk) e1.size
 refine KD (KLv hS1 (Ky Vd hS R e1) (by omega) (λh2 e2=>?_))
 have E2:=e1.trans e2
 refine KD (KG3 (he.ext E2) (λh3 e3=>Y9 rfl (KZ ?_)))
 have E3:=E2.trans e3
 dsimp only
 rw [neI,Ke]
 refine or_b (c:=decide (((prtL l).1.length:Int)>4096)) (λ_ Q' hq=>KA hq) ?_
 refine KH (λ_=>KD (KG3 (he.ext E3) (λh4 e4=>KA (H _ (E3.trans e4))))) (λhc=>?_)
 simp only [Ff,EQ,Decidable.not_not]at hc
 have hck:chkL l=0:=by
  by_cases hk:chkL l=0
  ·exact hk
  ·have h1:=hc.1
   unfold prtL at h1
   rw [if_neg hk]at h1
   exact h1
 have G:=KNc.1 hck
 have hs:(prtL l).1=txG l:=by unfold prtL;rw [if_pos hck]
 rw [hs]at hc⊢
 have hlen:(txG l).length<=4096:=by omega
 have hg:=KVv G.gd wf
 have hlay:=KZS G.gd
 obtain⟨a1,a2,a3⟩:=KLk (s:=txG l) (w:=[]) bl0 (lyoG l) 0 (El _) (by rw [Fd,hlay,E0]) hg
 have hpar:=KXl G wf ws hlen
 have hadd:=KOn (KOo ws) (lyoG l) 0
 have hnl:(allT (txG l) 0).1.length=(lyoG l).length:=KS3 a1
 have hnl2:(lyoG l).length<=(txG l).length:=by
  rw [<-hlay]
  have:∀L:Ly,Je L->L.length<=(layT L).length:=λL=>by
   induction L with
   |nil=>exact λ_=>Ee _
   |cons x r ih=>
    intro hg
    obtain⟨_,h2,_,_,h5⟩:=hg
    have:=ih h5
    obtain⟨c,w,hc,_⟩:=KHX h2
    rw [layT,List.length_append,List.length_append,Ef,hc,Ef]
    omega
  exact this _ hg
 have hx:=KSM (s:=txG l) (by omega) (by omega) a3
 rw [hlay]at hadd
 refine KD (KSY (λh4 r e4 RT=>?_))
 rw [hx]at RT⊢
 dsimp only at RT⊢
 have E4:=E3.trans e4
 generalize hts:(allT (txG l) 0).1=ts at a1 a2 hnl RT
 generalize hL:lyoG l=L at a1 a2 hnl hadd hpar hnl2
 generalize hss:txG l=s at hlen hadd hnl2 hlay
 have hlayL:layT L=s:=by rw [<-hL,hlay]
 have hrl:r.len=ts.length:=RT.1
 have hyl:=W.len
 refine iteF (show((0:Int) !=0)=false from rfl) ?_
 refine M.loop_inv (λ(t:ByteArray×Int) hh=>∃(k:Nat) (g:Eb),t=(bs g,(k:Int))/\k<=L.length/\Ext h4 hh/\g++addT (blW ws) k (L.drop k)=addT (blW ws) 0 L) (λt _=>L.length - t.2.toNat) ?_ ⟨0,[],rfl,El _,Ext.refl _,rfl⟩
 rintro t hh ⟨k,g,rfl,hk,E,hgk⟩ self hself
 have EE:=E4.trans E
 unfold U1
 have hglen:g.length<=16384:=by
  have:=Ew List.length hgk
  rw [List.length_append]at this
  omega
 refine KH (λhlt=>?_) (λhge=>?_)
 ·have hlt:k<L.length:=by have:=Ec hlt;omega
  have hltt:k<ts.length:=by omega
  refine KXC (RT.ext E) hltt (λh5 e5 g5=>?_)
  have E5:=E.trans e5
  obtain⟨p,p1,p2,p3,p4,p5⟩:=KTI (s:=s) L 0 (El _) (by rw [Fd];exact hlayL.symm) k hlt
  have hpa:ts[k].a=(p:Int):=by
   have:(ts.map (·.a))[k]?=some (p:Int):=by rw [a2];exact p1
   rw [Fs,Em hltt]at this
   exact Option.some.inj this
  obtain⟨q',hq'⟩:=KXk (L:=L.drop (k+1))
  have hsl:s.length=p+(tkT L[k].2).length+(sepH (L.drop (k+1))).length+q'.length:=by
   have:=Ew List.length p3
   rw [hq']at this
   simp only [Ex,List.length_append]at this
   omega
  have hdk:L.drop k=L[k]::L.drop (k+1):=Eh hlt
  have hak:addT (blW ws) k (L.drop k)=tkT L[k].2++(sepH (L.drop (k+1))++(blW ws k++addT (blW ws) (k+1) (L.drop (k+1)))):=by rw [hdk,addT]
  have hgk2:=Ew List.length hgk
  rw [hak]at hgk2
  simp only [List.length_append]at hgk2
  have nxt:∀{h6:Heap} {e:Int},Ext h5 h6->e=((p+(tkT L[k].2).length+(sepH (L.drop (k+1))).length:Nat):Int)->(Zt self y (bs s) (bs g) (k:Int) ⟨hh.size,0,none⟩ (k:Int) e).wp h6 Q:=λ{h6 e} e6 hev=>by
   have E6:=E5.trans e6
   unfold Zt
   refine KV (n:=(p:Int)) (by rw [KM,KF (e6.blk g5),EC,<-hpa];rfl) ?_
   refine KAu (s:=s) (a:=p) (b:=p+(tkT L[k].2).length+(sepH (L.drop (k+1))).length) rfl hev (by omega) (by omega) ?_
   have hcut:(s.drop p).take (p+(tkT L[k].2).length+(sepH (L.drop (k+1))).length - p)=tkT L[k].2++sepH (L.drop (k+1)):=by
    rw [p3,hq',<-Ek,show p+(tkT L[k].2).length+(sepH (L.drop (k+1))).length - p=(tkT L[k].2++sepH (L.drop (k+1))).length by rw [List.length_append];omega]
    exact F7
   rw [hcut]
   refine Xk (by rw [List.length_append];omega) ?_
   have fin:∀{g2:Eb},g2=g++(tkT L[k].2++sepH (L.drop (k+1)))++blW ws k->(Zs self (k:Int) (bs g2)).wp h6 Q:=λ{g2} hg2=>by
    unfold Zs
    rw [w64 (by omega) (by omega)]
    refine hself (_,_) _ ⟨k+1,g2,Ik rfl (by push_cast;rfl),hlt,E6,?_⟩ (by dsimp only;omega)
    rw [<-hgk,hak,hg2]
    simp only [Ek]
   refine KH (λhwk=>?_) (λhwk=>?_)
   ·have hwk:k<ws.length:=by have:=Ec hwk;omega
    have hTh:∀k,T k->k<h6.size:=λk hk=>Ez (hT k hk) (E4.trans E6).size
    refine UZ (Ky KUu hT W (E4.trans E6)) hwk rfl (λa c _ hs1 hc hv=>?_)
    obtain⟨rfl,hz⟩:=hv
    refine KV (n:=(ws[k]:Int)) (by have:=hc 0 (by decide);rw [add_zero]at this;exact this) ?_
    have htm:Int.tmod (ws[k]:Int) 4=((ws[k]%4:Nat):Int):=by rw [FD (by omega)];rfl
    refine KAu (s:=[32,10,32]) (a:=0) (b:=ws[k]%4) rfl htm (El _) (by simp;omega) ?_
    have hbl:blW ws k=([32,10,32]:Eb).take (ws[k]%4):=by unfold blW;rw [Em hwk]
    rw [Fd,FW,<-hbl]
    have:=KOo ws k
    exact Xk (by simp only [List.length_append];omega) (fin rfl)
   ·have hwk:ws.length<=k:=by have:=Ed hwk;omega
    refine fin ?_
    unfold blW
    rw [EK hwk,E0]
  rw [w64 (by omega) (by omega)]
  refine KH (λhn=>?_) (λhn=>?_)
  ·have hn:k+1<ts.length:=by have:=Ec hn;omega
   obtain⟨b,hb,hcb⟩:=(RT.ext E5).at hn
   refine NM (by omega) (by rw [hrl];omega) hb ?_
   rw [show((k:Int)+1).toNat=k+1 by omega]
   have hq:=p4 (by omega)
   have hqa:ts[k+1].a=((p+(tkT L[k].2).length+(sepH (L.drop (k+1))).length:Nat):Int):=by
    have:(ts.map (·.a))[k+1]?=some ((p+(tkT L[k].2).length+(sepH (L.drop (k+1))).length:Nat):Int):=by rw [a2];exact hq
    rw [Fs,Em hn]at this
    exact Option.some.inj this
   exact KV (n:=ts[k+1].a) (by rw [hcb 3 (by decide)];rfl) (nxt (Ext.refl _) hqa)
  ·have hn:k+1=L.length:=by have:=Ed hn;omega
   have h5':=p5 hn
   have hsn:sepH (L.drop (k+1))=[]:=by rw [List.drop_eq_nil_of_le (by omega)];rfl
   rw [Ke]
   exact nxt (Ext.refl _) (by rw [hsn];simp only [En];omega)
 ·have hkL:k=L.length:=by have:=Ed hge;omega
  subst hkL
  rw [EY,addT,E0]at hgk
  subst hgk
  refine KD (KES (he.ext EE) (λz hz=>by rw [hpar]at hz;cases hz) (λl2 h5 z hpr e5 R5=>?_) (λz h5 hpr e5=>by rw [hpar]at hpr;cases hpr))
  rw [hpar]at hpr
  cases hpr
  have E5:=EE.trans e5
  refine Ve rfl (KZ ?_)
  rw [Ke]
  refine Ve (beq_self_eq_true _) (KR (KD (KNf _ l (EH _) (λk hk=>hk.2) (λk hk=>Ez (hS k hk) E5.size) R5 (Ky Vd hS R E5) (by omega) (λrr h6 hr e6=>KZ (KA ?_)))))
  rw [hr.2 rfl]
  exact H _ (E5.trans e6)
end Gx
namespace Go.Proofs.YtpibdohdkfkcnaaGreatDoor
open Go Go.RowKit Gx
theorem c3:Tryz.prog.cellsOf 3=1:=by kernel_rfl
theorem c2:Tryz.prog.cellsOf 2=1:=by kernel_rfl
theorem c9:Tryz.prog.cellsOf 9=1:=by kernel_rfl
section
variable {H:Type} {enc:TypeId×Value->H}
theorem KF1 {W:World} {t:TypeId} {n:Nat} {c:Value} {x:DataW H×List MemPlace} {sp:Nat->Bool} {held:Bool} {base:Nat} (ht:Tryz.prog.underlying t=some (.int .i64)) (h:DataW.trod enc Tryz.prog W base sp held n t [c]=some x):∃z,c=.int .i64 z/\I64 z/\Rows.uptoBulk x.1=1:=by
 cases n with
 |zero=>simp [DataW.trod]at h
 |succ n=>
  unfold DataW.trod at h
  rw [ht]at h
  cases c with
  |int k z=>
   simp only at h
   split at h
   ·rename_i hk
    obtain⟨rfl,hw⟩:=hk
    cases h
    refine⟨z,rfl,?_,by simp [Rows.uptoBulk]⟩
    have:-9223372036854775808<=z/\z<=9223372036854775807:=by simpa [Lit.wf,IntKind.min,IntKind.max,IntKind.signed,IntKind.bits] using hw
    exact this
   ·cases h
  |_=>simp at h
theorem KQE {W:World} {t:TypeId} {n:Nat} {c:Value} {x:DataW H×List MemPlace} {sp:Nat->Bool} {held:Bool} {base:Nat} (ht:Tryz.prog.underlying t=some .string) (h:DataW.trod enc Tryz.prog W base sp held n t [c]=some x):∃s:ByteArray,c=.string s/\s.size<=maxLen/\Rows.uptoBulk x.1=s.data.toList.length+1:=by
 cases n with
 |zero=>simp [DataW.trod]at h
 |succ n=>
  unfold DataW.trod at h
  rw [ht]at h
  cases c with
  |string s=>
   simp only at h
   split at h
   ·rename_i hk
    cases h
    exact⟨s,rfl,hk,by simp [Rows.uptoBulk]⟩
   ·cases h
  |_=>simp at h
theorem KXm {W:World} {t:TypeId} {n:Nat} {c:Value} {x:DataW H×List MemPlace} {sp:Nat->Bool} {held:Bool} {base:Nat} (ht:Tryz.prog.underlying t=some (.int .u8)) (h:DataW.trod enc Tryz.prog W base sp held n t [c]=some x):∃z:Nat,c=.int .u8 (z:Int)/\z<=255:=by
 cases n with
 |zero=>simp [DataW.trod]at h
 |succ n=>
  unfold DataW.trod at h
  rw [ht]at h
  cases c with
  |int k z=>
   simp only at h
   split at h
   ·rename_i hk
    obtain⟨rfl,hw⟩:=hk
    cases h
    have:0<=z/\z<=255:=by simpa [Lit.wf,IntKind.min,IntKind.max,IntKind.signed,IntKind.bits] using hw
    exact⟨z.toNat,by rw [IC this.1],by omega⟩
   ·cases h
  |_=>simp at h
theorem KJg {W:World} {a:Addr}:W.cell? a=KJ W.heap a:=rfl
end
end Go.Proofs.YtpibdohdkfkcnaaGreatDoor
namespace Gx
open Go Go.RowKit Go.ChangeShapes Go.WideShapes Go.ChangeAt Go.Joins
section
variable {H:Type} {enc:TypeId×Value->H} {P:Program}
theorem KVB {W W':World} (he:Ext W.heap W'.heap) {p:MemPlace} (hp:p.block<W.heap.size):W.sameAt W' p:=by
 cases p with
 |cell b o=>exact World.cell?_of_block (w:=W) (he.same b hp)
 |map b=>exact he.same b hp
theorem KQF {t:TypeId} (hl:laidOutB P=true) (hr:P.readableRec t=true) (hrow:t<P.types.size) {W W':World} {v:Value} {d:DataW H} {ps:List MemPlace}
  (h:DataW.Trod enc P W 0 (λ_=>true) true t v d ps) (he:Ext W.heap W'.heap):
  DataW.Trod enc P W' 0 (λb=>decide (b<W.heap.size)) true t v d ps:=by
 have hlt:∀x∈ps,x.block<W.heap.size:=by
  obtain⟨m,hm⟩:=h
  exact DataW.trod_lt m _ _ _ hm
 exact WideElems.Trod_stays hl hr hrow h (λx hx=>KVB he (hlt x hx)) (λx hx=>by simpa using hlt x hx)
theorem KTJ {W W':World} (he:Ext W.heap W'.heap) (hr:Rest W W') (may:MemPlace->Prop):W.keptBut W' may:=by
 refine⟨hr.os,hr.output,λi hi=>?_⟩
 rw [he.same i hi]
 split<;>simp_all
end
end Gx
namespace Go.Proofs.YtpibdohdkfkcnaaGreatDoor
open Go Go.RowKit Go.ChangeShapes Go.WideShapes Go.ChangeAt Go.Joins Gx
theorem Own:ownKnob Tryz.prog.godebug=none:=by kernel_rfl
theorem Laid:laidOutB Tryz.prog=true:=by kernel_rfl
def KVC:List (String×DataW Unit):=[("math/bits.deBruijn32tab",Rows.laid_math_bits_deBruijn32tab),("math/bits.deBruijn64tab",Rows.laid_math_bits_deBruijn64tab),("internal/strconv.uint64pow10",Rows.laid_internal_strconv_uint64pow10),("unicode/utf8.acceptRanges",Rows.laid_unicode_utf8_acceptRanges),("strconv.ErrRange",Rows.laid_strconv_ErrRange),("strconv.ErrSyntax",Rows.laid_strconv_ErrSyntax),("unicode/utf8.first",Rows.laid_unicode_utf8_first)]
theorem gPow:Tryz.prog.globalNamed "internal/strconv.uint64pow10"=some 3:=by kernel_rfl
theorem gDb:Tryz.prog.globalNamed "math/bits.deBruijn64tab"=some 5:=by kernel_rfl
theorem qp {P:Program} {x:String×DataW Unit} {r:List (String×DataW Unit)} {W:World} (h:laidMet P (x::r) W):laidMet P r W:=by
 obtain⟨ps,h1,h2,h3⟩:=h
 obtain⟨n,d⟩:=x
 obtain⟨g,t,cs,fuel,p,q,a1,a2,a3,a4,a5,rfl⟩:=h1
 exact⟨q,a5,(List.nodup_append.1 h2).2.1,λb off hb=>h3 b off (F0.2 (.inr hb))⟩
theorem KXn {W:World} (h:laidMet Tryz.prog KVC W):KMQ W.heap:=by
 have h1:Lib.TabIs Tryz.prog W "internal/strconv.uint64pow10" .u64 [1,10,100,1000,10000,100000,1000000,10000000,100000000,1000000000,10000000000,100000000000,1000000000000,10000000000000,100000000000000,1000000000000000,10000000000000000,100000000000000000,1000000000000000000,10000000000000000000]:=
  Lib.tabIs_of_head (rest:=[("unicode/utf8.acceptRanges",Rows.laid_unicode_utf8_acceptRanges),("strconv.ErrRange",Rows.laid_strconv_ErrRange),("strconv.ErrSyntax",Rows.laid_strconv_ErrSyntax),("unicode/utf8.first",Rows.laid_unicode_utf8_first)]) gPow (by kernel_rfl:(Tryz.prog.globals[3]?).map (·.type)=some 250) Tryz.underlying250 Tryz.underlying216 (by kernel_rfl) (by kernel_rfl) (qp (qp h))
 unfold Lib.TabIs at h1
 simp only [World.var?,gPow,FG]at h1
 split at h1
 ·rename_i cs t fz hh
  cases h1
  exact⟨fz,t,hh⟩
 ·cases h1
theorem KZZ {W:World} (h:laidMet Tryz.prog KVC W):KRh W.heap:=by
 have h1:Lib.TabIs Tryz.prog W "math/bits.deBruijn64tab" .u8 [0,1,56,2,57,49,28,3,61,58,42,50,38,29,17,4,62,47,59,36,45,43,51,22,53,39,33,30,24,18,12,5,63,55,48,27,60,41,37,16,46,35,44,21,52,32,23,11,54,26,40,15,34,20,31,10,25,14,19,9,13,8,7,6]:=
  Lib.tabIs_of_head (rest:=[("internal/strconv.uint64pow10",Rows.laid_internal_strconv_uint64pow10),("unicode/utf8.acceptRanges",Rows.laid_unicode_utf8_acceptRanges),("strconv.ErrRange",Rows.laid_strconv_ErrRange),("strconv.ErrSyntax",Rows.laid_strconv_ErrSyntax),("unicode/utf8.first",Rows.laid_unicode_utf8_first)]) gDb (by kernel_rfl:(Tryz.prog.globals[5]?).map (·.type)=some 262) Tryz.underlying262 Tryz.underlying5 (by kernel_rfl) (by kernel_rfl) (qp h)
 unfold Lib.TabIs at h1
 simp only [World.var?,gDb,FG]at h1
 split at h1
 ·rename_i cs t fz hh
  cases h1
  exact⟨_,t,fz,hh,rfl⟩
 ·cases h1
def KLw (cs:Ea):Obj->Obj
 | .cells _ t frozen=>.cells cs t frozen
 |o=>o
def KXo (h:Array Obj):Array Obj:=(((h.modify 7 (KLw #[.iface 275 (.pointer (some ⟨h.size,0,none⟩))])).modify 6 (KLw #[.iface 275 (.pointer (some ⟨h.size+1,0,none⟩))])).push (.cells #[.string ⟨#[118,97,108,117,101,32,111,117,116,32,111,102,32,114,97,110,103,101]⟩] 277)).push (.cells #[.string ⟨#[105,110,118,97,108,105,100,32,115,121,110,116,97,120]⟩] 277)
noncomputable def litV:Lit->Value
 | .int k n=>.int k n
 | .bool b=>.bool b
 |_=>undef
noncomputable def KaS (ps:List (DataW Unit)):List Value:=ps.flatMap λp=>match p with
 | .lit l=>[litV l]
 | .agg qs=>qs.map λq=>match q with
  | .lit l=>litV l
  |_=>undef
 |_=>[]
noncomputable def KZa (l:List (String×DataW Unit)) (h:Array Obj):Array Obj:=l.foldl (λh x=>match Tryz.prog.globalNamed x.1,x.2 with
 |some g,.agg ps=>h.modify g (KLw (KaS ps).toArray)
 |_,_=>h) h
noncomputable def KJA (os:Os) (args:Ea):World:=
 {World.holding Tryz.prog os ⟨#[],args,[]⟩with heap:=KXo (KZa KVC (World.holding Tryz.prog os ⟨#[],args,[]⟩).heap)}
theorem gErr:Tryz.prog.globalNamed "strconv.ErrRange"=some 7:=by kernel_rfl
theorem KaT {W:World} (h:laidMet Tryz.prog KVC W):ErrV W.heap:=by
 obtain⟨ps,h1,h2,h3⟩:=(qp (qp (qp (qp h))))
 obtain⟨g,t,cs,fuel,p,q,a1,a2,a3,a4,a5,rfl⟩:=h1
 rw [gErr]at a1
 cases a1
 have ht:t=84:=Option.some.inj (a2.symm.trans (by kernel_rfl))
 subst ht
 have hcs:∃u v,cs.toList=[.iface u v]:=by
  cases fuel with
  |zero=>simp [DataW.trod]at a4
  |succ fuel=>
   unfold DataW.trod at a4
   rw [Tryz.underlying84]at a4
   cases hc:cs.toList with
   |nil=>rw [hc]at a4;simp at a4
   |cons c r=>
    rw [hc]at a4
    cases r with
    |cons c2 r2=>exfalso;cases c<;>simp at a4
    |nil=>cases c<;>first|exact⟨_,_,rfl⟩|(exfalso;simp [Rows.laid_strconv_ErrRange]at a4)
 obtain⟨u,v,hcs⟩:=hcs
 have hcs':cs=#[.iface u v]:=by
  apply Iw
  exact hcs
 subst hcs'
 simp only [World.var?,gErr,FG]at a3
 split at a3
 ·rename_i cs' t' fz hh
  cases a3
  exact⟨u,v,by rw [KF hh];rfl⟩
 ·cases a3
end Go.Proofs.YtpibdohdkfkcnaaGreatDoor
namespace Go.Proofs.YtpibdohdkfkcnaaGreatDoor
open Go Go.RowKit Gx
theorem cV:Tryz.prog.cellsOf 54=4:=by kernel_rfl
theorem cLV:Tryz.prog.cellsOf 52=1:=by kernel_rfl
theorem cST:Tryz.prog.cellsOf 9=1:=by kernel_rfl
theorem cI:Tryz.prog.cellsOf 3=1:=by kernel_rfl
theorem cI64:Tryz.prog.cellsOf 2=1:=by kernel_rfl
theorem cSP:Tryz.prog.cellsOf 94=6:=by kernel_rfl
theorem cPR:Tryz.prog.cellsOf 123=2:=by kernel_rfl
theorem cLN:Tryz.prog.cellsOf 89=1:=by kernel_rfl
theorem cLU:Tryz.prog.cellsOf 90=1:=by kernel_rfl
theorem cLP:Tryz.prog.cellsOf 91=1:=by kernel_rfl
theorem cLL:Tryz.prog.cellsOf 92=1:=by kernel_rfl
theorem cLS:Tryz.prog.cellsOf 43=1:=by kernel_rfl
theorem cU8:Tryz.prog.cellsOf 5=1:=by kernel_rfl
theorem KQG {α H:Type} {w:α->Nat}:∀(l:List α) (es:List (DataW H)),l.length=es.length->(∀i (h1:i<l.length) (h2:i<es.length),w l[i]<=Rows.uptoBulk es[i])->(l.map w).sum<=Rows.uptoBulkAll es
 | [],[],_,_=>by simp
 | [],_::_,h,_=>by simp at h
 |_::_,[],h,_=>by simp at h
 |v::l,d::es,h,hk=>by
  have h0:=hk 0 (by simp) (by simp)
  have:=KQG l es (by simpa using h) (λi h1 h2=>by
   have:=hk (i+1) (by simpa using h1) (by simpa using h2)
   simpa using this)
  simp only [FO]at h0
  simp only [Rows.uptoBulkAll,Er,Ft]
  omega
section
variable {H:Type} {enc:TypeId×Value->H}
theorem Gq {α:Type} {Rep:RepT α} {w:α->Nat} {T te:TypeId} {sz:Nat} {W:World} {sp:Nat->Bool} {held:Bool} {base:Nat} (hu:Tryz.prog.underlying T=some (.slice te)) (hc:Tryz.prog.cellsOf te=sz) (hz:0<sz) {m:Nat}
  (one:∀n cs x,n<m->DataW.trod enc Tryz.prog W base sp held n te cs=some x->∃a,Rep (· <W.heap.size) W.heap a cs.toArray/\w a<=Rows.uptoBulk x.1) {v:Value} {x:DataW H×List MemPlace} (h:DataW.trod enc Tryz.prog W base sp held m T [v]=some x):
  ∃(s:Sl) (l:List α),v=s.v/\RowS sz Rep (· <W.heap.size) W.heap s l/\s.len<=9223372036854775807/\(l.map w).sum+1<=Rows.uptoBulk x.1:=by
 rcases DataW.trod_slice hu h with⟨h0,hx⟩|⟨a,len,cap,elems,rest,n,hn,h1,hx,_,hle,hm,hlen,hel,_,_⟩
 ·cases h0
  refine⟨Sl.nil,[],rfl,RowS.nil,by decide,?_⟩
  rw [hx];simp [Rows.uptoBulk]
 ·cases h1
  rw [hc]at hel
  have key:∀i,i<len->∃(b:α) (cs:Ea),cs.size=sz/\(∀j,j<sz->KJ W.heap (a.add (i*sz+j))=cs[j]?)/\Rep (· <W.heap.size) W.heap b cs/\∀(h:i<elems.length),w b<=Rows.uptoBulk (elems[i]).1:=λi hi=>by
   have h2:=hel i hi
   rw [Em (by omega),Option.bind_eq_some_iff]at h2
   obtain⟨cs,hcs,ht⟩:=h2
   obtain⟨_,hl1,hcc⟩:=World.cells?_some hcs
   obtain⟨b,hb,hw⟩:=one n _ _ (by omega) ht
   refine⟨b,cs.toArray,by simpa using hl1,λj hj=>?_,hb,λ_=>hw⟩
   have:=hcc j hj
   rw [Addr.add_add]at this
   rw [KJg]at this
   rw [this];simp
  let l:=List.ofFn (λi:Fin len=>Classical.choose (key i i.2))
  have hL:l.length=len:=by simp [l]
  have hget:∀i (h:i<l.length),∃cs:Ea,cs.size=sz/\(∀j,j<sz->KJ W.heap (a.add (i*sz+j))=cs[j]?)/\Rep (· <W.heap.size) W.heap l[i] cs/\∀(h:i<elems.length),w l[i]<=Rows.uptoBulk (elems[i]).1:=λi h=>by
   have:=Classical.choose_spec (key i (by omega))
   simpa [l] using this
  refine⟨⟨some a,len,cap⟩,l,rfl,⟨hL.symm,hle,λj hj=>?_⟩,by unfold maxLen at hm;show len<=_;omega,?_⟩
  ·obtain⟨cs,h1,h2,h3,_⟩:=hget j hj
   refine⟨a,cs,rfl,?_,h1,h2,h3⟩
   have h0:=h2 0 hz
   rw [EF (by omega)]at h0
   have:=N3 h0
   rwa [Z8]at this
  ·rw [hx]
   have:=KQG (w:=w) l (elems.map (·.1)) (by rw [hL,EL,hlen]) (λi h1 h2=>by
    obtain⟨_,_,_,_,h4⟩:=hget i h1
    rw [Ie]
    exact h4 (by simpa using h2))
   simp only [Rows.uptoBulk]
   omega
theorem KLx:∀l:List Vl,(l.map wt).sum=wt.wts l
 | []=>rfl
 |v::l=>by rw [Er,Ft,KLx l,wt.wts]
theorem KTK {S:Nat->Prop} {h:Heap} {x:Sl} {l:List Vl} (R:RowS 4 VR S h x l) (hb:x.len<=9223372036854775807):VsRepS S h x l:=
 ⟨R.len,R.cap,hb,qk.of (λj hj=>by
  obtain⟨a,cs,h1,h2,h3,h4,h5⟩:=R.at_ j hj
  exact⟨a,cs,h1,h2,h3,λi hi=>by rw [EC];exact h4 i hi,h5⟩)⟩
theorem KQH {W:World} {sp:Nat->Bool} {held:Bool} {base:Nat}:∀(m:Nat) (cs:List Value) (x:DataW H×List MemPlace),DataW.trod enc Tryz.prog W base sp held m 54 cs=some x->∃v,VR (· <W.heap.size) W.heap v cs.toArray/\wt v<=Rows.uptoBulk x.1:=by
 intro m
 induction m using Nat.strongRecOn with
 |_ m ih=>
  intro cs x h
  obtain⟨xs,n,hn,hx,hcl,hxl,hf⟩:=DataW.trod_struct Tryz.underlying54 h
  rw [cV]at hcl
  have hxl:xs.length=4:=hxl
  match cs,hcl with
  | [a0,a1,a2,a3],_=>
  match xs,hxl with
  | [y0,y1,y2,y3],_=>
  have f0:DataW.trod enc Tryz.prog W base sp held n 3 (([a0,a1,a2,a3].drop 0).take (Tryz.prog.cellsOf 3))=some y0:=hf 0 _ rfl
  have f1:DataW.trod enc Tryz.prog W base sp held n 2 (([a0,a1,a2,a3].drop 1).take (Tryz.prog.cellsOf 2))=some y1:=hf 1 _ rfl
  have f2:DataW.trod enc Tryz.prog W base sp held n 9 (([a0,a1,a2,a3].drop 2).take (Tryz.prog.cellsOf 9))=some y2:=hf 2 _ rfl
  have f3:DataW.trod enc Tryz.prog W base sp held n 52 (([a0,a1,a2,a3].drop 3).take (Tryz.prog.cellsOf 52))=some y3:=hf 3 _ rfl
  rw [cI]at f0
  rw [cI64]at f1
  rw [cST]at f2
  rw [cLV]at f3
  obtain⟨k,rfl,hk,b0⟩:=KF1 Tryz.underlying3 f0
  obtain⟨nn,rfl,hnn,b1⟩:=KF1 Tryz.underlying2 f1
  obtain⟨s,rfl,hs,b2⟩:=KQE Tryz.underlying9 f2
  obtain⟨sl,l,rfl,hl,hb,b3⟩:=Gq (Rep:=VR) (w:=wt) Tryz.underlying52 cV (by decide) (λk cs x hk h=>ih k (by omega) cs x h) f3
  rw [KLx]at b3
  have hsb:bs s.data.toList=s:=by simp [bs]
  refine⟨.mk k nn s.data.toList l,Zg.eq.2 ⟨sl,by unfold ZK;rw [hsb],hk,hnn,?_,KTK hl hb⟩,?_⟩
  ·have:s.data.toList.length=s.size:=Ep
   rw [this];unfold maxLen at hs;omega
  ·rw [wt,hx]
   simp only [Er,Iq,Rows.uptoBulk,Rows.uptoBulkAll]
   omega
theorem KVD {W:World} {sp:Nat->Bool} {held:Bool} {base:Nat} (n:Nat) (cs:List Value) (x:DataW H×List MemPlace) (h:DataW.trod enc Tryz.prog W base sp held n 9 cs=some x):∃s,zQ (· <W.heap.size) W.heap s cs.toArray/\s.length+1<=Rows.uptoBulk x.1:=by
 cases n with
 |zero=>simp [DataW.trod]at h
 |succ n=>
  have h0:=h
  unfold DataW.trod at h
  rw [Tryz.underlying9]at h
  match cs,h with
  | [],h=>simp at h
  |a::b::r,h=>exfalso;cases a<;>simp at h
  | [c],h=>
   obtain⟨s,rfl,_,hb⟩:=KQE Tryz.underlying9 h0
   refine⟨s.data.toList,?_,by omega⟩
   show(#[Value.string s]:Ea)=#[sv s.data.toList]
   simp [sv,bs]
theorem KVE {W:World} {sp:Nat->Bool} {held:Bool} {base:Nat} (n:Nat) (cs:List Value) (x:DataW H×List MemPlace) (h:DataW.trod enc Tryz.prog W base sp held n 2 cs=some x):∃s,KAD (· <W.heap.size) W.heap s cs.toArray/\(λ_=>1) s<=Rows.uptoBulk x.1:=by
 cases n with
 |zero=>simp [DataW.trod]at h
 |succ n=>
  have h0:=h
  unfold DataW.trod at h
  rw [Tryz.underlying2]at h
  match cs,h with
  | [],h=>simp at h
  |a::b::r,h=>exfalso;cases a<;>simp at h
  | [c],h=>
   obtain⟨z,rfl,hI,hb⟩:=KF1 Tryz.underlying2 h0
   exact⟨z,⟨rfl,hI⟩,by show 1<=_;omega⟩
theorem KVF {W:World} {sp:Nat->Bool} {held:Bool} {base:Nat} (n:Nat) (cs:List Value) (x:DataW H×List MemPlace) (h:DataW.trod enc Tryz.prog W base sp held n 123 cs=some x):∃p,GI (· <W.heap.size) W.heap p cs.toArray/\(λp:Int×List Vl=>wt.wts p.2+1) p<=Rows.uptoBulk x.1:=by
 obtain⟨xs,m,hn,hx,hcl,hxl,hf⟩:=DataW.trod_struct Tryz.underlying123 h
 rw [cPR]at hcl
 have hxl:xs.length=2:=hxl
 match cs,hcl with
 | [a0,a1],_=>
 match xs,hxl with
 | [y0,y1],_=>
 have f0:DataW.trod enc Tryz.prog W base sp held m 3 (([a0,a1].drop 0).take (Tryz.prog.cellsOf 3))=some y0:=hf 0 _ rfl
 have f1:DataW.trod enc Tryz.prog W base sp held m 52 (([a0,a1].drop 1).take (Tryz.prog.cellsOf 52))=some y1:=hf 1 _ rfl
 rw [cI]at f0
 rw [cLV]at f1
 obtain⟨k,hk0,hk,b0⟩:=KF1 Tryz.underlying3 f0
 obtain⟨sl,l,hs0,hl,hb,b1⟩:=Gq (Rep:=VR) (w:=wt) Tryz.underlying52 cV (by decide) (λk cs x _ h=>KQH k cs x h) f1
 rw [KLx]at b1
 have hk0:a0=.int .i64 k:=hk0
 have hs0:a1=sl.v:=hs0
 refine⟨(k,l),⟨sl,by rw [hk0,hs0],hk,KTK hl hb⟩,?_⟩
 rw [hx]
 simp only [Er,Iq,Rows.uptoBulk,Rows.uptoBulkAll]
 omega
theorem KOp:∀l:List St,(l.map swS).sum=swL l
 | []=>rfl
 |v::l=>by rw [Er,Ft,KOp l,swL]
theorem KQI:∀r:List (List St),(r.map (λl=>swL l+1)).sum=swSs r
 | []=>rfl
 |v::l=>by rw [Er,Ft,KQI l,swSs]
theorem KVG {W:World} {sp:Nat->Bool} {held:Bool} {base:Nat}:∀(m:Nat) (cs:List Value) (x:DataW H×List MemPlace),DataW.trod enc Tryz.prog W base sp held m 94 cs=some x->∃s,StR (· <W.heap.size) W.heap s cs.toArray/\swS s<=Rows.uptoBulk x.1:=by
 intro m
 induction m using Nat.strongRecOn with
 |_ m ih=>
  intro cs x h
  obtain⟨xs,n,hn,hx,hcl,hxl,hf⟩:=DataW.trod_struct Tryz.underlying94 h
  rw [cSP]at hcl
  have hxl:xs.length=6:=hxl
  match cs,hcl with
  | [a0,a1,a2,a3,a4,a5],_=>
  match xs,hxl with
  | [y0,y1,y2,y3,y4,y5],_=>
  have f0:DataW.trod enc Tryz.prog W base sp held n 3 (([a0,a1,a2,a3,a4,a5].drop 0).take (Tryz.prog.cellsOf 3))=some y0:=hf 0 _ rfl
  have f1:DataW.trod enc Tryz.prog W base sp held n 89 (([a0,a1,a2,a3,a4,a5].drop 1).take (Tryz.prog.cellsOf 89))=some y1:=hf 1 _ rfl
  have f2:DataW.trod enc Tryz.prog W base sp held n 90 (([a0,a1,a2,a3,a4,a5].drop 2).take (Tryz.prog.cellsOf 90))=some y2:=hf 2 _ rfl
  have f3:DataW.trod enc Tryz.prog W base sp held n 91 (([a0,a1,a2,a3,a4,a5].drop 3).take (Tryz.prog.cellsOf 91))=some y3:=hf 3 _ rfl
  have f4:DataW.trod enc Tryz.prog W base sp held n 52 (([a0,a1,a2,a3,a4,a5].drop 4).take (Tryz.prog.cellsOf 52))=some y4:=hf 4 _ rfl
  have f5:DataW.trod enc Tryz.prog W base sp held n 92 (([a0,a1,a2,a3,a4,a5].drop 5).take (Tryz.prog.cellsOf 92))=some y5:=hf 5 _ rfl
  rw [cI]at f0
  rw [cLN]at f1
  rw [cLU]at f2
  rw [cLP]at f3
  rw [cLV]at f4
  rw [cLL]at f5
  obtain⟨k,hk0,hk,b0⟩:=KF1 Tryz.underlying3 f0
  obtain⟨x1,ns,h1,r1,_,b1⟩:=Gq (Rep:=zQ) (w:=λs=>s.length+1) Tryz.underlying89 cST (by decide) (λk cs x _ h=>KVD k cs x h) f1
  obtain⟨x2,us,h2,r2,_,b2⟩:=Gq (Rep:=KAD) (w:=λ_=>1) Tryz.underlying90 cI64 (by decide) (λk cs x _ h=>KVE k cs x h) f2
  obtain⟨x3,ps,h3,r3,_,b3⟩:=Gq (Rep:=GI) (w:=λp=>wt.wts p.2+1) Tryz.underlying91 cPR (by decide) (λk cs x _ h=>KVF k cs x h) f3
  obtain⟨x4,vs,h4,r4,hb4,b4⟩:=Gq (Rep:=VR) (w:=wt) Tryz.underlying52 cV (by decide) (λk cs x _ h=>KQH k cs x h) f4
  obtain⟨x5,ss,h5,r5,_,b5⟩:=Gq (Rep:=KAE) (w:=λl=>swL l+1) Tryz.underlying92 cLS (by decide) (λq cs x hq h=>by
   match q,cs,h with
   |0,_,h=>simp [DataW.trod]at h
   |q+1,cs,h=>
    have h0:=h
    unfold DataW.trod at h
    rw [Tryz.underlying43]at h
    match cs,h with
    | [],h=>simp at h
    |a::b::r,h=>exfalso;cases a<;>simp at h
    | [c],h=>
     obtain⟨y,l,e,R,_,hb⟩:=Gq (Rep:=StR) (w:=swS) Tryz.underlying43 cSP (by decide) (λk cs x hk h=>ih k (by omega) cs x h) h0
     rw [KOp]at hb
     exact⟨l,⟨y,by rw [e],R⟩,hb⟩) f5
  rw [KLx]at b4
  rw [KQI]at b5
  have hk0:a0=.int .i64 k:=hk0
  have h1:a1=x1.v:=h1
  have h2:a2=x2.v:=h2
  have h3:a3=x3.v:=h3
  have h4:a4=x4.v:=h4
  have h5:a5=x5.v:=h5
  refine⟨.mk k ns us ps vs ss,WR.eq.2 ⟨x1,x2,x3,x4,x5,by rw [hk0,h1,h2,h3,h4,h5],hk,r1,r2,r3,KTK r4 hb4,r5⟩,?_⟩
  have e2:(us.map (λ_=>1)).sum=us.length:=by
   clear r2 b2
   induction us with
   |nil=>rfl
   |cons a l ih=>rw [Er,Ft,ih,Ef];omega
  rw [e2]at b2
  rw [swS,hx]
  simp only [Er,Iq,Rows.uptoBulk,Rows.uptoBulkAll]
  omega
theorem KQ4 {W:World} {sp:Nat->Bool} {held:Bool} {base:Nat} {m:Nat} {v:Value} {x:DataW H×List MemPlace} (h:DataW.trod enc Tryz.prog W base sp held m 43 [v]=some x):∃(s:Sl) (l:List St),v=s.v/\YE (· <W.heap.size) W.heap s l/\swL l+1<=Rows.uptoBulk x.1:=by
 obtain⟨y,l,e,R,_,hb⟩:=Gq (Rep:=StR) (w:=swS) Tryz.underlying43 cSP (by decide) (λk cs x hk h=>KVG k cs x h) h
 rw [KOp]at hb
 exact⟨y,l,e,R,hb⟩
theorem KVH {W:World} {sp:Nat->Bool} {held:Bool} {base:Nat} {m:Nat} {v:Value} {x:DataW H×List MemPlace} (h:DataW.trod enc Tryz.prog W base sp held m 44 [v]=some x):∃(s:Sl) (l:List Nat),v=s.v/\RowS 1 KP2 (· <W.heap.size) W.heap s l/\s.len<=9223372036854775807:=by
 obtain⟨y,l,e,R,hm,hb⟩:=Gq (Rep:=KP2) (w:=λ_=>0) Tryz.underlying44 cU8 (by decide) (λq cs x hq h=>by
   match q,cs,h with
   |0,_,h=>simp [DataW.trod]at h
   |q+1,cs,h=>
    have h0:=h
    unfold DataW.trod at h
    rw [Tryz.underlying5]at h
    match cs,h with
    | [],h=>simp at h
    |a::b::r,h=>exfalso;cases a<;>simp at h
    | [c],h=>
     obtain⟨z,e,hz⟩:=KXm Tryz.underlying5 h0
     exact⟨z,⟨by rw [e],hz⟩,El _⟩) h
 exact⟨y,l,e,R,hm⟩
end
end Go.Proofs.YtpibdohdkfkcnaaGreatDoor
