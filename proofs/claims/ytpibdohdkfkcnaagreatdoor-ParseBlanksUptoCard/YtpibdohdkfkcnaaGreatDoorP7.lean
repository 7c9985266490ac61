/- Own proofs: what those Lean programs compute. No condition. -/
import Derived.Test.YtpibdohdkfkcnaaGreatDoorP0
import Derived.Test.YtpibdohdkfkcnaaGreatDoorP1
import Derived.Test.YtpibdohdkfkcnaaGreatDoorP2
import Derived.Test.YtpibdohdkfkcnaaGreatDoorP3
import Derived.Test.YtpibdohdkfkcnaaGreatDoorP4
import Derived.Test.YtpibdohdkfkcnaaGreatDoorP5
import Derived.Test.YtpibdohdkfkcnaaGreatDoorP6
set_option linter.unusedVariables false
set_option linter.unusedSimpArgs false
set_option maxRecDepth 100000
open Go.Proofs
namespace Gx
open Go Go.Proofs Go.Shelf Go.RowKit Go.Lib
theorem Rd.upd {h h':Heap} {b g:Nat} {s:Eb} {i:Nat} (R:Rd h b s i) (u:Upd g h h') (hg:b≠g):Rd h' b s i:=⟨(u.ne b hg).trans R.blk,R.le,R.small⟩
theorem KJw (s:Eb):∀d,d<=8->KY2 s d
 |0,_=>λi h Q b R he hb H1 H2=>by
  unfold VV
  refine Kw (λh1 e1 hs1 g1=>iteT (by rfl) (Zn (XI (R.ext e1) (H2 i h1 rfl (Km.ext e1)))))
 |d+1,hd=>λi h Q b R he hb H1 H2=>by
  have IH:=KJw s d (by omega)
  unfold VV
  refine Kw (λh1 e1 hs1 g1=>iteF (Eo (by omega)) ?_)
  have R1:=R.ext e1
  have hbl:=R.lt
  have he1:=he.ext e1
  have K1:Kb b h h1:=Km.ext e1
  have fin:∀(v:Vl) (cs:Ea) (j:Nat) (h2:Heap),pval s (d+1) i=.ok (v,j)->Kb b h1 h2->Rd h2 b s j->Zg (λk=>h1.size<=k/\k<h2.size) h2 v cs->
    (M.need (cs.size=4)>>=λ_=>stG ⟨h.size,0,none⟩ cs>>=λ_=>ldG 4 ⟨h.size,0,none⟩>>=λr=>(M.pure (.inr r):M (Value⊕Ea))).wp h2 Q:=by
   intro v cs j h2 hv K2 R2 V2
   have g2:=K2.blk g1 (show ¬h.size=b by omega)
   refine KRy g2 rfl V2.size V2.to.one (λh3 u3=>H1 v j h3 cs hv ?_ (R2.upd u3 (by omega)) ?_)
   ·have:=K1.trans K2
    exact⟨by rw [u3.size];exact this.size,λq hq hqb=>(u3.ne q (by omega)).trans (this.same q hq hqb)⟩
   ·have hu:=u3.size
    exact(V2.same (λk hk=>u3.ne k (by omega))).mono (λk hk=>⟨by omega,by omega⟩)
  have scal:∀{k n:Int} {t:Eb} {S:Nat->Prop} {h2:Heap},I64 k->I64 n->t.length<=1099511627776->Zg S h2 (.mk k n t []) (ZK k n t Sl.nil):=λhk hn ht=>N4 _ _ hk hn (by omega)
  have hle:=R.le
  have hsm:=R.small
  rw [pval]at H1 H2 fin
  unfold VU
  refine KD (Wy R1 ?_)
  refine or_b (c:=digB (KI s i)) (λ_ Q' hq=>KD (KGe (KA hq))) ?_
  rw [u8_c (d:=45) (n:=45) rfl]
  refine KH (λhc=>?_) (λhc=>?_)
  ·have hc:KI s i=45\/digB (KI s i)=true:=by rwa [EO,Ei]at hc
   rw [if_pos hc]at H1 H2 fin
   refine Zn (KIb R1 he1 hb (λn j h2 hn K2 R2=>?_) (λe h2 hn K2=>H2 e h2 (by rw [hn]) (K1.trans K2)))
   refine KVc (λh3 e3=>fin (.mk 1 n [] []) _ j h3 (by rw [hn]) (K2.trans (Km.ext e3)) (R2.ext e3) (scal ⟨by decide,by decide⟩ (KEM hn hle).1 (by decide)))
  have hc:¬(KI s i=45\/digB (KI s i)=true):=λhh=>by
   rw [<-Ei (p:=KI s i=45),<-EO,hc]at hh
   cases hh
  rw [if_neg hc]at H1 H2 fin
  rw [u8_c (d:=39) (n:=39) rfl]
  refine KH (λhc=>?_) (λhc=>?_)
  ·rw [if_pos (Ec hc)]at H1 H2 fin
   refine Zn (KT8 R1 (λt j h2 ht K2 R2=>?_) (λe h2 ht K2=>H2 e h2 (by rw [ht]) (K1.trans K2)))
   refine KVd (λh3 e3=>fin (.mk 2 0 t []) _ j h3 (by rw [ht]) (K2.trans (Km.ext e3)) (R2.ext e3) (scal ⟨by decide,by decide⟩ ⟨by decide,by decide⟩ (by have:=(KLE ht).2.2;omega)))
  rw [if_neg (Ed hc)]at H1 H2 fin
  rw [u8_c (d:=116) (n:=116) rfl]
  refine KH (λhc=>?_) (λhc=>?_)
  ·rw [if_pos (Ec hc)]at H1 H2 fin
   refine Zn (NH (lit:=[116,114,117,101]) R1 (by decide) (λj h2 hj K2 R2=>?_) (λe h2 hj K2=>H2 e h2 (by rw [hj]) (K1.trans K2)))
   refine KOI (λh3 e3=>fin (.mk 3 1 [] []) _ j h3 (by rw [hj]) (K2.trans (Km.ext e3)) (R2.ext e3) (scal ⟨by decide,by decide⟩ ⟨by decide,by decide⟩ (by decide)))
  rw [if_neg (Ed hc)]at H1 H2 fin
  rw [u8_c (d:=102) (n:=102) rfl]
  refine KH (λhc=>?_) (λhc=>?_)
  ·rw [if_pos (Ec hc)]at H1 H2 fin
   refine Zn (NH (lit:=[102,97,108,115,101]) R1 (by decide) (λj h2 hj K2 R2=>?_) (λe h2 hj K2=>H2 e h2 (by rw [hj]) (K1.trans K2)))
   refine KOI (λh3 e3=>fin (.mk 3 0 [] []) _ j h3 (by rw [hj]) (K2.trans (Km.ext e3)) (R2.ext e3) (scal ⟨by decide,by decide⟩ ⟨by decide,by decide⟩ (by decide)))
  rw [if_neg (Ed hc)]at H1 H2 fin
  rw [u8_c (d:=118) (n:=118) rfl]
  refine KH (λhc=>?_) (λhc=>?_)
  ·have hcc:=Ec hc
   rw [if_pos hcc]at H1 H2 fin
   refine Zn (KMp (k:=6) R1 (JM (by rw [hcc];decide)) he1 hb (λn j h2 hn K2 R2=>fin _ _ j h2 hn K2 R2 ?_) (λe h2 hn K2=>H2 e h2 hn (K1.trans K2)))
   obtain⟨n',hv,hn',_⟩:=KBm hn
   cases hv
   exact scal ⟨by decide,by decide⟩ hn' (by decide)
  rw [if_neg (Ed hc)]at H1 H2 fin
  rw [u8_c (d:=101) (n:=101) rfl]
  refine KH (λhc=>?_) (λhc=>?_)
  ·have hcc:=Ec hc
   rw [if_pos hcc]at H1 H2 fin
   refine Zn (KMp (k:=7) R1 (JM (by rw [hcc];decide)) he1 hb (λn j h2 hn K2 R2=>fin _ _ j h2 hn K2 R2 ?_) (λe h2 hn K2=>H2 e h2 hn (K1.trans K2)))
   obtain⟨n',hv,hn',_⟩:=KBm hn
   cases hv
   exact scal ⟨by decide,by decide⟩ hn' (by decide)
  rw [if_neg (Ed hc)]at H1 H2 fin
  rw [u8_c (d:=91) (n:=91) rfl,show((9 - (d+1):Nat):Int)=((8 - d:Nat):Int) by omega]
  refine KH (λhc=>?_) (λhc=>?_)
  ·have hcc:=Ec hc
   rw [if_pos hcc]at H1 H2 fin
   refine Zn (KEV (qh _ _ _ _) (KMq (two:=false) (en:=93) (by omega) IH (by decide) R1 (JM (by rw [hcc];decide)) he1 hb (λl j h2 r hl K2 R2 V2=>?_) (λe h2 hl K2=>H2 e h2 (by rw [hl]) (K1.trans K2))))
   exact fin (.mk 4 0 [] l) _ j h2 (by rw [hl]) K2 R2 (KFo ⟨by decide,by decide⟩ ⟨by decide,by decide⟩ V2)
  rw [if_neg (Ed hc)]at H1 H2 fin
  rw [u8_c (d:=123) (n:=123) rfl]
  refine KH (λhc=>?_) (λhc=>?_)
  ·have hcc:=Ec hc
   rw [if_pos hcc]at H1 H2 fin
   refine Zn (KEV (qh _ _ _ _) (KMq (two:=true) (en:=125) (by omega) IH (by decide) R1 (JM (by rw [hcc];decide)) he1 hb (λl j h2 r hl K2 R2 V2=>?_) (λe h2 hl K2=>H2 e h2 (by rw [hl]) (K1.trans K2))))
   exact fin (.mk 5 0 [] l) _ j h2 (by rw [hl]) K2 R2 (KFo ⟨by decide,by decide⟩ ⟨by decide,by decide⟩ V2)
  rw [if_neg (Ed hc)]at H1 H2 fin
  exact Zn (XI R1 (H2 i h1 rfl K1))
def KBZ (s:Eb):Except Nat Vl:=match pval s 8 0 with| .error e=>.error e| .ok (v,j)=>if j<s.length then .error j else .ok v
theorem KJx {h:Heap} {Q:Ea×Int×Bool->Heap->Prop} {b2 b3 b4 e:Nat} {z2:Ea} {v3 v4:Value} (g2:h[b2]?=some (.cells z2 KB (0,0))) (hz:z2.size=4) (g3:h[b3]?=some (.cells #[v3] WS (0,0))) (g4:h[b4]?=some (.cells #[v4] KH5 (0,0))) (h23:b2≠b3) (h24:b2≠b4) (h34:b3≠b4)
  (H:∀h',h.size<=h'.size->(∀i,i<h.size->i≠b2->i≠b3->i≠b4->h'[i]?=h[i]?)->Q (vz,(e:Int),false) h'):(z8 ⟨b2,0,none⟩ ⟨b3,0,none⟩ ⟨b4,0,none⟩ (KBY e)>>=λ_=>KAX ⟨b2,0,none⟩ ⟨b3,0,none⟩ ⟨b4,0,none⟩).wp h Q:=by
 have l2:=JV g2
 have l3:=JV g3
 have l4:=JV g4
 unfold z8
 refine⟨(e:Int),rfl,?_⟩
 refine KD (Kw (λh1 e1 hs1 g1=>ZH rfl (stR g1 (Ee 1) (by intro v hv;simp at hv;subst hv;rfl) (λh2' u2 g2'=>?_))))
 rw [KW (cs:=#[.int .i64 0]) (vs:=(#[.int .i64 (e:Int)]:Ea).toList) rfl]at g2'
 unfold KPA
 refine KV (n:=(e:Int)) (by rw [KM,KF g2'];rfl) (ZH rfl ?_)
 have k2:h2'[b2]?=some (.cells z2 KB (0,0)):=(u2.ne b2 (by omega)).trans (e1.blk g2)
 refine stR k2 (by rw [hz];exact Ee 4) (ZF 0 0 [] Sl.nil) (λh3 u3 g3'=>?_)
 rw [KW (cs:=z2) (vs:=(vz:Ea).toList) (by rw [hz];rfl)]at g3'
 have kq:h3[h.size]?=some (.cells #[.int .i64 (e:Int)] JK (0,0)):=(u3.ne h.size (by omega)).trans g2'
 refine qE (by rw [KM,KF kq];rfl) ?_
 have k3:h3[b3]?=some (.cells #[v3] WS (0,0)):=(u3.ne b3 (by omega)).trans ((u2.ne b3 (by omega)).trans (e1.blk g3))
 refine qF (x:=v3) (by rw [KF k3];rfl) (Kv k3) rfl ?_
 have g5:=J8 (o:=0) (v:=.int .i64 (e:Int)) k3
 have u5:=Upd.hset h3 b3 0 (.int .i64 (e:Int))
 generalize hset h3 ⟨b3,0,none⟩ (.int .i64 (e:Int))=h5 at g5 u5⊢
 have k4:h5[b4]?=some (.cells #[v4] KH5 (0,0)):=(u5.ne b4 (by omega)).trans ((u3.ne b4 (by omega)).trans ((u2.ne b4 (by omega)).trans (e1.blk g4)))
 refine qF (x:=v4) (by rw [KF k4];rfl) (Kv k4) rfl ?_
 have g6:=J8 (o:=0) (v:=.bool false) k4
 have u6:=Upd.hset h5 b4 0 (.bool false)
 generalize hset h5 ⟨b4,0,none⟩ (.bool false)=h6 at g6 u6⊢
 refine KA ?_
 unfold KAX
 have m2:h6[b2]?=some (.cells vz KB (0,0)):=(u6.ne b2 (by omega)).trans ((u5.ne b2 (by omega)).trans g3')
 have m3:h6[b3]?=some (.cells (#[v3].setIfInBounds 0 (.int .i64 (e:Int))) WS (0,0)):=(u6.ne b3 (by omega)).trans g5
 refine ldR m2 rfl (KV (n:=(e:Int)) (by rw [KF m3];rfl) (KYa (n:=false) (by rw [KF g6];rfl) (KA (H _ ?_ ?_))))
 ·have a1:=u6.size;have a2:=u5.size;have a3:=u3.size;have a4:=u2.size;omega
 ·intro i hi n2 n3 n4
  rw [u6.ne i n4,u5.ne i n3,u3.ne i n2,u2.ne i (by omega)]
  exact e1.same i hi
theorem KRz {s:Eb} {h:Heap} {Q:Ea×Int×Bool->Heap->Prop} (hs:s.length<=1099511627776) (he:ErrV h)
  (H1:∀v h' c,KBZ s=.ok v->Ext h h'->Zg (h.size<=·) h' v c->Q (c,0,true) h') (H2:∀e h',KBZ s=.error e->Ext h h'->Q (vz,(e:Int),false) h'):(KWs (bs s)).wp h Q:=by
 unfold KWs
 refine Kw (λh1 e1 s1 g1=>Kw (λh2 e2 s2 g2=>Kw (λh3 e3 s3 g3=>Kw (λh4 e4 s4 g4=>?_))))
 obtain⟨t5,p5,hc5⟩:=id he
 have h5:gER<h.size:=N3 hc5
 have R4:Rd h4 h3.size s 0:=⟨g4,El _,hs⟩
 have E4:Ext h h4:=((e1.trans e2).trans e3).trans e4
 have b1:h4[h.size]?=some (.cells vz KB (0,0)):=((e2.trans e3).trans e4).blk g1
 have b2:h4[h1.size]?=some (.cells #[.int .i64 0] WS (0,0)):=(e3.trans e4).blk g2
 have b3:h4[h2.size]?=some (.cells #[.bool false] KH5 (0,0)):=e4.blk g3
 refine KD (KJw s 8 (Ee _) 0 h4 _ h3.size R4 (he.ext E4) (by omega) (λv j h6 c hv K6 R6 V6=>?_) (λe h6 hv K6=>?_))
 ·have c1:=K6.blk b1 (show ¬h.size=h3.size by omega)
  have c2:=K6.blk b2 (show ¬h1.size=h3.size by omega)
  have c3:=K6.blk b3 (show ¬h2.size=h3.size by omega)
  have hs6:=K6.size
  refine ZH V6.size (stR c1 (by rw [V6.size];exact Ee 4) V6.to.one (λh7 u7 g7=>?_))
  rw [KW (cs:=vz) (vs:=c.toList) (by rw [Ep,V6.size];rfl)]at g7
  have hs7:=u7.size
  have R7:=R6.upd u7 (show h3.size≠h.size by omega)
  refine KHO R7 ?_
  rw [Ke]
  refine KH (λhlt=>?_) (λhge=>?_)
  ·have hlt:j<s.length:=by have:=Ec hlt;omega
   refine KD (XI R7 ?_)
   refine KJx g7 V6.size ((u7.ne _ (by omega)).trans c2) ((u7.ne _ (by omega)).trans c3) (by omega) (by omega) (by omega) (λh8 s8 same8=>H2 j h8 ?_ ⟨by omega,λi hi=>?_⟩)
   ·unfold KBZ;rw [hv];dsimp only;rw [if_pos hlt]
   ·rw [same8 i (by omega) (by omega) (by omega) (by omega),u7.ne i (by omega),K6.same i (by omega) (by omega)]
    exact E4.same i hi
  ·have hge:¬j<s.length:=by have:=Ed hge;omega
   unfold KLD
   refine ldR g7 V6.size (ZH V6.size (stR g7 (by rw [V6.size];exact Ee 4) V6.to.one (λh8 u8 g8=>?_)))
   rw [KW (cs:=c) (vs:=c.toList) (by rw [Ep])]at g8
   have d2:h8[h1.size]?=some (.cells #[.int .i64 0] WS (0,0)):=(u8.ne _ (by omega)).trans ((u7.ne _ (by omega)).trans c2)
   refine qF (x:=.int .i64 0) (by rw [KF d2];rfl) (Kv d2) rfl ?_
   have g9:=J8 (o:=0) (v:=.int .i64 0) d2
   have u9:=Upd.hset h8 h1.size 0 (.int .i64 0)
   generalize hset h8 ⟨h1.size,0,none⟩ (.int .i64 0)=h9 at g9 u9⊢
   have d3:h9[h2.size]?=some (.cells #[.bool false] KH5 (0,0)):=(u9.ne _ (by omega)).trans ((u8.ne _ (by omega)).trans ((u7.ne _ (by omega)).trans c3))
   refine qF (x:=.bool false) (by rw [KF d3];rfl) (Kv d3) rfl ?_
   have g10:=J8 (o:=0) (v:=.bool true) d3
   have u10:=Upd.hset h9 h2.size 0 (.bool true)
   generalize hset h9 ⟨h2.size,0,none⟩ (.bool true)=h10 at g10 u10⊢
   unfold KAX
   have m1:h10[h.size]?=some (.cells c KB (0,0)):=(u10.ne _ (by omega)).trans ((u9.ne _ (by omega)).trans g8)
   have m2:=(u10.ne h1.size (by omega)).trans g9
   refine ldR m1 V6.size (KV (n:=0) (by rw [KF m2];rfl) (KYa (n:=true) (by rw [KF g10];rfl) (KA (H1 v _ c ?_ ⟨?_,λi hi=>?_⟩ ?_))))
   ·unfold KBZ;rw [hv];dsimp only;rw [if_neg hge]
   ·have a1:=u10.size;have a2:=u9.size;have a3:=u8.size;omega
   ·rw [u10.ne i (by omega),u9.ne i (by omega),u8.ne i (by omega),u7.ne i (by omega),K6.same i (by omega) (by omega)]
    exact E4.same i hi
   ·refine(V6.same (λk hk=>?_)).mono (λk hk=>by have:=hk.1;omega)
    have:=hk.1
    rw [u10.ne k (by omega),u9.ne k (by omega),u8.ne k (by omega),u7.ne k (by omega)]
 ·have c1:=K6.blk b1 (show ¬h.size=h3.size by omega)
  have c2:=K6.blk b2 (show ¬h1.size=h3.size by omega)
  have c3:=K6.blk b3 (show ¬h2.size=h3.size by omega)
  have hs6:=K6.size
  refine KJx c1 rfl c2 c3 (by omega) (by omega) (by omega) (λh8 s8 same8=>H2 e h8 ?_ ⟨by omega,λi hi=>?_⟩)
  ·unfold KBZ;rw [hv]
  ·rw [same8 i (by omega) (by omega) (by omega) (by omega),K6.same i (by omega) (by omega)]
   exact E4.same i hi
def ZT (s:Eb):Vl×Nat×Int:=match KBZ s with| .error e=>(vl0,e,22)| .ok v=>if mayV 8 v=true then(v,0,0)else(vl0,0,20)
theorem KIc {s:Eb} {h:Heap} {Q:Ea×Int×Int->Heap->Prop} (hs:s.length<=1099511627776) (he:ErrV h)
  (H:∀h' c,Ext h h'->Zg (h.size<=·) h' (ZT s).1 c->Q (c,((ZT s).2.1:Int),(ZT s).2.2) h'):(Ga (bs s)).wp h Q:=by
 unfold Ga
 refine Kw (λh1 e1 s1 g1=>?_)
 refine KD (YI (KY0 _) (KRz hs (he.ext e1) (λv h2 c hv e2 V2=>?_) (λe h2 hv e2=>?_)))
 ·refine Kw (λh3 e3 s3 g3=>ZH V2.size (stR g3 (by rw [V2.size];exact Ee 4) V2.to.one (λh4 u4 g4=>?_)))
  rw [KW (cs:=vz) (vs:=c.toList) (by rw [Ep,V2.size];rfl)]at g4
  have E4:Ext h h4:=((e1.trans e2).trans e3).upd u4 (by have:=e1.size;have:=e2.size;omega)
  have V4:Zg (λk=>h1.size<=k/\k<h2.size) h4 v c:=((V2.lt2).same (λk hk=>(u4.ne k (by omega)).trans (e3.same k hk.2)))
  refine iteF rfl (ldR g4 V2.size (KD (KIT V4.to (λh5 e5=>?_))))
  have g5:h5[h.size]?=some (.cells vz KB (0,0)):=e5.blk ((u4.ne _ (by have:=e2.size;omega)).trans ((e2.trans e3).blk g1))
  have gc5:=e5.blk g4
  unfold KFn
  by_cases hm:mayV 8 v=true
  ·rw [if_pos hm]
   have hP:ZT s=(v,0,0):=by unfold ZT;rw [hv];dsimp only;rw [if_pos hm]
   rw [hP]at H
   refine iteF rfl (ldR gc5 V2.size (ZH V2.size (stR g5 (by rw [V2.size];exact Ee 4) V2.to.one (λh6 u6 g6=>?_))))
   rw [KW (cs:=vz) (vs:=c.toList) (by rw [Ep,V2.size];rfl)]at g6
   refine ldR g6 V2.size (KA (H h6 c ((E4.trans e5).upd u6 (Ee _)) ?_))
   have hs2:=e2.size
   have hs3:=e3.size
   have hu4:=u4.size
   exact(V4.same (λk hk=>(u6.ne k (by omega)).trans (e5.same k (by omega)))).mono (λk hk=>by have:=hk.1;omega)
  ·rw [if_neg hm]
   have hP:ZT s=(vl0,0,20):=by unfold ZT;rw [hv];dsimp only;rw [if_neg hm]
   rw [hP]at H
   refine iteT rfl (ZH rfl (stR g5 (Ee 4) (ZF 0 0 [] Sl.nil) (λh6 u6 g6=>?_)))
   rw [KW (cs:=vz) (vs:=(vz:Ea).toList) rfl]at g6
   exact ldR g6 rfl (KA (H h6 _ ((E4.trans e5).upd u6 (Ee _)) (KIY _ _)))
 ·have hP:ZT s=(vl0,e,22):=by unfold ZT;rw [hv]
  rw [hP]at H
  refine Kw (λh3 e3 s3 g3=>ZH rfl (stR g3 (Ee 4) (ZF 0 0 [] Sl.nil) (λh4 u4 g4=>?_)))
  have E4:Ext h h4:=((e1.trans e2).trans e3).upd u4 (by have:=e1.size;have:=e2.size;omega)
  have g5:h4[h.size]?=some (.cells vz KB (0,0)):=(u4.ne _ (by have:=e2.size;omega)).trans ((e2.trans e3).blk g1)
  refine iteT rfl (ZH rfl (stR g5 (Ee 4) (ZF 0 0 [] Sl.nil) (λh6 u6 g6=>?_)))
  rw [KW (cs:=vz) (vs:=(vz:Ea).toList) rfl]at g6
  exact ldR g6 rfl (KA (H h6 _ (E4.upd u6 (Ee _)) (KIY _ _)))
end Gx
namespace Gx
open Go
def KT (h:Heap) (r:Sl) (e:TypeId):Prop:=∀g,r.base=some ⟨g,0,none⟩->∃c z,h[g]?=some (.cells c e z)
theorem KT.same {h h':Heap} {r:Sl} {e:TypeId} (k:KT h r e) (hs:∀i,Sl.on r i->h'[i]?=h[i]?):KT h' r e:=λg hg=>by
 obtain⟨c,z,hh⟩:=k g hg
 exact⟨c,z,(hs g ⟨_,hg,rfl⟩).trans hh⟩
structure Bld (lo:Nat) (h:Heap) (b:Nat) (r:Sl) (l:Eb):Prop where
 low:lo<=b
 ptr:∃p t,h[b]?=some (.cells #[p,r.v] t (0,0))/\(p=.pointer none\/p=.pointer (some ⟨b,0,none⟩))/\bldT t
 row:Gw lo h r 1 (l.map bv)
 off:¬Sl.on r b
 nz:r.cap=0->r=Sl.nil
 kt:KT h r Ko
theorem Bld.len {lo:Nat} {h:Heap} {b:Nat} {r:Sl} {l:Eb} (B:Bld lo h b r l):r.len=l.length:=by
 have:=B.row.len
 simp at this
 exact this.symm
theorem Bld.lt {lo:Nat} {h:Heap} {b:Nat} {r:Sl} {l:Eb} (B:Bld lo h b r l):b<h.size:=by
 obtain⟨p,tt,h1,_⟩:=B.ptr
 exact JV h1
theorem Bld.ext {lo:Nat} {h h':Heap} {b:Nat} {r:Sl} {l:Eb} (B:Bld lo h b r l) (e:Ext h h'):Bld lo h' b r l:=by
 obtain⟨p,tt,h1,h2⟩:=B.ptr
 exact⟨B.low,⟨p,tt,e.blk h1,h2⟩,B.row.ext e,B.off,B.nz,B.kt.same (λi hi=>e.same i (B.row.lt hi).1)⟩
structure BKeep (b:Nat) (r r':Sl) (h h':Heap):Prop where
 size:h.size<=h'.size
 same:∀i,i<h.size->i≠b->¬Sl.on r i->h'[i]?=h[i]?
 on_:∀i,Sl.on r' i->Sl.on r i\/h.size<=i
theorem BKeep.refl (b:Nat) (r:Sl) (h:Heap):BKeep b r r h h:=⟨Ee _,λ_ _ _ _=>rfl,λ_ h=>.inl h⟩
theorem BKeep.trans {b:Nat} {r r' r'':Sl} {h h' h'':Heap} (k:BKeep b r r' h h') (k':BKeep b r' r'' h' h'') (hb:b<h.size):BKeep b r r'' h h'':=
 ⟨Fb k.size k'.size,λi hi hne hno=>(k'.same i (Ez hi k.size) hne (λho=>(k.on_ i ho).elim hno (λh=>by omega))).trans (k.same i hi hne hno),
  λi hi=>(k'.on_ i hi).elim (λh=>k.on_ i h) (λh=>.inr (Fb k.size h))⟩
theorem BKeep.ext {lo:Nat} {b:Nat} {r r':Sl} {h0 h h':Heap} {l:Eb} (e:Ext h0 h) (B:Bld lo h b r l) (hl:h0.size<=lo) (k:BKeep b r r' h h'):Ext h0 h':=
 ⟨Fb e.size k.size,λi hi=>(k.same i (Ez hi e.size) (by have:=B.low;omega) (λho=>by have:=(B.row.lt ho).2;omega)).trans (e.same i hi)⟩
theorem BKeep.push {b:Nat} {r r':Sl} {h h' h'':Heap} (k:BKeep b r r' h h') (e:Ext h' h''):BKeep b r r' h h'':=
 ⟨Fb k.size e.size,λi hi h1 h2=>(e.same i (Ez hi k.size)).trans (k.same i hi h1 h2),k.on_⟩
end Gx
namespace Gx
open Go Go.Proofs Go.Shelf Go.RowKit Go.Lib
theorem KVe {β:Type} {c d:Prop} [Decidable c] [Decidable d] {h:Heap} {Q:β->Heap->Prop} {f:Bool->M β} (H:(f (decide (c/\d))).wp h Q):(M.ite (decide c) (M.pure (decide d)) (M.pure false)>>=f).wp h Q:=by
 refine KJF (λhc=>KZ ?_) (λhc=>KZ ?_)
 ·have hc:=Ec hc
  rwa [show decide d=decide (c/\d)from Es.2 ⟨λhd=>⟨hc,hd⟩,λh=>h.2⟩]
 ·have hc:=Ed hc
  rwa [show false=decide (c/\d)from(Eo (λh=>hc h.1)).symm]
theorem KY3 {β:Type} {c d:Prop} [Decidable c] [Decidable d] {h:Heap} {Q:β->Heap->Prop} {f:Bool->M β} (H:(f (decide (c\/d))).wp h Q):(M.ite (decide c) (M.pure true) (M.pure (decide d))>>=f).wp h Q:=by
 refine KJF (λhc=>KZ ?_) (λhc=>KZ ?_)
 ·have hc:=Ec hc
  rwa [show true=decide (c\/d)from(Ej (Oh hc)).symm]
 ·have hc:=Ed hc
  rwa [show decide d=decide (c\/d)from Es.2 ⟨Or.inr,λh=>h.resolve_left hc⟩]
def NCS:Eb:=[97,98,99,100,101,102,103,104,105,106,107,108,109,110,111,112,113,114,115,116,117,118,119,120,121,122,65,66,67,68,69,70,71,72,73,74,75,76,77,78,79,80,81,82,83,84,85,86,87,88,89,90,48,49,50,51,52,53,54,55,56,57,95]
def isLt (n:Nat):Bool:=decide ((n=95\/(97<=n/\n<=122))\/(65<=n/\n<=90))
def isDg (n:Nat):Bool:=decide (48<=n/\n<=57)
def Gf:Eb->Bool
 | []=>false
 |c::r=>decide ((c::r).length<=24)&&isLt c.toNat&&(c::r).all (λd=>isLt d.toNat||isDg d.toNat)
theorem Gg (c:UInt8) (r:Eb):Gf (c::r)=(decide ((c::r).length<=24)&&isLt c.toNat&&(c::r).all (λd=>isLt d.toNat||isDg d.toNat)):=rfl
theorem KR0:∀c:UInt8,NCS.contains c=(isLt c.toNat||isDg c.toNat):=by
 intro c
 have hk:∀n,n<256->NCS.contains (UInt8.ofNat n)=(isLt n||isDg n):=by decide+kernel
 have:=hk c.toNat c.toNat_lt
 rwa [FS]at this
theorem KVf {p:UInt8->Bool}:∀{l:Eb},(∀x∈l.dropWhile p,p x=true)->∀x∈l,p x=true
 | [],_,x,hx=>by cases hx
 |a::l,h,x,hx=>by
  by_cases ha:p a=true
  ·rw [Ia ha]at h
   rcases ED.1 hx with rfl|hx
   ·exact ha
   ·exact KVf h x hx
  ·rw [Ib ha]at h
   exact absurd (h a List.mem_cons_self) ha
theorem KY4 {p:UInt8->Bool} {l:Eb}:(l.dropWhile p=[]↔∀x∈l,p x=true):=by
 induction l with
 |nil=>simp
 |cons a l ih=>
  by_cases ha:p a=true
  ·rw [Ia ha,ih]
   constructor
   ·intro h x hx
    rcases ED.1 hx with rfl|hx
    ·exact ha
    ·exact h x hx
   ·intro h x hx
    exact h x (Ev _ hx)
  ·rw [Ib ha]
   constructor
   ·intro h;cases h
   ·intro h
    exact absurd (h a List.mem_cons_self) ha
theorem KUA (l cs:Eb):(Lib.trimS l cs=[]↔∀x∈l,cs.contains x=true):=by
 unfold Lib.trimS Lib.trimLeftS Lib.trimRightS
 rw [KY4]
 constructor
 ·intro h x hx
  exact KVf (l:=l.reverse) (p:=(cs.contains ·)) (λy hy=>h y (IS.2 hy)) x (IS.2 hx)
 ·intro h x hx
  have h1:=IS.1 hx
  exact h x (IS.1 ((List.dropWhile_sublist _).mem h1))
theorem KWw {s:Eb} {h:Heap} {Q:Bool->Heap->Prop} (h0:0<s.length) (h1:s.length<=24) (H:∀h',Ext h h'->Q (s.all (λd=>isLt d.toNat||isDg d.toNat)) h'):
  (Xh (bs s) (⟨#[97,98,99,100,101,102,103,104,105,106,107,108,109,110,111,112,113,114,115,116,117,118,119,120,121,122,65,66,67,68,69,70,71,72,73,74,75,76,77,78,79,80,81,82,83,84,85,86,87,88,89,90,48,49,50,51,52,53,54,55,56,57,95]⟩:ByteArray)>>=λx=>(M.pure (sEq x ByteArray.empty):M Bool)).wp h Q:=by
 refine KD (show(Xh _ _).wp h _ from⟨by decide,by decide,by rw [Ke];exact h0,by rw [Ke];omega,?_,λh' a b=>KA ?_⟩)
 ·exact ascii_of_all (l:=NCS) (by decide+kernel)
 ·have hs:(bs s).data.toList=s:=by simp [bs]
  have hc:((⟨#[97,98,99,100,101,102,103,104,105,106,107,108,109,110,111,112,113,114,115,116,117,118,119,120,121,122,65,66,67,68,69,70,71,72,73,74,75,76,77,78,79,80,81,82,83,84,85,86,87,88,89,90,48,49,50,51,52,53,54,55,56,57,95]⟩:ByteArray)).data.toList=NCS:=rfl
  rw [hs,hc]
  have:=H h' ⟨a,b⟩
  rw [show(⟨(Lib.trimS s NCS).toArray⟩:ByteArray)=bs (Lib.trimS s NCS)from rfl,sEq0]
  have e:decide (Lib.trimS s NCS=[])=s.all (λd=>isLt d.toNat||isDg d.toNat):=by
   rw [EZ,Ei,KUA,EB]
   exact⟨λh x hx=>by rw [<-KR0];exact h x hx,λh x hx=>by rw [KR0];exact h x hx⟩
  rw [e];exact this
theorem KJy {s:Eb} {h:Heap} {Q:Bool->Heap->Prop} (H:∀h',Ext h h'->Q (Gf s) h'):(N8 (bs s)).wp h Q:=by
 unfold N8
 rw [sEq0,Ke]
 refine KY3 ?_
 cases s with
 |nil=>
  rw [Ej (show([]:Eb)=[]\/((([]:Eb).length:Int)>24)from .inl rfl)]
  exact Ve rfl (KZ (iteT rfl (KA (H _ (Ext.refl _)))))
 |cons c r=>
  by_cases hl:(c::r).length<=24
  ·rw [Eo (show ¬(c::r=[]\/(((c::r).length:Int)>24))from λh=>by rcases h with h|h;cases h;omega)]
   refine Y9 rfl (KR (VX (i:=0) rfl (by simp) ?_))
   rw [show(c::r)[0]=c from rfl]
   have key:∀b:Bool,b=isDg c.toNat->((M.ite b (M.pure false) (Xh (bs (c::r)) (⟨#[97,98,99,100,101,102,103,104,105,106,107,108,109,110,111,112,113,114,115,116,117,118,119,120,121,122,65,66,67,68,69,70,71,72,73,74,75,76,77,78,79,80,81,82,83,84,85,86,87,88,89,90,48,49,50,51,52,53,54,55,56,57,95]⟩:ByteArray)>>=λx=>M.pure (sEq x ByteArray.empty)):M Bool)).wp h Q:=by
    intro b hb
    simp only [Gg]at H
    rw [Ej hl]at H
    simp only [E9]at H
    by_cases hd:isDg c.toNat=true
    ·refine iteT (hb.trans hd) (KA ?_)
     have:=H h (Ext.refl _)
     rw [show isLt c.toNat=false by unfold isDg at hd;unfold isLt;have:=Ec hd;exact Eo (by omega),Fo]at this
     exact this
    ·refine iteF (hb.trans (by simpa using hd)) (KWw (by simp) hl (λh' e=>?_))
     have:=H h' e
     by_cases hlt:isLt c.toNat=true
     ·rw [hlt,E9]at this;exact this
     ·have h1:isLt c.toNat=false:=by simpa using hlt
      have h2:isDg c.toNat=false:=by simpa using hd
      rw [h1,Fo]at this
      rw [EX,h1,h2,Bool.or_false,Fo]
      exact this
   by_cases hge:(c.toNat:Int)>=48
   ·refine KR (Ve (Ej hge) (KR (VX (i:=0) rfl (by simp) (KZ (KZ (key _ ?_))))))
    rw [show(c::r)[0]=c from rfl]
    unfold isDg
    exact Es.2 (by omega)
   ·refine KR (Y9 (Eo hge) (KZ (KZ (key _ ?_))))
    unfold isDg
    exact(Eo (by omega)).symm
  ·rw [Ej (show(c::r=[]\/(((c::r).length:Int)>24))from .inr (by omega))]
   refine Ve rfl (KZ (iteT rfl (KA ?_)))
   have:=H _ (Ext.refl _)
   rw [Gg,Eo hl]at this
   exact this
theorem KPI {n:Nat} {h:Heap} {Q:Bool->Heap->Prop} (H:Q (isLt n) h):(Jz (n:Int)).wp h Q:=by
 unfold Jz
 rw [eqI]
 have key:∀b:Bool,b=decide (n=95\/(97<=n/\n<=122))->((M.ite b (M.pure true) (M.ite (decide ((n:Int)>=65)) (M.pure (decide ((n:Int)<=90))) (M.pure false)>>=λx=>M.pure x)>>=λx=>M.pure x:M Bool)).wp h Q:=by
  intro b hb
  unfold isLt at H
  by_cases h1:n=95\/(97<=n/\n<=122)
  ·rw [Ej (Oh h1)]at H
   exact Ve (hb.trans (Ej h1)) (KZ (KA H))
  ·refine Y9 (hb.trans (Eo h1)) (KR (KVe (KZ (KA ?_))))
   rw [show decide ((n:Int)>=65/\(n:Int)<=90)=decide ((n=95\/(97<=n/\n<=122))\/(65<=n/\n<=90))from Es.2 (by omega)]
   exact H
 by_cases h95:(n:Int)=95
 ·exact Ve (Ej h95) (KZ (key _ (Ej (Oh (by omega))).symm))
 ·refine Y9 (Eo h95) (KR (KVe (KZ (key _ ?_))))
  exact Es.2 (by omega)
theorem KJz {s:Eb} {h:Heap} {Q:Bool->Heap->Prop} (H:Q (Gf s) h):(U5 (bs s)).wp h Q:=by
 unfold U5
 rw [sEq0,Ke]
 refine KY3 ?_
 cases s with
 |nil=>
  rw [Ej (show([]:Eb)=[]\/((([]:Eb).length:Int)>24)from .inl rfl)]
  exact Ve rfl (KZ (iteT rfl (KA H)))
 |cons c r=>
  rw [Gg]at H
  by_cases hl:(c::r).length<=24
  ·rw [Ej hl,E9]at H
   rw [Eo (show ¬(c::r=[]\/(((c::r).length:Int)>24))from λh=>by rcases h with h|h;cases h;omega)]
   refine Y9 rfl (KR (VX (i:=0) rfl (by simp) ?_))
   rw [show(c::r)[0]=c from rfl]
   refine KR (KD (KPI (KZ ?_)))
   by_cases hlt:isLt c.toNat=true
   ·rw [hlt,E9]at H
    refine iteF (by rw [hlt];rfl) ?_
    refine M.loop_inv (λ(t:Int) hh=>hh=h/\∃i:Nat,t=(i:Int)/\i<=(c::r).length/\((c::r).drop i).all (λd=>isLt d.toNat||isDg d.toNat)=(c::r).all (λd=>isLt d.toNat||isDg d.toNat)) (λt _=>(((c::r).length:Int) - t).toNat) ?_ ⟨rfl,0,rfl,El _,rfl⟩
    rintro t hh ⟨rfl,i,rfl,hi,hall⟩ self hself
    unfold XR
    rw [Ke]
    refine KH (λhc=>?_) (λhc=>?_)
    ·have hic:i<(c::r).length:=by have:=Ec hc;omega
     rw [Eh hic,EX]at hall
     obtain⟨d,hd⟩:∃d,d=(c::r)[i]:=⟨_,rfl⟩
     refine VX rfl hic (KD (KPI ?_))
     rw [<-hd]at hall⊢
     have stop:isLt d.toNat=false->isDg d.toNat=false->Q false hh:=λh1 h2=>by
      rw [h1,h2,Bool.or_false,Fo]at hall
      rw [<-hall]at H;exact H
     have go:(isLt d.toNat||isDg d.toNat)=true->(self (IntKind.wrap .i64 ((i:Int)+1))).wp hh Q:=λh1=>by
      rw [h1,E9]at hall
      rw [w64 (by omega) (by omega)]
      exact hself _ _ ⟨rfl,i+1,by simp,by omega,hall⟩ (by omega)
     by_cases hld:isLt d.toNat=true
     ·exact Y9 (by rw [hld];rfl) (KZ (iteF rfl (go (by rw [hld];rfl))))
     ·have h1:isLt d.toNat=false:=by simpa using hld
      refine Ve (by rw [h1];rfl) (KR (VX rfl hic ?_))
      rw [<-hd]
      by_cases h48:(d.toNat:Int)<48
      ·exact KR (Ve (Ej h48) (KZ (KZ (iteT rfl (KA (stop h1 (by unfold isDg;exact Eo (by omega))))))))
      ·refine KR (Y9 (Eo h48) (KR (VX rfl hic ?_)))
       rw [<-hd]
       refine KZ (KZ ?_)
       by_cases h57:(d.toNat:Int)>57
       ·exact iteT (Ej h57) (KA (stop h1 (by unfold isDg;exact Eo (by omega))))
       ·exact iteF (Eo h57) (go (by rw [h1,F5];unfold isDg;exact Ej (by omega)))
    ·have hic:i=(c::r).length:=by have:=Ed hc;omega
     rw [List.drop_of_length_le (by omega)]at hall
     refine KA ?_
     rw [<-hall]at H;exact H
   ·have h1:isLt c.toNat=false:=by simpa using hlt
    rw [h1,Fo]at H
    exact iteT (by rw [h1];rfl) (KA H)
  ·rw [Ej (show(c::r=[]\/(((c::r).length:Int)>24))from .inr (by omega))]
   rw [Eo hl]at H
   exact Ve rfl (KZ (iteT rfl (KA H)))
end Gx
namespace Gx
open Go
theorem KY5 {s:Eb} {a b:Nat}:(bs s).extract a b=bs ((s.drop a).take (b - a)):=by
 apply Om
 simp [bs,ByteArray.extract,ByteArray.copySlice]
theorem KAu {β:Type} {h:Heap} {Q:β->Heap->Prop} {s:Eb} {a b:Nat} {lo hi:Int} {f:ByteArray->M β} (hl:lo=(a:Int)) (hh:hi=(b:Int)) (h1:a<=b) (h2:b<=s.length) (H:(f (bs ((s.drop a).take (b - a)))).wp h Q):(slS (bs s) lo hi>>=f).wp h Q:=by
 subst hl;subst hh
 exact⟨bs ((s.drop a).take (b - a)),⟨by omega,by omega,by rw [Ke];omega,by rw [show((a:Int)).toNat=a from rfl,show((b:Int)).toNat=b from rfl,KY5]⟩,H⟩
end Gx
namespace Gx
open Go
def KMr:Eb:=[46,40,41,44,91,93,123,125,58,61,59]
def GL (c:UInt8):Bool:=KMr.contains c
def letB (c:UInt8):Bool:=isLt c.toNat
def KAA (c:UInt8):Bool:=isLt c.toNat||isDg c.toNat
def Jd (s:Eb):Nat:=(s.takeWhile KAA).length
theorem KAB (s:Eb):Jd s<=s.length:=Oy (Ov _)
theorem KEN (c:UInt8) (s:Eb):Jd (c::s)=if KAA c=true then Jd s+1 else 0:=by
 unfold Jd
 by_cases h:KAA c=true
 ·rw [IJ h,if_pos h,Ef]
 ·rw [FC h,if_neg h];rfl
def GF (s:Eb):Nat->Nat->Nat
 |0,_=>0
 |f+1,i=>if i<s.length then(if KI s i=92 then GF s f (i+2)else if KI s i=39 then i+1 else GF s f (i+1))else 0
def Wl (s:Eb):Nat:=GF s (s.length+1) 1
theorem KAC (s:Eb):∀f i,GF s f i<=s.length
 |0,_=>El _
 |f+1,i=>by
  rw [GF]
  split
  ·split
   ·exact KAC s f _
   ·split
    ·omega
    ·exact KAC s f _
  ·exact El _
theorem KR1 {s:Eb} {i:Nat} (hi:i<s.length):KI s i=s[i]:=by
 unfold KI;rw [Em hi];rfl
theorem KUB:∀c:UInt8,decide (Lib.indexByte KMr c>=0)=GL c:=by
 intro c
 have hk:∀n,n<256->decide (Lib.indexByte KMr (UInt8.ofNat n)>=0)=GL (UInt8.ofNat n):=by decide+kernel
 have:=hk c.toNat c.toNat_lt
 rwa [FS]at this
theorem KId {c:UInt8} {h:Heap} {Q:Bool->Heap->Prop} (H:Q (GL c) h):(N9 (c.toNat:Int)).wp h Q:=by
 unfold N9 JA ZX
 refine KD (KA (KA ?_))
 rw [show((c.toNat:Int)).toNat.toUInt8=c by simp,show(⟨#[46,40,41,44,91,93,123,125,58,61,59]⟩:ByteArray).data.toList=KMr from rfl,KUB]
 exact H
theorem KFp {c:UInt8} {h:Heap} {Q:Bool->Heap->Prop} (H:Q (letB c) h):(Xj (c.toNat:Int)).wp h Q:=by
 unfold Xj
 refine Jp (c:=decide ((c.toNat:Int)<=122)) (λ_ Q' hq=>KA hq) ?_
 refine or_b (c:=decide ((c.toNat:Int)>=65)&&decide ((c.toNat:Int)<=90)) (λ_ Q' hq=>Jp (c:=decide ((c.toNat:Int)<=90)) (λ_ Q'' hq2=>KA hq2) (KA hq)) ?_
 refine or_b (c:=decide ((c.toNat:Int)=95)) (λ_ Q' hq=>KA (by rw [eqI];exact hq)) (KA ?_)
 have:(decide ((c.toNat:Int)>=97)&&decide ((c.toNat:Int)<=122)||(decide ((c.toNat:Int)>=65)&&decide ((c.toNat:Int)<=90))||decide ((c.toNat:Int)=95))=letB c:=by
  unfold letB isLt
  rw [<-FM,<-FM,<-Fe,<-Fe]
  exact Es.2 (by omega)
 rw [this]
 exact H
theorem KOJ {c:UInt8} {h:Heap} {Q:Bool->Heap->Prop} (H:Q (KAA c) h):(zw (c.toNat:Int)).wp h Q:=by
 unfold zw
 refine KD (KFp ?_)
 refine or_b (c:=decide ((c.toNat:Int)>=48)&&decide ((c.toNat:Int)<=57)) (λ_ Q' hq=>Jp (c:=decide ((c.toNat:Int)<=57)) (λ_ Q'' hq2=>KA hq2) (KA hq)) (KA ?_)
 have:(letB c||(decide ((c.toNat:Int)>=48)&&decide ((c.toNat:Int)<=57)))=KAA c:=by
  unfold letB KAA isDg
  rw [<-FM]
  congr 1
  exact Es.2 (by omega)
 rw [this]
 exact H
theorem KGf {s:Eb} {a:Nat} {t:Int} {h:Heap} {Q:Int->Heap->Prop} (ht:t=(a:Int)) (ha:a<=s.length) (hs:s.length<=1099511627776) (H:Q (Jd (s.drop a):Int) h):(qZ (bs s) t).wp h Q:=by
 subst ht
 unfold qZ
 refine M.loop_inv (λ(z:Int) hh=>∃i:Nat,z=(i:Int)/\hh=h/\a<=i/\i<=s.length/\Jd (s.drop a)=(i - a)+Jd (s.drop i)) (λz _=>((s.length:Int) - z).toNat) ?_ ⟨a,rfl,rfl,Ee _,ha,by omega⟩
 rintro z hh ⟨i,rfl,rfl,hai,hi,hw⟩ self hself
 unfold KBT
 rw [Ke]
 by_cases hlt:i<s.length
 ·refine Ve (Ej (by omega)) (KR (VX (i:=i) rfl hlt (KR (KD (KOJ (KZ ?_))))))
  rw [Eh hlt,KEN]at hw
  refine KH (λhc=>?_) (λhc=>KA ?_)
  ·rw [if_pos hc]at hw
   rw [w64 (by omega) (by omega)]
   exact hself _ _ ⟨i+1,by simp,rfl,by omega,hlt,by omega⟩ (by omega)
  ·rw [if_neg (by rw [hc];decide)]at hw
   rw [w64 (by omega) (by omega),show(i:Int) - (a:Int)=(Jd (s.drop a):Int) by omega]
   exact H
 ·refine Y9 (Eo (by omega)) (KZ (iteF rfl (KA ?_)))
  have hi':i=s.length:=by omega
  subst hi'
  rw [EY]at hw
  have hw:Jd (s.drop a)=(s.length - a):=hw
  rw [w64 (by omega) (by omega),show(s.length:Int) - (a:Int)=(Jd (s.drop a):Int) by omega]
  exact H
theorem KOK {s:Eb} {h:Heap} {Q:Int->Heap->Prop} (hs:s.length<=1099511627776) (H:Q (Wl s:Int) h):(zx (bs s)).wp h Q:=by
 unfold zx
 refine M.loop_inv (λ(z:Int) hh=>∃i f:Nat,z=(i:Int)/\hh=h/\i<=s.length+2/\s.length<=f+i/\Wl s=GF s (f+1) i) (λz _=>((s.length:Int)+3 - z).toNat) ?_ ⟨1,s.length,rfl,rfl,by omega,by omega,rfl⟩
 rintro z hh ⟨i,f,rfl,rfl,hi,hf,hc⟩ self hself
 unfold KAV
 dsimp only
 rw [Ke]
 rw [GF]at hc
 refine KH (λhlt=>?_) (λhge=>KA ?_)
 ·have hlt:i<s.length:=by have:=Ec hlt;omega
  rw [if_pos hlt,KR1 hlt]at hc
  obtain⟨f,rfl⟩:∃g,f=g+1:=⟨f - 1,by omega⟩
  refine VX (i:=i) rfl hlt ?_
  rw [u8_c (d:=92) (n:=92) rfl,u8_c (d:=39) (n:=39) rfl]
  unfold Ny
  refine KH (λh1=>?_) (λh1=>KH (λh2=>KA ?_) (λh2=>?_))
  ·rw [if_pos (Ec h1)]at hc
   rw [show IntKind.wrap .i64 ((i:Int)+1)=(i:Int)+1 from w64 (by omega) (by omega),w64 (by omega) (by omega)]
   exact hself _ _ ⟨i+2,f,by push_cast;omega,rfl,by omega,by omega,hc⟩ (by omega)
  ·rw [if_neg (Ed h1),if_pos (Ec h2)]at hc
   rw [w64 (by omega) (by omega),show(i:Int)+1=(Wl s:Int) by rw [hc];rfl]
   exact H
  ·rw [if_neg (Ed h1),if_neg (Ed h2)]at hc
   rw [w64 (by omega) (by omega)]
   exact hself _ _ ⟨i+1,f,by simp,rfl,by omega,by omega,hc⟩ (by omega)
 ·rw [if_neg (by have:=Ed hge;omega)]at hc
  rw [hc]at H
  exact H
structure Tkn where
 k:Int
 s:Eb
 n:Int
 a:Int
def Tkn.cells (t:Tkn):Ea:=#[.int .i64 t.k,.string (bs t.s),.int .i64 t.n,.int .i64 t.a]
def tkn0:Tkn:=⟨0,[],0,0⟩
def oneW (er kk k:Int) (t:Tkn) (n:Nat):Tkn×Nat:=if er≠0\/kk≠k then(tkn0,0)else(t,n)
def oneV (k:Int) (s:Eb) (n:Nat) (t:Vl->Tkn):Tkn×Nat:=oneW (ZT (s.take n)).2.2 (ZT (s.take n)).1.k k (t (ZT (s.take n)).1) n
def oneP:Eb->Tkn×Nat
 | []=>(tkn0,0)
 |c::r=>
  if GL c=true then(⟨4,[c],0,0⟩,1)else if letB c=true then(⟨1,(c::r).take (Jd (c::r)),0,0⟩,Jd (c::r))
  else if c=39 then oneV 2 (c::r) (Wl (c::r)) (λv=>⟨3,v.s,0,0⟩)
  else oneV 1 (c::r) (if c=45 then 1+Jd r else Jd (c::r)) (λv=>⟨2,[],v.n,0⟩)
theorem YX (c:UInt8) (r:Eb):oneP (c::r)=(if GL c=true then(⟨4,[c],0,0⟩,1)else if letB c=true then(⟨1,(c::r).take (Jd (c::r)),0,0⟩,Jd (c::r))
  else if c=39 then oneV 2 (c::r) (Wl (c::r)) (λv=>⟨3,v.s,0,0⟩)
  else oneV 1 (c::r) (if c=45 then 1+Jd r else Jd (c::r)) (λv=>⟨2,[],v.n,0⟩)):=rfl
end Gx
namespace Gx
open Go
theorem Yc (t:Tkn):∀u∈t.cells.toList,one u=true:=by
 intro u hu
 simp only [Tkn.cells,ED,EP,Fr]at hu
 rcases hu with rfl|rfl|rfl|rfl<;>rfl
theorem Nm {β:Type} {h:Heap} {Q:β->Heap->Prop} {b:Nat} {t0 t:Tkn} {ty:TypeId} {f:Ea->M β} (g:h[b]?=some (.cells t0.cells ty (0,0)))
  (H:∀h',Upd b h h'->(f t.cells).wp h' Q):(M.need (t.cells.size=4)>>=λ_=>stG ⟨b,0,none⟩ t.cells>>=λ_=>ldG 4 ⟨b,0,none⟩>>=f).wp h Q:=by
 refine ZH rfl (stR g (Ee 4) (Yc t) (λh' u g'=>?_))
 rw [KW (cs:=t0.cells) (vs:=t.cells.toList) rfl,EG]at g'
 exact ldR g' rfl (H h' u)
theorem KMs {s:Eb} {n:Nat} {b:Nat} {h h0:Heap} {Q:Ea×Int->Heap->Prop} {t:Int} (ht:t=(n:Int)) (hn:n<=s.length) (hs:s.length<=1099511627776) (he:ErrV h) (E:Ext h0 h) (hb0:h0.size<=b) (g:h[b]?=some (.cells tkn0.cells KL (0,0)))
  (H:∀h',Ext h0 h'->Q ((oneV 1 s n (λv=>⟨2,[],v.n,0⟩)).1.cells,((oneV 1 s n (λv=>⟨2,[],v.n,0⟩)).2:Int)) h'):(zy (bs s) ⟨b,0,none⟩ t).wp h Q:=by
 subst ht
 unfold zy
 refine KAu (a:=0) (b:=n) rfl rfl (El _) hn ?_
 rw [Fd,FW]
 refine KD (KIc (by rw [EI];omega) he (λh2 c e2 V2=>?_))
 dsimp only
 refine Kw (λh3 e3 s3 g3=>ZH V2.size (stR g3 (by rw [V2.size];exact Ee 4) V2.to.one (λh4 u4 g4=>?_)))
 rw [KW (cs:=vz) (vs:=c.toList) (by rw [Ep,V2.size];rfl),EG]at g4
 have e4:Ext h h4:=(e2.trans e3).upd u4 e2.size
 obtain⟨v,hv⟩:∃v,v=(ZT (s.take n)).1:=⟨_,rfl⟩
 obtain⟨er,her⟩:∃er,er=(ZT (s.take n)).2.2:=⟨_,rfl⟩
 unfold oneV at H
 rw [<-hv]at V2 H
 rw [<-her]at H⊢
 obtain⟨k,nn,ss,l⟩:=v
 dsimp only [Vl.k,Vl.n,Vl.s]at H
 unfold oneW at H
 obtain⟨x,rfl,_⟩:=Zg.eq.1 V2
 refine or_b (c:=decide (k≠1)) (λ_ Q' hq=>KV (n:=k) (by rw [KM,KF g4];rfl) (KA (by rw [bne,eqI,<-FB];exact hq))) ?_
 rw [show(er !=0||decide (k≠1))=decide (er≠0\/k≠1) by rw [bne,eqI,<-FB,<-Fe]]
 have gb:=e4.blk g
 have E4:=E.trans e4
 refine KH (λhc=>?_) (λhc=>?_)
 ·rw [if_pos (Ec hc)]at H
  exact Nm (t0:=tkn0) (t:=tkn0) gb (λh5 u5=>KA (H _ (E4.upd u5 hb0)))
 ·rw [if_neg (Ed hc)]at H
  refine KV (n:=nn) (by rw [KM,KF g4];rfl) ?_
  exact Nm (t0:=tkn0) (t:=⟨2,[],nn,0⟩) gb (λh5 u5=>KA (H _ (E4.upd u5 hb0)))
theorem KPJ {s:Eb} {h:Heap} {Q:Ea×Int->Heap->Prop} (h0:s≠[]) (hs:s.length<=1099511627776) (he:ErrV h)
  (H:∀h',Ext h h'->Q ((oneP s).1.cells,((oneP s).2:Int)) h'):(KGY (bs s)).wp h Q:=by
 obtain⟨c,r,rfl⟩:=F8 h0
 unfold KGY
 refine Kw (λh1 e1 s1 g1=>?_)
 have hl:=KAB (c::r)
 refine VX (i:=0) rfl (by simp) ?_
 rw [show(c::r)[0]=c from rfl]
 refine KD (KId ?_)
 rw [YX]at H
 refine KH (λhm=>?_) (λhm=>?_)
 ·rw [if_pos hm]at H
  refine KAu (a:=0) (b:=1) rfl rfl (El _) (by simp) ?_
  exact Nm (t0:=tkn0) (t:=⟨4,[c],0,0⟩) g1 (λh5 u5=>KA (H _ (e1.upd u5 (Ee _))))
 rw [if_neg (by rw [hm];decide)]at H
 refine KD (KFp ?_)
 refine KH (λhlt=>?_) (λhlt=>?_)
 ·rw [if_pos hlt]at H
  refine KD (KGf (a:=0) rfl (El _) hs ?_)
  rw [Fd]
  refine KAu (a:=0) (b:=Jd (c::r)) rfl rfl (El _) hl ?_
  rw [Fd,FW]
  exact Nm (t0:=tkn0) (t:=⟨1,(c::r).take (Jd (c::r)),0,0⟩) g1 (λh5 u5=>KA (H _ (e1.upd u5 (Ee _))))
 rw [if_neg (by rw [hlt];decide)]at H
 rw [u8_c (d:=39) (n:=39) rfl]
 refine KH (λh39=>?_) (λh39=>?_)
 ·rw [if_pos (Ec h39)]at H
  have hcl:Wl (c::r)<=(c::r).length:=KAC _ _ _
  refine KD (KOK hs ?_)
  refine KAu (a:=0) (b:=Wl (c::r)) rfl rfl (El _) hcl ?_
  rw [Fd,FW]
  generalize Wl (c::r)=n at hcl H⊢
  refine KD (KIc (by rw [EI];omega) (he.ext e1) (λh2 c2 e2 V2=>?_))
  dsimp only
  refine Kw (λh3 e3 s3 g3=>ZH V2.size (stR g3 (by rw [V2.size];exact Ee 4) V2.to.one (λh4 u4 g4=>?_)))
  rw [KW (cs:=vz) (vs:=c2.toList) (by rw [Ep,V2.size];rfl),EG]at g4
  have e4:Ext h1 h4:=(e2.trans e3).upd u4 e2.size
  obtain⟨v,hv⟩:∃v,v=(ZT ((c::r).take n)).1:=⟨_,rfl⟩
  obtain⟨er,her⟩:∃er,er=(ZT ((c::r).take n)).2.2:=⟨_,rfl⟩
  unfold oneV at H
  rw [<-hv]at V2 H
  rw [<-her]at H⊢
  obtain⟨k,nn,ss,l⟩:=v
  dsimp only [Vl.k,Vl.n,Vl.s]at H
  unfold oneW at H
  obtain⟨x,rfl,_⟩:=Zg.eq.1 V2
  refine or_b (c:=decide (k≠2)) (λ_ Q' hq=>KV (n:=k) (by rw [KM,KF g4];rfl) (KA (by rw [bne,eqI,<-FB];exact hq))) ?_
  rw [show(er !=0||decide (k≠2))=decide (er≠0\/k≠2) by rw [bne,eqI,<-FB,<-Fe]]
  have gb:=e4.blk g1
  have E4:=e1.trans e4
  refine KH (λhc=>?_) (λhc=>?_)
  ·rw [if_pos (Ec hc)]at H
   exact Nm (t0:=tkn0) (t:=tkn0) gb (λh5 u5=>KA (H _ (E4.upd u5 (Ee _))))
  ·rw [if_neg (Ed hc)]at H
   refine WO (n:=bs ss) (by rw [KM,KF g4];rfl) ?_
   exact Nm (t0:=tkn0) (t:=⟨3,ss,0,0⟩) gb (λh5 u5=>KA (H _ (E4.upd u5 (Ee _))))
 ·rw [if_neg (Ed h39)]at H
  refine KD (KGf (a:=0) rfl (El _) hs ?_)
  rw [Fd]
  refine VX (i:=0) rfl (by simp) ?_
  rw [show(c::r)[0]=c from rfl,u8_c (d:=45) (n:=45) rfl]
  have hr:=KAB r
  have hlc:(c::r).length=r.length+1:=rfl
  refine KH (λh45=>?_) (λh45=>?_)
  ·rw [if_pos (Ec h45)]at H
   refine KD (KGf (a:=1) rfl (by simp) hs ?_)
   rw [show(c::r).drop 1=r from rfl,w64 (by omega) (by omega)]
   exact KMs (n:=1+Jd r) (by push_cast;rfl) (by omega) hs (he.ext e1) e1 (Ee _) g1 H
  ·rw [if_neg (Ed h45)]at H
   exact KMs rfl hl hs (he.ext e1) e1 (Ee _) g1 H
def KIe:Eb->Bool
 | [c]=>GL c
 |_=>false
def tokB (t:Tkn):Bool:=!(decide (t.a<0)||(decide (t.n≠0)&&decide (t.k≠2)))&&(if t.k=1 then Gf t.s else if t.k=2 then decide (t.s=[])else if t.k=3 then decide (t.s.length<=128)else if t.k=4 then KIe t.s else false)
def tokE (t:Tkn):Int:=if tokB t=true then 0 else 150
theorem KOL {t:Tkn} {h:Heap} {Q:Int->Heap->Prop} (H:∀h',Ext h h'->Q (tokE t) h'):(zp t.cells).wp h Q:=by
 unfold zp
 refine Kw (λh1 e1 s1 g1=>?_)
 obtain⟨k,s,n,a⟩:=t
 have cA:KJ h1 ((⟨h.size,0,none⟩:Addr).add 3)=some (.int .i64 a):=by rw [KM,KF g1];rfl
 have cN:KJ h1 ((⟨h.size,0,none⟩:Addr).add 2)=some (.int .i64 n):=by rw [KM,KF g1];rfl
 have cS:KJ h1 ((⟨h.size,0,none⟩:Addr).add 1)=some (.string (bs s)):=by rw [KM,KF g1];rfl
 have cK:KJ h1 ((⟨h.size,0,none⟩:Addr).add 0)=some (.int .i64 k):=by rw [add_zero,KF g1];rfl
 refine KV cA ?_
 refine or_b (c:=decide (n≠0)&&decide (k≠2)) (λ_ Q' hq=>KV cN (by
  rw [bne,eqI,<-FB]
  exact Jp (c:=decide (k≠2)) (λ_ Q2 hq2=>KV cK (KA (by rw [bne,eqI,<-FB];exact hq2))) (KA hq))) ?_
 have bad:∀{h2:Heap},Ext h h2->tokB ⟨k,s,n,a⟩=false->Q 150 h2:=λ{h2} e2 hf=>by
  have:=H _ e2
  unfold tokE at this
  rw [hf]at this
  exact this
 refine KH (λhc=>KA (bad e1 ?_)) (λhc=>?_)
 ·unfold tokB
  dsimp only
  rw [hc];rfl
 have fin:∀{b:Bool} {h2:Heap},Ext h h2->tokB ⟨k,s,n,a⟩=b->(WT b).wp h2 Q:=λ{b h2} e2 hb=>by
  unfold WT
  cases b with
  |true=>
   refine iteF rfl (KA ?_)
   have:=H _ e2
   unfold tokE at this
   rw [hb]at this
   exact this
  |false=>exact iteT rfl (KA (bad e2 hb))
 have hT:tokB ⟨k,s,n,a⟩=(if k=1 then Gf s else if k=2 then decide (s=[])else if k=3 then decide (s.length<=128)else if k=4 then KIe s else false):=by
  unfold tokB
  dsimp only
  rw [hc];rfl
 refine KV cK ?_
 rw [eqI,eqI,eqI,eqI]
 refine KH (λk1=>?_) (λk1=>?_)
 ·rw [if_pos (Ec k1)]at hT
  exact WO cS (KD (KJy (λh2 e2=>fin (e1.trans e2) hT)))
 rw [if_neg (Ed k1)]at hT
 refine KH (λk2=>?_) (λk2=>?_)
 ·rw [if_pos (Ec k2)]at hT
  refine WO cS ?_
  rw [sEq0]
  exact fin e1 hT
 rw [if_neg (Ed k2)]at hT
 refine KH (λk3=>?_) (λk3=>?_)
 ·rw [if_pos (Ec k3)]at hT
  refine WO cS (fin e1 ?_)
  rw [hT,Ke]
  exact Es.2 (by omega)
 rw [if_neg (Ed k3)]at hT
 refine KH (λk4=>?_) (λk4=>?_)
 ·rw [if_pos (Ec k4)]at hT
  refine WO cS ?_
  rw [Ke]
  match s,hT with
  | [],hT=>exact Y9 rfl (KZ (fin e1 hT))
  | [c],hT=>
   refine Ve rfl (KR (WO cS (KR (VX (i:=0) rfl (by simp) (KR (KD (KId (KZ (fin e1 hT)))))))))
  |c::d::r,hT=>
   refine Y9 ?_ (KZ (fin e1 hT))
   rw [eqI]
   exact Eo (by simp only [Ef];omega)
 ·rw [if_neg (Ed k4)]at hT
  exact fin e1 hT
end Gx
namespace Gx
open Go
def JD (c:UInt8):Bool:=decide (c=32\/c=10)
def JN (s:Eb) (a:Nat):Nat:=a+((s.drop a).takeWhile JD).length
theorem KFq {s:Eb} {a:Nat} (ha:a<=s.length):a<=JN s a/\JN s a<=s.length:=by
 have:((s.drop a).takeWhile JD).length<=(s.drop a).length:=Oy (Ov _)
 rw [Ex]at this
 unfold JN
 omega
theorem KMt {s:Eb} {a:Nat} (ha:s.length<=a):JN s a=a:=by
 unfold JN
 rw [FA.2 ha];rfl
theorem KBn {s:Eb} {a:Nat} (ha:a<s.length):JN s a=if JD s[a]=true then JN s (a+1)else a:=by
 unfold JN
 rw [Eh ha]
 by_cases h:JD s[a]=true
 ·rw [IJ h,if_pos h,Ef];omega
 ·rw [FC h,if_neg h];rfl
def NI (s:Eb) (a:Nat):Obj:=.cells #[.string (bs s),.int .i64 (a:Int)] KC2 (0,0)
def scN:Option Value->Nat
 |some (.int _ n)=>n.toNat
 |_=>0
def scAt (b:Nat) (h:Heap):Nat:=scN (KJ h ⟨b,1,none⟩)
theorem KLH {h:Heap} {b a:Nat} {s:Eb} (g:h[b]?=some (NI s a)):scAt b h=a:=by
 unfold NI at g
 unfold scAt;rw [KF g];rfl
theorem KIf {h:Heap} {b a:Nat} {s:Eb} (g:h[b]?=some (NI s a)):KJ h ((⟨b,0,none⟩:Addr).add 0)=some (.string (bs s)):=by
 rw [add_zero];unfold NI at g;rw [KF g];rfl
theorem KHP {h:Heap} {b a:Nat} {s:Eb} (g:h[b]?=some (NI s a)):KJ h ((⟨b,0,none⟩:Addr).add 1)=some (.int .i64 (a:Int)):=by
 rw [KM];unfold NI at g;rw [KF g];rfl
theorem KVg {h:Heap} {b a c:Nat} {s:Eb} (g:h[b]?=some (NI s a)):(hset h ⟨b,0+1,none⟩ (.int .i64 (c:Int)))[b]?=some (NI s c):=by
 unfold NI at g⊢
 rw [J8 (h:=h) g]
 rfl
theorem KIg {s:Eb} {b a:Nat} {h:Heap} {Q:Bool->Heap->Prop} (g:h[b]?=some (NI s a)) (ha:a<=s.length) (hs:s.length<=1099511627776)
  (H:∀h',Upd b h h'->h'[b]?=some (NI s (JN s a))->Q (decide (JN s a<s.length)) h'):(Jy (some ⟨b,0,none⟩)).wp h Q:=by
 unfold Jy
 refine M.loop_inv (λ(_:Unit) hh=>∃i:Nat,a<=i/\i<=s.length/\JN s a=JN s i/\(Upd b h hh\/hh=h)/\hh[b]?=some (NI s i)) (λ_ hh=>s.length - scAt b hh) ?_ ⟨a,Ee _,ha,rfl,.inr rfl,g⟩
 rintro⟨⟩ hh ⟨i,hai,hi,hsk,hu,gi⟩ self hself
 have upd:∀h',Upd b hh h'->Upd b h h':=λh' u=>by
  rcases hu with hu|rfl
  ·exact⟨by rw [u.size,hu.size],λk hk=>(u.ne k hk).trans (hu.ne k hk)⟩
  ·exact u
 have hud:Upd b h hh:=by
  rcases hu with hu|rfl
  ·exact hu
  ·exact⟨rfl,λ_ _=>rfl⟩
 unfold YO
 refine Kc (Kc (KV (KHP gi) (WO (KIf gi) ?_)))
 rw [Ke]
 have fin:JN s i=i->(Jt (some ⟨b,0,none⟩)).wp hh Q:=λhe=>by
  unfold Jt
  refine Kc (Kc (KV (KHP gi) (WO (KIf gi) (KA ?_))))
  have:=H hh hud (by rw [hsk,he];exact gi)
  rw [hsk,he]at this
  rw [Ke,show decide ((i:Int)<(s.length:Int))=decide (i<s.length)from Es.2 (by omega)]
  exact this
 refine KH (λhlt=>?_) (λhge=>fin (KMt (by have:=Ed hge;omega)))
 have hlt:i<s.length:=by have:=Ec hlt;omega
 refine Kc (Kc (WO (KIf gi) (KV (KHP gi) (VX (i:=i) rfl hlt ?_))))
 have hst:=KBn hlt
 rw [u8_c (d:=32) (n:=32) rfl,u8_c (d:=10) (n:=10) rfl]
 have j2:∀t:Bool,t=JD s[i]->(Ju self (some ⟨b,0,none⟩) t).wp hh Q:=λt ht=>by
  unfold Ju
  refine KH (λhc=>?_) (λhc=>fin ?_)
  ·rw [<-ht,hc,if_pos rfl]at hst
   refine Kc (KV (KHP gi) (Kc (qF (KHP gi) (by rw [KM];unfold NI at gi;exact Kv gi) rfl ?_)))
   rw [w64 (by omega) (by omega),KM,show(i:Int)+1=((i+1:Nat):Int) by simp]
   have u:=Upd.hset hh b (0+1) (.int .i64 ((i+1:Nat):Int))
   have g':=KVg (c:=i+1) gi
   refine hself _ _ ⟨i+1,by omega,hlt,by rw [hsk,hst],.inl (upd _ u),g'⟩ ?_
   rw [KLH g',KLH gi]
   omega
  ·rw [<-ht,hc,if_neg (by decide)]at hst
   exact hst
 refine KH (λhc=>j2 _ ?_) (λhc=>j2 _ ?_)
 ·rw [hc];unfold JD;exact(Ej (.inl (Ec hc))).symm
 ·unfold JD
  exact Es.2 ⟨.inr,λh=>h.resolve_left (Ed hc)⟩
end Gx
namespace Gx
open Go
theorem KR2 {k:Int} {s:Eb} {n:Nat} {t:Vl->Tkn} (hn:n<=s.length):(oneV k s n t).2<=s.length:=by
 unfold oneV oneW
 split
 ·exact El _
 ·exact hn
theorem KLI:∀s:Eb,(oneP s).2<=s.length
 | []=>Ee _
 |c::r=>by
  rw [YX]
  have h1:=KAB (c::r)
  have h2:=KAB r
  have h3:(c::r).length=r.length+1:=rfl
  split
  ·show 1<=_;omega
  split
  ·exact h1
  split
  ·exact KR2 (KAC _ _ _)
  ·exact KR2 (by split<;>omega)
def Xp (s:Eb) (a:Nat):Option (Tkn×Nat):=
 if JN s a<s.length then
  (if(oneP (s.drop (JN s a))).2=0\/tokB {(oneP (s.drop (JN s a))).1 with a:=(JN s a:Int)}=false then none
   else some ({(oneP (s.drop (JN s a))).1 with a:=(JN s a:Int)},JN s a+(oneP (s.drop (JN s a))).2))
 else none
theorem KR3 (t:Tkn):(tokE t !=0)=!tokB t:=by
 unfold tokE
 cases tokB t<;>rfl
theorem KR4 {s:Eb} {b a:Nat} {h:Heap} {Q:Ea×Bool->Heap->Prop} (g:h[b]?=some (NI s a)) (ha:a<=s.length) (hs:s.length<=1099511627776) (he:ErrV h) (hb:b≠gER)
  (H1:∀h',Xp s a=none->Kb b h h'->h'[b]?=some (NI s (JN s a))->Q (tkn0.cells,false) h')
  (H2:∀h' t a',Xp s a=some (t,a')->a<a'->a'<=s.length->Kb b h h'->h'[b]?=some (NI s a')->Q (t.cells,true) h'):(Wu (some ⟨b,0,none⟩)).wp h Q:=by
 unfold Wu
 have hbl:=JV g
 have hsk:=KFq ha
 refine Kw (λh1 e1 s1 g1=>?_)
 refine KD (KIg (e1.blk g) ha hs (λh2 u2 g2=>?_))
 have g1':h2[h.size]?=some (.cells tkn0.cells KL (0,0)):=(u2.ne _ (by omega)).trans g1
 have K2:Kb b h h2:=(Km.ext e1).trans (Km.upd u2 rfl)
 obtain⟨p,hp⟩:∃p,p=JN s a:=⟨_,rfl⟩
 unfold Xp at H1 H2
 rw [<-hp]at H1 H2 g2 hsk⊢
 refine KH (λhc=>?_) (λhc=>?_)
 ·have hc:¬p<s.length:=by simpa using hc
  rw [if_neg hc]at H1
  exact Nm (t0:=tkn0) (t:=tkn0) g1' (λh3 u3=>KA (H1 _ rfl (K2.own u3 (Ee _)) ((u3.ne b (by omega)).trans g2)))
 ·have hc:p<s.length:=by simpa using hc
  rw [if_pos hc]at H1 H2
  refine Kc (Kc (WO (KIf g2) (KV (KHP g2) (KAu (a:=p) (b:=s.length) rfl (by rw [Ke]) (by omega) (Ee _) ?_))))
  rw [EU (by rw [Ex];omega)]
  have hne:s.drop p≠[]:=λe=>by have:=Ew List.length e;rw [Ex]at this;simp at this;omega
  have hdl:(s.drop p).length<=1099511627776:=by rw [Ex];omega
  have hol:=KLI (s.drop p)
  rw [Ex]at hol
  have he2:ErrV h2:=he.km K2 hb
  obtain⟨o,ho⟩:∃o,o=oneP (s.drop p):=⟨_,rfl⟩
  rw [<-ho]at H1 H2 hol
  have rest:∀{h3:Heap} {q:Nat},Ext h2 h3->h2.size<=q->h3[q]?=some (.cells tkn0.cells KL (0,0))->(do
    M.need (o.1.cells.size=4)
    stG ⟨q,0,none⟩ o.1.cells
    let Xx22<-nilP (some ⟨b,0,none⟩)
    let Xx23<-ldI .i64 ((Xx22).add 1)
    stV ((⟨q,0,none⟩:Addr).add 3) (.int .i64 Xx23)
    let Xx27<-M.ite ((o.2:Int)==0) (do
     M.pure true
     ) (do
     let Xx28<-ldG 4 ⟨q,0,none⟩
     let Xx29<-zp Xx28
     M.pure (Xx29 !=0)
     )
    M.ite Xx27 (do
     M.need ((#[.int .i64 0,.string ByteArray.empty,.int .i64 0,.int .i64 0]:Ea).size=4)
     stG ⟨h.size,0,none⟩ (#[.int .i64 0,.string ByteArray.empty,.int .i64 0,.int .i64 0]:Ea)
     let Rr32<-ldG 4 ⟨h.size,0,none⟩
     M.pure (Rr32,false)
     ) (do
     let Xx34<-nilP (some ⟨b,0,none⟩)
     let Xx35<-ldI .i64 ((Xx34).add 1)
     let Xx36<-nilP (some ⟨b,0,none⟩)
     stV ((Xx36).add 1) (.int .i64 (IntKind.wrap .i64 (Xx35+(o.2:Int))))
     let Xx39<-ldG 4 ⟨q,0,none⟩
     M.need (Xx39.size=4)
     stG ⟨h.size,0,none⟩ Xx39
     let Rr41<-ldG 4 ⟨h.size,0,none⟩
     M.pure (Rr41,true)
     ):M (Ea×Bool)).wp h3 Q:=λ{h3 q} e3 hq g3=>by
   have hs3:=e3.size
   have hz2:=K2.size
   have hz1:=u2.size
   refine ZH rfl (stR g3 (Ee 4) (Yc _) (λh4 u4 g4=>?_))
   rw [KW (cs:=tkn0.cells) (vs:=o.1.cells.toList) rfl,EG]at g4
   have gb4:h4[b]?=some (NI s p):=(u4.ne b (by omega)).trans (e3.blk g2)
   refine Kc (KV (KHP gb4) (qF (x:=.int .i64 o.1.a) (by rw [KM,KF g4];rfl) (by rw [KM];exact Kv g4) rfl ?_))
   rw [KM]
   have u5:=Upd.hset h4 q (0+3) (.int .i64 (p:Int))
   have g5:(hset h4 ⟨q,0+3,none⟩ (.int .i64 (p:Int)))[q]?=some (.cells (Tkn.cells {o.1 with a:=(p:Int)}) KL (0,0)):=by rw [J8 g4];rfl
   generalize hset h4 ⟨q,0+3,none⟩ (.int .i64 (p:Int))=h5 at u5 g5⊢
   generalize ht:({o.1 with a:=(p:Int)}:Tkn)=t at g5 H1 H2
   have gb5:h5[b]?=some (NI s p):=(u5.ne b (by omega)).trans gb4
   have gz5:h5[h.size]?=some (.cells tkn0.cells KL (0,0)):=(u5.ne _ (by omega)).trans ((u4.ne _ (by omega)).trans (e3.blk g1'))
   have K5:Kb b h h5:=((K2.trans (Km.ext e3)).own u4 (by omega)).own u5 (by omega)
   have fin:∀{h6:Heap} {c:Bool},Ext h5 h6->c=decide (o.2=0\/tokB t=false)->(M.ite c (do
     M.need ((#[.int .i64 0,.string ByteArray.empty,.int .i64 0,.int .i64 0]:Ea).size=4)
     stG ⟨h.size,0,none⟩ (#[.int .i64 0,.string ByteArray.empty,.int .i64 0,.int .i64 0]:Ea)
     let Rr32<-ldG 4 ⟨h.size,0,none⟩
     M.pure (Rr32,false)
     ) (do
     let Xx34<-nilP (some ⟨b,0,none⟩)
     let Xx35<-ldI .i64 ((Xx34).add 1)
     let Xx36<-nilP (some ⟨b,0,none⟩)
     stV ((Xx36).add 1) (.int .i64 (IntKind.wrap .i64 (Xx35+(o.2:Int))))
     let Xx39<-ldG 4 ⟨q,0,none⟩
     M.need (Xx39.size=4)
     stG ⟨h.size,0,none⟩ Xx39
     let Rr41<-ldG 4 ⟨h.size,0,none⟩
     M.pure (Rr41,true)
     ):M (Ea×Bool)).wp h6 Q:=λ{h6 c} e6 hcc=>by
    have gb6:=e6.blk gb5
    have gz6:=e6.blk gz5
    have K6:Kb b h h6:=K5.trans (Km.ext e6)
    refine KH (λh0=>?_) (λh0=>?_)
    ·rw [if_pos (Ec (hcc.symm.trans h0))]at H1
     exact Nm (t0:=tkn0) (t:=tkn0) gz6 (λh7 u7=>KA (H1 _ rfl (K6.own u7 (Ee _)) ((u7.ne b (by omega)).trans gb6)))
    ·have hno:=Ed (hcc.symm.trans h0)
     rw [if_neg hno]at H2
     have ho0:o.2≠0:=λe=>hno (.inl e)
     refine Kc (KV (KHP gb6) (Kc (qF (KHP gb6) (by rw [KM];unfold NI at gb6;exact Kv gb6) rfl ?_)))
     rw [w64 (by omega) (by omega),KM,show(p:Int)+(o.2:Int)=((p+o.2:Nat):Int) by push_cast;rfl]
     have u7:=Upd.hset h6 b (0+1) (.int .i64 ((p+o.2:Nat):Int))
     have g7:=KVg (c:=p+o.2) gb6
     generalize hset h6 ⟨b,0+1,none⟩ (.int .i64 ((p+o.2:Nat):Int))=h7 at u7 g7⊢
     have gq7:=(u7.ne q (by omega)).trans (e6.blk g5)
     refine ldR gq7 rfl ?_
     exact Nm (t0:=tkn0) (t:=t) ((u7.ne _ (by omega)).trans gz6) (λh8 u8=>KA (H2 _ t _ rfl (by omega) (by omega) ((K6.trans (Km.upd u7 rfl)).own u8 (Ee _)) ((u8.ne b (by omega)).trans g7)))
   refine KD (KH (λh0=>KA (fin (Ext.refl _) ?_)) (λh0=>ldR g5 rfl (KD (KOL (λh6 e6=>KA (fin e6 ?_))))))
   ·rw [eqI]at h0
    have:=Ec h0
    exact(Ej (.inl (by omega))).symm
   ·rw [eqI]at h0
    have:=Ed h0
    have h1:¬o.2=0:=by omega
    rw [KR3]
    cases tokB t with
    |true=>exact(Eo (λh=>h.elim h1 (λh=>by cases h))).symm
    |false=>exact(Ej (.inr rfl)).symm
  have ck:∀{h':Heap},Ext h2 h'->KJ h' ((⟨b,0,none⟩:Addr).add 0)=some (.string (bs s))/\KJ h' ((⟨b,0,none⟩:Addr).add 1)=some (.int .i64 (p:Int)):=λ{h'} e=>⟨KIf (e.blk g2),KHP (e.blk g2)⟩
  refine KVU (KD (KD (KPJ hne hdl he2 (λh3 e3=>Kw (λh4 e4 s4 g4=>qE (ck (e3.trans e4)) (KA ?_)))))) (KD (Kw (λh3 e3 s3 g3=>qE (ck e3) (KD (KPJ hne hdl (he2.ext e3) (λh4 e4=>KA ?_))))))
  ·rw [<-ho]
   exact rest (e3.trans e4) (by exact e3.size) g4
  ·rw [<-ho]
   exact rest (e3.trans e4) (Ee _) (e4.blk g3)
end Gx
namespace Gx
open Go
theorem N5 {s:Eb} {a a':Nat} {t:Tkn} (ha:a<=s.length) (h:Xp s a=some (t,a')):a<a'/\a'<=s.length:=by
 have hsk:=KFq ha
 have hol:=KLI (s.drop (JN s a))
 rw [Ex]at hol
 unfold Xp at h
 split at h
 ·split at h
  ·cases h
  ·rename_i h1
   cases h
   have:(oneP (s.drop (JN s a))).2≠0:=λe=>h1 (.inl e)
   omega
 ·cases h
def allF (s:Eb):Nat->Nat->List Tkn×Nat
 |0,a=>([],JN s a)
 |f+1,a=>match Xp s a with
  |none=>([],JN s a)
  |some (t,a')=>(t::(allF s f a').1,(allF s f a').2)
theorem KMu {s:Eb}:∀(f g a:Nat),a<=s.length->s.length - a<f->s.length - a<g->allF s f a=allF s g a
 |0,_,_,_,h,_=>by omega
 |_,0,_,_,_,h=>by omega
 |f+1,g+1,a,ha,h1,h2=>by
  rw [allF,allF]
  cases hn:Xp s a with
  |none=>rfl
  |some p=>
   obtain⟨t,a'⟩:=p
   have:=N5 ha hn
   dsimp only
   rw [KMu f g a' this.2 (by omega) (by omega)]
def allT (s:Eb) (a:Nat):List Tkn×Nat:=allF s (s.length - a+1) a
theorem XJ {s:Eb} {a:Nat} (h:Xp s a=none):allT s a=([],JN s a):=by
 unfold allT
 rw [allF,h]
theorem XK {s:Eb} {a a':Nat} {t:Tkn} (ha:a<=s.length) (h:Xp s a=some (t,a')):allT s a=(t::(allT s a').1,(allT s a').2):=by
 have:=N5 ha h
 unfold allT
 rw [allF,h]
 dsimp only
 rw [KMu (s.length - a) (s.length - a'+1) a' this.2 (by omega) (by omega)]
end Gx
namespace Gx
open Go
theorem KaG {s:Eb} {b c a l:Nat} {Inv:Nat->Heap->Prop} {Stop:Heap->Prop} {h:Heap} (ha:a<=s.length) (hs:s.length<=1099511627776) (hb:b≠gER) (hU:∀i h1 h2,Inv i h1->Kb b h1 h2->Inv i h2)
  (hC:∀i h1,Inv i h1->ErrV h1/\h1[c]?=some (.cells #[.pointer (some ⟨b,0,none⟩)] NQ (0,0))) (g:h[b]?=some (NI s a)) (h0:Inv 0 h)
  (hround:∀i (hi:i<(allT s a).1.length) h1,Inv i h1->(qq Tryz.prog (λr:Bool=>.bool r) (yV l) [.agg (allT s a).1[i].cells]).wp h1 (λr h2=>h2[b]?=h1[b]?/\(if r=true then Inv (i+1) h2 else Stop h2))):
  (qq Tryz.prog (λ_:Unit=>.tuple #[]) (.func (.func Yi) #[] #[.pointer (some ⟨c,0,none⟩)]) [yV l]).wp h (λ_ h1=>(Inv (allT s a).1.length h1/\h1[b]?=some (NI s (allT s a).2))\/Stop h1):=by
 refine KKS KCI (KEF (yV l) ⟨c,0,none⟩) ?_
 unfold zz
 refine M.loop_inv (λ(_:Unit) hh=>∃i a':Nat,a'<=s.length/\i<=(allT s a).1.length/\(allT s a).1.drop i=(allT s a').1/\(allT s a).2=(allT s a').2/\Inv i hh/\hh[b]?=some (NI s a')) (λ_ hh=>s.length - scAt b hh) ?_ ⟨0,a,ha,El _,rfl,rfl,h0,g⟩
 rintro⟨⟩ hh ⟨i,a',ha',hi,hd,h2e,hI,gb⟩ self hself
 unfold Yz
 obtain⟨he,hc⟩:=hC i hh hI
 refine zd (n:=some ⟨b,0,none⟩) (by rw [KF hc];rfl) (KD (KR4 gb ha' hs he hb (λh2 hn K2 g2=>?_) (λh2 t a2 hn hlt hle K2 g2=>?_)))
 ·refine Kw (λh3 e3 s3 g3=>ZH rfl (stR g3 (Ee 4) (Yc tkn0) (λh4 u4 g4=>Ve rfl (KZ (iteT rfl (KA (.inl ?_)))))))
  rw [XJ hn]at hd h2e
  have hlen:i=(allT s a).1.length:=by
   have:=Ew List.length hd
   rw [Ex]at this
   simp only [En]at this
   omega
  have K4:Kb b h2 h4:=(Km.ext e3).own u4 (Ee _)
  rw [<-hlen,h2e]
  exact⟨hU _ _ _ hI (K2.trans K4),(u4.ne b (by have:=JV g2;omega)).trans (e3.blk g2)⟩
 ·refine Kw (λh3 e3 s3 g3=>ZH rfl (stR g3 (Ee 4) (Yc t) (λh4 u4 g4=>Y9 rfl ?_)))
  have g4:h4[h2.size]?=some (.cells t.cells KL (0,0)):=by
   have e:lay tkn0.cells 0 t.cells.toList=t.cells:=by rw [KW (cs:=tkn0.cells) (vs:=t.cells.toList) rfl,EG]
   rw [<-e];exact g4
  rw [XK ha' hn]at hd h2e
  have hlt2:i<(allT s a).1.length:=by
   rcases ES i (allT s a).1.length with h|h
   ·exact h
   ·rw [FA.2 h]at hd;cases hd
  rw [Eh hlt2]at hd
  obtain⟨hd1,hd2⟩:=List.cons.inj hd
  have K4:Kb b h2 h4:=(Km.ext e3).own u4 (Ee _)
  have gb4:h4[b]?=some (NI s a2):=(u4.ne b (by have:=JV g2;omega)).trans (e3.blk g2)
  have hr:=hround i hlt2 h4 (hU _ _ _ hI (K2.trans K4))
  rw [hd1]at hr
  refine KR (ldR g4 rfl (KR (KD ((qq _ _ _ _).mono ?_ hr))))
  rintro r h5 ⟨hk,hr5⟩
  refine KZ ?_
  cases r with
  |true=>
   rw [if_pos rfl]at hr5
   refine iteF rfl (hself _ _ ⟨i+1,a2,hle,hlt2,hd2,h2e,hr5,hk.trans gb4⟩ ?_)
   rw [KLH (hk.trans gb4),KLH gb]
   omega
  |false=>
   rw [if_neg (by decide)]at hr5
   exact iteT rfl (KA (.inr hr5))
end Gx
namespace Gx
open Go
abbrev tokV (t:Tkn):List Value:=[.agg t.cells]
def SeqT (P:Program) (ts:List Tkn) (g:Value) (b:Nat) (C:Heap->Prop) (o:Obj) (End:Heap->Prop):Prop:=
 ∀(l:Nat) (Inv:Nat->Heap->Prop) (Stop:Heap->Prop) (h:Heap),(∀i h1 h2,Inv i h1->Kb b h1 h2->Inv i h2)->(∀i h1,Inv i h1->C h1)->h[b]?=some o->Inv 0 h->
  (∀i (hi:i<ts.length) h1,Inv i h1->(qq P (λb:Bool=>.bool b) (yV l) (tokV ts[i])).wp h1 (λr h2=>h2[b]?=h1[b]?/\(if r=true then Inv (i+1) h2 else Stop h2)))->
  (qq P (λ_:Unit=>.tuple #[]) g [yV l]).wp h (λ_ h1=>(Inv ts.length h1/\End h1)\/Stop h1)
theorem KR5 {P:Program} {js:List Code} {Y:Nat->Ea->M Nat} {Yb:Addr->M Nat} {r:Loop} {l:Nat} {t:Tkn}
  (hY:Y l t.cells=(mkB KL (#[.int .i64 0,.string ByteArray.empty,.int .i64 0,.int .i64 0]:Ea)>>=λa=>M.need (t.cells.size=4)>>=λ_=>stG a t.cells>>=λ_=>beg l>>=λ_=>Yb a))
  (hr:KO1 P (λx:Ea=>[.agg x]) js Y r l) {c:Code} (hjs:js=[c]) {J J' E:Heap->Prop}
  (hJ:∀h1 h2,J h1->Upd l h1 h2->J h2) (hJx:∀h1 h2,J h1->Ext h1 h2->J h2) (hJ':∀h1 h2,J' h1->Upd l h1 h2->J' h2) (hE:∀h1 h2,E h1->Upd l h1 h2->E h2)
  (hbody:∀h1 o n,J h1->h1[n]?=some (.cells t.cells KL (0,0))->h1[l]?=some o->l<n->(Yb ⟨n,0,none⟩).wp h1 (λj h2=>h2[l]?=some o/\(j=0/\J' h2\/j=1/\E h2))) {h1:Heap} (h0:J h1) (hrec:h1[l]?=some (KAJ r .ready none)):
  (qq P (λb:Bool=>.bool b) (yV l) (tokV t)).wp h1 (λb h2=>if b=true then(J' h2/\h2[l]?=some (KAJ r .ready none))else(E h2/\h2[l]?=some (KAJ r .done (some c)))):=by
 refine hr t.cells h1 _ .ready none hrec ?_
 rw [hY]
 refine Kw (λh2 e2 s2 g2=>ZH rfl (stR g2 (Ee 4) (Yc t) (λh3 u3 g3=>?_)))
 have g3:h3[h1.size]?=some (.cells t.cells KL (0,0)):=by
  have e:lay tkn0.cells 0 t.cells.toList=t.cells:=by rw [KW (cs:=tkn0.cells) (vs:=t.cells.toList) rfl,EG]
  rw [<-e];exact g3
 have e3:Ext h1 h3:=e2.upd u3 (Ee _)
 have hl:=JV hrec
 have hrec3:=e3.blk hrec
 refine⟨{r with state:=.ready,pending:=none},hrec3,rfl,?_⟩
 have hb:=KKY (o':=KAJ r .busy none) hrec3
 refine(Yb ⟨h1.size,0,none⟩).mono ?_ (hbody _ _ h1.size (hJ _ _ (hJx _ _ h0 e3) (Upd.set_ h3 l (KAJ r .busy none))) (((Upd.set_ h3 l (KAJ r .busy none)).ne _ (by omega)).trans g3) hb (by omega))
 rintro j h4 ⟨h5,h6⟩
 refine⟨.busy,none,h5,?_⟩
 rcases h6 with⟨rfl,h6⟩|⟨rfl,h6⟩
 ·show if true=true then _ else _
  rw [if_pos rfl]
  exact⟨hJ' _ _ h6 (Upd.set_ _ _ _),KKY h5⟩
 ·subst hjs
  show if false=true then _ else _
  rw [if_neg (by simp)]
  exact⟨hE _ _ h6 (Upd.set_ _ _ _),KKY h5⟩
theorem KaH {P:Program} {js:List Code} {Y:Nat->Ea->M Nat} {Yb:Addr->M Nat}
  (hY:∀l (x:Ea),Y l x=(mkB KL (#[.int .i64 0,.string ByteArray.empty,.int .i64 0,.int .i64 0]:Ea)>>=λa=>M.need (x.size=4)>>=λ_=>stG a x>>=λ_=>beg l>>=λ_=>Yb a))
  {c:Code} (hjs:js=[c]) {g:Value} (hg:∀l,g≠.func (.yield l) #[] #[]) {h:Heap} {Q:Nat×Nat->Heap->Prop} {ts:List Tkn} {b:Nat} {o0:Obj} {C End:Heap->Prop}
  (J:Nat->Heap->Prop) (E:Heap->Prop) (hJ:∀i h1 h2,J i h1->Upd (h.size+1) h1 h2->J i h2) (hE:∀h1 h2,E h1->Upd (h.size+1) h1 h2->E h2) (hEnd:∀h1 h2,End h1->Upd (h.size+1) h1 h2->End h2) (hJb:∀i h1 h2,J i h1->h.size+2<=h1.size->Kb b h1 h2->J i h2) (hC:∀i h1,J i h1->C h1)
  (hb:h[b]?=some o0) (hseq:SeqT P ts g b C o0 End) (h0:∀r:Loop,J 0 ((h.push (.deferred (some []))).push (KAJ r .ready none)))
  (hbody:∀i (hi:i<ts.length) h1 o n,J i h1->h1[n]?=some (.cells (ts[i]).cells KL (0,0))->h.size+2<=n->h1[h.size+1]?=some o->(Yb ⟨n,0,none⟩).wp h1 (λj h2=>h2[h.size+1]?=some o/\h2[b]?=h1[b]?/\(j=0/\J (i+1) h2\/j=1/\E h2)))
  (hq0:∀h1,J ts.length h1->End h1->Q (0,h.size) h1) (hq1:∀h1,E h1->Q (1,h.size) h1):(rgF P (λx:Ea=>[.agg x]) js Y g).wp h Q:=by
 refine⟨hg,λr hr=>?_⟩
 have hbl:=JV hb
 have hrec:((h.push (.deferred (some []))).push (KAJ r .ready none))[h.size+1]?=some (KAJ r .ready none):=by
  have:h.size+1=(h.push (.deferred (some []))).size:=by simp
  rw [this];exact Kx
 refine(qq P _ _ _).mono ?_ (hseq (h.size+1) (λi h1=>J i h1/\h1[h.size+1]?=some (KAJ r .ready none)) (λh1=>E h1/\h1[h.size+1]?=some (KAJ r .done (some c))) _ (λi h1 h2 hh u=>⟨hJb i h1 h2 hh.1 (JV hh.2) u,(u.blk hh.2 (by omega))⟩) (λi h1 hh=>hC i h1 hh.1)
  (by rw [qG (by simp;omega),qG hbl];exact hb) ⟨h0 r,hrec⟩ (λi hi h1 hh=>?_))
 ·rintro _ h1 (⟨⟨h2,h3⟩,h4⟩|⟨h2,h3⟩)
  ·exact⟨.ready,0,by decide,h3,hq0 _ (hJ _ _ _ h2 (Upd.set_ _ _ _)) (hEnd _ _ h4 (Upd.set_ _ _ _))⟩
  ·subst hjs
   exact⟨.done,1,by decide,h3,hq1 _ (hE _ _ h2 (Upd.set_ _ _ _))⟩
 ·have hz:=JV hh.2
  have hbo:∃o,h1[b]?=some o:=⟨_,EF (by omega)⟩
  obtain⟨ob,hob⟩:=hbo
  refine(qq P _ _ _).mono ?_ (KR5 (hY _ _) hr hjs (J:=λh2=>J i h2/\h2[b]?=some ob/\h.size+2<=h2.size) (J':=λh2=>J (i+1) h2/\h2[b]?=some ob) (E:=λh2=>E h2/\h2[b]?=some ob) (λh2 h3 hj u=>⟨hJ _ _ _ hj.1 u,(u.ne _ (by omega)).trans hj.2.1,by rw [u.size];exact hj.2.2⟩) (λh2 h3 hj e=>⟨hJb _ _ _ hj.1 hj.2.2 (Km.ext e),e.blk hj.2.1,by have:=e.size;omega⟩) (λh2 h3 hj u=>⟨hJ _ _ _ hj.1 u,(u.ne _ (by omega)).trans hj.2⟩) (λh2 h3 hj u=>⟨hE _ _ hj.1 u,(u.ne _ (by omega)).trans hj.2⟩) (λh2 o n hj hn ho hnl=>?_) ⟨hh.1,hob,hz⟩ hh.2)
  ·rintro r' h2 hr'
   rw [hob]
   split at hr'
   ·rename_i hT;subst hT;exact⟨hr'.1.2,by rw [if_pos rfl];exact⟨hr'.1.1,hr'.2⟩⟩
   ·rename_i hF;exact⟨hr'.1.2,by rw [if_neg hF];exact⟨hr'.1.1,hr'.2⟩⟩
  ·refine(Yb _).mono ?_ (hbody i hi h2 o n hj.1 hn (by omega) ho)
   rintro j h3 ⟨h4,h5,h6⟩
   exact⟨h4,h6.imp (λh6=>⟨h6.1,h6.2,h5.trans hj.2.1⟩) (λh6=>⟨h6.1,h6.2,h5.trans hj.2.1⟩)⟩
theorem oneC {h:Heap} {b:Nat} {v:Value} {t:TypeId} {z:Nat×Nat} (hb:h[b]?=some (.cells #[v] t z)):KJ h ⟨b,0,none⟩=some v:=by rw [KF hb];rfl
theorem stO {β:Type} {h:Heap} {Q:β->Heap->Prop} {b:Nat} {v u:Value} {t:TypeId} {f:Unit->M β} (g:h[b]?=some (.cells #[v] t (0,0))) (h1:one u=true)
  (H:∀h',Upd b h h'->h'[b]?=some (.cells #[u] t (0,0))->(f ()).wp h' Q):(stV ⟨b,0,none⟩ u>>=f).wp h Q:=
 qF (oneC g) (Kv g) h1 (H _ (Upd.hset _ _ _ _) (by rw [J8 g];rfl))
def tks (ts:List Tkn):List (Ea):=ts.map Tkn.cells
theorem KR6 (ts:List Tkn):W4 (tks ts):=λc hc=>by
 obtain⟨t,_,rfl⟩:=Fv.1 hc
 exact⟨rfl,Yc t⟩
theorem KGg (ts:List Tkn):(tks ts).length=ts.length:=EL _
theorem KWx (a b:List Tkn):tks (a++b)=tks a++tks b:=Fm
def TkR (h:Heap) (x:Sl) (ts:List Tkn):Prop:=x.len=ts.length/\KAI h x.base (JC (tks ts))
theorem TkR.ext {h h':Heap} {x:Sl} {ts:List Tkn} (H:TkR h x ts) (e:Ext h h'):TkR h' x ts:=⟨H.1,e.reads H.2⟩
theorem TkR.nil (h:Heap):TkR h Sl.nil []:=⟨rfl,.inl rfl⟩
theorem Gw.tkR {lo:Nat} {h:Heap} {r:Sl} {ts:List Tkn} (G:Gw lo h r 4 (JC (tks ts))):TkR h r ts:=⟨by have:=G.len;rw [XH (KR6 ts),KGg]at this;omega,G.reads⟩
theorem TkR.at {h:Heap} {x:Sl} {ts:List Tkn} (H:TkR h x ts) {i:Nat} (hi:i<ts.length):∃a,x.base=some a/\∀j,j<4->KJ h ((a.add (i*4)).add j)=(ts[i]).cells[j]?:=by
 rcases H.2 with h0|⟨a,ha,hr⟩
 ·have:=Ew List.length h0
  rw [XH (KR6 ts),KGg]at this;simp at this;omega
 ·refine⟨a,ha,λj hj=>?_⟩
  rw [Addr.add_add]
  have h1:=KIX (KR6 ts) i j hj
  rw [Em (l:=tks ts) (i:=i) (by rw [KGg];exact hi),FG]at h1
  have h2:(tks ts)[i]'(by rw [KGg];exact hi)=(ts[i]).cells:=by simp [tks]
  rw [h2]at h1
  have h3:j<(ts[i]).cells.size:=hj
  rw [EF h3]at h1⊢
  exact hr _ _ h1
end Gx
namespace Gx
open Go Go.Proofs Go.Shelf Go.RowKit Go.Lib
def dcv (acc:Nat) (l:Eb):Nat:=l.foldl (λa c=>a*10+(c.toNat - 48)) acc
theorem KR7 (acc:Nat):dcv acc []=acc:=rfl
theorem KLJ (acc:Nat) (c:UInt8) (r:Eb):dcv acc (c::r)=dcv (acc*10+(c.toNat - 48)) r:=IB ..
theorem KLK (l:Eb) (acc:Nat) (c:UInt8):dcv acc (l++[c])=dcv acc l*10+(c.toNat - 48):=by
 unfold dcv
 rw [List.foldl_append,IB,List.foldl_nil]
theorem KR8:∀(l:Eb) (acc:Nat),acc<=dcv acc l
 | [],acc=>Ee _
 |c::l,acc=>by rw [KLJ];have:=KR8 l (acc*10+(c.toNat - 48));omega
theorem KPK {a b:Eb} (h:a≠[]):(a++b).head?=a.head?:=by cases a with|nil=>exact absurd rfl h|cons c r=>rfl
theorem KAZ:∀(m u:Nat),u<m->(decDigits u).all digB=true/\dcv 0 (decDigits u)=u/\decDigits u≠[]/\((decDigits u).head?=some 48->u=0):=by
 intro m
 induction m with
 |zero=>intro u h;omega
 |succ m ih=>
  intro u h
  have hd:∀k,k<10->digB (UInt8.ofNat (48+k))=true/\(UInt8.ofNat (48+k)).toNat=48+k:=λk hk=>by
   have h1:(UInt8.ofNat (48+k)).toNat=48+k:=by
    rw [Il]
    exact Od (by omega)
   exact⟨by unfold digB;rw [h1,Ej (by omega),Ej (by omega)];rfl,h1⟩
  rw [decDigits]
  by_cases h10:u<10
  ·rw [IY h10]
   obtain⟨a,b⟩:=hd u h10
   refine⟨by rw [EX,a];rfl,?_,by simp,λhh=>?_⟩
   ·rw [KLJ,KR7,b];omega
   ·have:UInt8.ofNat (48+u)=48:=by simpa using hh
    have h2:=Ew UInt8.toNat this
    rw [b]at h2
    have:(48:UInt8).toNat=48:=rfl
    omega
  ·rw [Ot h10]
   obtain⟨a1,a2,a3,a4⟩:=ih (u / 10) (by omega)
   obtain⟨b1,b2⟩:=hd (u%10) (Oi _ (by decide))
   refine⟨by rw [F1,a1,EX,b1];rfl,?_,by simp,λhh=>?_⟩
   ·rw [KLK,a2,b2]
    omega
   ·rw [KPK a3]at hh
    have:=a4 hh
    omega
theorem KR9:∀(m:Nat) (l:Eb),l.length<=m->l≠[]->l.all digB=true->(l.head?=some 48->l=[48])->l=decDigits (dcv 0 l):=by
 intro m
 induction m with
 |zero=>intro l h hne;exact absurd (E8.1 (by omega)) hne
 |succ m ih=>
  intro l hl hne hd hz
  obtain⟨a,c,rfl⟩:∃a c,l=a++[c]:=⟨l.dropLast,l.getLast hne,(List.dropLast_concat_getLast hne).symm⟩
  rw [F1,Eg]at hd
  have hc:digB c=true:=by simpa using hd.2
  unfold digB at hc
  rw [Eg,Ei,Ei]at hc
  have hcc:UInt8.ofNat (48+(c.toNat - 48))=c:=by
   rw [show 48+(c.toNat - 48)=c.toNat by omega,FS]
  rw [KLK]
  by_cases ha:a=[]
  ·subst ha
   rw [KR7]
   rw [decDigits,IY (by omega),Nat.zero_mul,EC,hcc]
   rfl
  ·rw [List.length_append,List.length_singleton]at hl
   have hh:a.head?=some 48->a=[48]:=λh=>by
    have:=hz (by rw [KPK ha];exact h)
    have hlen:=Ew List.length this
    rw [List.length_append]at hlen
    simp at hlen
    exact absurd hlen ha
   have h1:=ih a (by omega) ha hd.1 hh
   have hpos:1<=dcv 0 a:=by
    by_cases h0:dcv 0 a=0
    ·rw [h0]at h1
     exfalso
     have hz0:decDigits 0=[48]:=by rw [decDigits,IY (by decide)];rfl
     rw [hz0]at h1
     have:=hz (by rw [h1];rfl)
     rw [h1]at this
     simp at this
    ·omega
   rw [decDigits,Ot (by omega),show(dcv 0 a*10+(c.toNat - 48)) / 10=dcv 0 a by omega,show(dcv 0 a*10+(c.toNat - 48))%10=c.toNat - 48 by omega,hcc,<-h1]
theorem KBo (M:Nat):∀(l:Eb) (acc u:Nat),parseUintM M acc l=.ok u->u=dcv acc l/\(acc<=M->u<=M)
 | [],acc,u,h=>by rw [parseUintM]at h;cases h;exact⟨rfl,id⟩
 |c::r,acc,u,h=>by
  rw [parseUintM]at h
  split at h
  ·split at h
   ·cases h
   ·split at h
    ·cases h
    ·have:=KBo M r _ _ h
     exact⟨this.1,λ_=>this.2 (by omega)⟩
  ·cases h
theorem KFr (M:Nat) (hM:M<18446744073709551616):∀(l:Eb) (acc:Nat),l.all digB=true->dcv acc l<=M->parseUintM M acc l=.ok (dcv acc l)
 | [],acc,_,_=>by rw [parseUintM];rfl
 |c::r,acc,h,hv=>by
  rw [EX,Eg]at h
  have hc:=h.1
  unfold digB at hc
  rw [Eg,Ei,Ei]at hc
  rw [KLJ]at hv
  have hge:=KR8 r (acc*10+(c.toNat - 48))
  rw [parseUintM,if_pos hc,if_neg (by omega),if_neg (by omega),KFr M hM r _ h.2 hv]
  rfl
theorem KUC {l:Eb} (h:l.all digB=true):numD l=l:=by
 unfold numD
 rw [if_neg]
 intro hh
 cases l with
 |nil=>cases hh
 |cons c r=>
  rw [EX,Eg]at h
  have:c=45:=by simpa using hh
  subst this
  exact absurd h.1 (by decide)
theorem KIh {n:Int} (hn:I64 n):numP (itoa n)=(n,0):=by
 unfold I64 at hn
 have e63:(2:Nat)^(64 - 1)=9223372036854775808:=by decide
 have e64:(2:Nat)^64 - 1=18446744073709551615:=by decide
 unfold itoa
 split
 ·rename_i hneg
  obtain⟨a1,a2,a3,a4⟩:=KAZ _ n.natAbs (EH _)
  have hD:numD (45::decDigits n.natAbs)=decDigits n.natAbs:=rfl
  unfold numP
  rw [hD,if_neg a3,if_neg (by rw [a1];decide),if_neg (λhh=>by have:=a4 hh.1;omega)]
  have hp:parseIntB 64 (45::decDigits n.natAbs)=.ok n:=by
   unfold parseIntB
   dsimp only
   rw [if_pos (by right;rfl)]
   unfold parseUintB
   rw [if_neg a3,e64,KFr _ (by decide) _ _ a1 (by rw [a2];omega),a2,e63]
   have h45:(45:UInt8).toNat=45:=rfl
   dsimp only
   rw [if_neg (λhh=>hh.1 h45),if_neg (λhh=>by have:=hh.2;omega),if_pos h45]
   congr 1
   omega
  rw [hp]
 ·rename_i hpos
  obtain⟨a1,a2,a3,a4⟩:=KAZ _ n.toNat (EH _)
  unfold numP
  rw [KUC a1,if_neg a3,if_neg (by rw [a1];decide),if_neg (λhh=>by
   have h0:=a4 hh.1
   rw [h0]at hh
   exact hh.2 (by rw [decDigits,IY (by decide)];rfl))]
  have hp:parseIntB 64 (decDigits n.toNat)=.ok n:=by
   cases hdd:decDigits n.toNat with
   |nil=>exact absurd hdd a3
   |cons c r=>
    rw [hdd]at a1 a2 a3
    have hc:digB c=true:=by rw [EX,Eg]at a1;exact a1.1
    unfold digB at hc
    rw [Eg,Ei,Ei]at hc
    unfold parseIntB
    dsimp only
    rw [if_neg (by omega)]
    unfold parseUintB
    rw [if_neg a3,e64,KFr _ (by decide) _ _ a1 (by rw [a2];omega),a2,e63]
    dsimp only
    rw [if_neg (λhh=>by have:=hh.2;omega),if_neg (λhh=>by have:=hh.1;omega),if_neg (by omega)]
    congr 1
    omega
  rw [hp]
theorem KSA {t:Eb} {n:Int} (h:numP t=(n,0)):t=itoa n:=by
 have e63:(2:Nat)^(64 - 1)=9223372036854775808:=by decide
 unfold numP at h
 split at h
 ·cases h
 rename_i h1
 split at h
 ·cases h
 rename_i h2
 split at h
 ·cases h
 rename_i h3
 have h2:(numD t).all digB=true:=by
  cases hh:(numD t).all digB with
  |true=>rfl
  |false=>exact absurd hh h2
 split at h
 ·rename_i m hm
  cases h
  cases t with
  |nil=>exact absurd rfl h1
  |cons c r=>
   unfold parseIntB at hm
   dsimp only at hm
   by_cases h45:c=45
   ·subst h45
    have hD:numD (45::r)=r:=rfl
    rw [hD]at h1 h2 h3
    rw [if_pos (by right;rfl)]at hm
    unfold parseUintB at hm
    rw [if_neg h1]at hm
    split at hm
    ·cases hm
    ·cases hm
    ·rename_i u hu
     have hv:=(KBo _ _ _ _ hu).1
     have hr:r=decDigits u:=by
      rw [hv]
      exact KR9 _ r (Ee _) h1 h2 (λhh=>absurd ⟨hh,by simp⟩ h3)
     have h45':(45:UInt8).toNat=45:=rfl
     rw [if_neg (λhh=>hh.1 h45'),e63]at hm
     split at hm
     ·cases hm
     ·cases hm
      have hu0:u≠0:=λe=>by
       subst e
       have hz:r=[48]:=by rw [hr,decDigits,IY (by decide)];rfl
       exact h3 ⟨by rw [hz];rfl,by simp⟩
      unfold itoa
      rw [if_pos (by omega),show(-(u:Int)).natAbs=u by omega,<-hr]
   ·have hD:numD (c::r)=c::r:=by unfold numD;rw [FL,if_neg (by simpa using h45)]
    rw [hD]at h1 h2 h3
    have hc:digB c=true:=by rw [EX,Eg]at h2;exact h2.1
    unfold digB at hc
    rw [Eg,Ei,Ei]at hc
    rw [if_neg (by omega)]at hm
    unfold parseUintB at hm
    rw [if_neg h1]at hm
    split at hm
    ·cases hm
    ·cases hm
    ·rename_i u hu
     have hv:=(KBo _ _ _ _ hu).1
     have hr:c::r=decDigits u:=by
      rw [hv]
      refine KR9 _ _ (Ee _) h1 h2 (λhh=>?_)
      by_cases he:c::r=[48]
      ·exact he
      ·exact absurd ⟨hh,he⟩ h3
     split at hm
     ·cases hm
     ·split at hm
      ·cases hm
      ·rw [if_neg (by omega)]at hm
       cases hm
       unfold itoa
       rw [if_neg (by omega),FI,<-hr]
 ·cases h
end Gx
namespace Gx
open Go
def hexc (n:Nat):UInt8:=if n<10 then UInt8.ofNat (48+n)else UInt8.ofNat (87+n)
theorem KMv:∀n,n<16->([48,49,50,51,52,53,54,55,56,57,97,98,99,100,101,102]:Eb)[n]?=some (hexc n):=by decide
theorem KVh {β:Type} {h:Heap} {Q:β->Heap->Prop} {l:Eb} {i:Nat} {t:Int} {c:UInt8} {f:Int->M β} (ht:t=(i:Int)) (hi:l[i]?=some c) (H:(f (c.toNat:Int)).wp h Q):(ixS (bs l) t>>=f).wp h Q:=by
 obtain⟨h1,rfl⟩:=Fj.1 hi
 exact VX ht h1 H
theorem KRh.ext {h h':Heap} (H:KRh h) (e:Ext h h'):KRh h':=by
 obtain⟨cs,ty,fz,h1,h2⟩:=H
 exact⟨cs,ty,fz,e.blk h1,h2⟩
theorem KMQ.ext {h h':Heap} (H:KMQ h) (e:Ext h h'):KMQ h':=by
 obtain⟨fz,ty,h1⟩:=H
 exact⟨fz,ty,e.blk h1⟩
end Gx
namespace Gx
open Go
def qc (c:UInt8):Eb:=if c<32\/126<c then [92,120,hexc (c.toNat / 16),hexc (c.toNat%16)]else if c=39\/c=92 then [92,c]else [c]
def J7 (s:Eb):Eb:=39::s.flatMap qc++[39]
theorem KY6 (c:UInt8):(qc c).length<=4:=by unfold qc;split<;>(try split)<;>simp
theorem KSB {l:Eb} {i:Nat} (hi:i<l.length) (f:UInt8->Eb):(l.take (i+1)).flatMap f=(l.take i).flatMap f++f l[i]:=by
 rw [KRS hi,Ij];simp
end Gx
namespace Gx
open Go
theorem KUD {β:Type} {h0 h:Heap} {Q:β->Heap->Prop} {r:Sl} {l news:Eb} {n b:Nat} {f:Sl->M β} (G:Gw h0.size h r 1 (l.map bv)) (e:Ext h0 h) (hn:n=news.length) (hb:h[b]?=some (.cells (news.map bv).toArray Ko (0,0)))
  (hm:l.length+news.length<=140737488355328)
  (H:∀h' r',Gw h0.size h' r' 1 ((l++news).map bv)->Ext h0 h'->(f r').wp h' Q):(apL Ko 1 1 (#[.int .u8 0]:Ea) r ⟨some ⟨b,0,none⟩,n,n⟩>>=f).wp h Q:=by
 subst hn
 have hl:=G.len
 simp at hl
 refine KGA (vs:=l.map bv) (news:=news.map bv) rfl G (by simp) (.inr ⟨_,rfl,λj v hj=>?_⟩) (λv hv=>by obtain⟨x,_,rfl⟩:=Fv.1 hv;rfl) (by dsimp only;omega) (by dsimp only;omega) e.size (λh' r' G' hlen hs same on_=>?_)
 ·rw [KM,KF hb]
  simpa using hj
 ·rw [<-Fm]at G'
  exact H _ _ G' ⟨Fb e.size hs,λi hi=>(same i (Ez hi e.size) (λho=>by have:=(G.lt ho).2;omega)).trans (e.same i hi)⟩
theorem KY7 {h0 h:Heap} {c:Eb} {b:Nat} (hl:h0.size<=b) (hb:h[b]?=some (.cells (c.map bv).toArray Ko (0,0))):Gw h0.size h ⟨some ⟨b,0,none⟩,c.length,c.length⟩ 1 (c.map bv):=
 .inr ⟨b,_,_,rfl,hl,hb,by simp,Ee _,by simp,λj v hj=>by simpa using hj⟩
theorem KUE:(⟨#[48,49,50,51,52,53,54,55,56,57,97,98,99,100,101,102]⟩:ByteArray)=bs [48,49,50,51,52,53,54,55,56,57,97,98,99,100,101,102]:=rfl
theorem KIi (s:Eb):(J7 s).length=(s.flatMap qc).length+2:=by simp [J7]
theorem KWy (s:Eb):s.length<=(s.flatMap qc).length:=by
 induction s with
 |nil=>simp
 |cons a s ih=>rw [ET,List.length_append,Ef];have:1<=(qc a).length:=by {unfold qc;split<;>(try split)<;>simp};omega
theorem KPL (s:Eb) (i:Nat):((s.take i).flatMap qc).length<=(s.flatMap qc).length:=by
 conv=>rhs;rw [<-FR i s,Ij,List.length_append]
 omega
theorem KOM {s:Eb} {h:Heap} {Q:ByteArray->Heap->Prop} (hs:(J7 s).length<=140737488355328) (H:∀h',Ext h h'->Q (bs (J7 s)) h'):(WC (bs s)).wp h Q:=by
 unfold WC
 rw [KIi]at hs
 have hsl:=KWy s
 refine KAz ?_
 have e1:=Ext.push h (.cells #[.int .u8 39] Ko)
 have g1:(h.push (.cells #[.int .u8 39] Ko))[h.size]?=some (.cells (([39]:Eb).map bv).toArray Ko (0,0)):=Kx
 generalize h.push (.cells #[.int .u8 39] Ko)=h1 at e1 g1⊢
 refine M.loop_inv (λ(t:Sl×Int) h'=>∃i:Nat,t.2=(i:Int)/\i<=s.length/\Gw h.size h' t.1 1 ((39::(s.take i).flatMap qc).map bv)/\Ext h h') (λt _=>((s.length:Int) - t.2).toNat) ?_ ⟨0,rfl,El _,KY7 (c:=[39]) (Ee _) g1,e1⟩
 rintro⟨r,t⟩ h' ⟨i,hti,hi,G,E⟩ self hself
 have hti:t=(i:Int):=hti
 subst hti
 unfold Yq
 rw [Ke]
 have hpi:=KPL s i
 refine KH (λhc=>?_) (λhc=>?_)
 ·have hlt':i<s.length:=by have:=Ec hc;omega
  have hpj:=KPL s (i+1)
  have htk:=KSB hlt' qc
  refine VX rfl hlt' ?_
  have hw64:IntKind.wrap .i64 ((i:Int)+1)=((i+1:Nat):Int):=by rw [w64 (by omega) (by omega)];simp
  have hnext:∀{h4:Heap} {r4:Sl},Gw h.size h4 r4 1 ((39::(s.take (i+1)).flatMap qc).map bv)->Ext h h4->(JQ self (i:Int) r4).wp h4 Q:=λG4 E4=>by
   unfold JQ
   rw [hw64]
   exact hself (_,_) _ ⟨i+1,rfl,by omega,G4,E4⟩ (by dsimp only;omega)
  rw [htk]at hnext hpj
  have c32:(decide ((s[i].toNat:Int)<32))=decide (s[i]<32):=by rw [EZ];simp [u8_lt_int]
  have c126:(decide ((s[i].toNat:Int)>126))=decide (126<s[i]):=by rw [EZ];simp [u8_lt_int]
  have c39:((s[i].toNat:Int)==39)=decide (s[i]=39):=by
   rw [EZ];simp only [Fx,EN]
   exact⟨λe=>Fg.1 (by simpa using (by omega:s[i].toNat=39)),λe=>by rw [e];rfl⟩
  have c92:((s[i].toNat:Int)==92)=decide (s[i]=92):=by
   rw [EZ];simp only [Fx,EN]
   exact⟨λe=>Fg.1 (by simpa using (by omega:s[i].toNat=92)),λe=>by rw [e];rfl⟩
  refine or_b (c:=decide (s[i]=92)) (λ_ Q' hq'=>KA (by rw [c92];exact hq')) ?_
  rw [c39]
  refine KH (λhy=>?_) (λhy=>?_)
  ·have hy':s[i]=39\/s[i]=92:=by simpa using hy
   have hx':¬(s[i]<32\/126<s[i]):=by rcases hy' with e|e<;>rw [e]<;>decide
   have hqc:qc s[i]=[92,s[i]]:=by unfold qc;rw [if_neg hx',if_pos hy']
   rw [hqc]at hnext hpj
   simp only [List.length_append,Ef,En]at hpj
   refine KAz (KUD (news:=[92,s[i]]) (G.ext (Ext.push _ _)) (E.pushed _) rfl Kx (by simp only [Ef,List.length_append,En];omega) (λh4 r4 G4 E4=>hnext G4 E4))
  ·have hy':¬(s[i]=39\/s[i]=92):=by simpa using hy
   refine or_b (c:=decide (126<s[i])) (λ_ Q' hq'=>KA (by rw [c126];exact hq')) ?_
   rw [c32]
   refine KH (λhx=>?_) (λhx=>?_)
   ·have hx':s[i]<32\/126<s[i]:=by simpa using hx
    have hqc:qc s[i]=[92,120,hexc (s[i].toNat / 16),hexc (s[i].toNat%16)]:=by unfold qc;rw [if_pos hx']
    rw [hqc]at hnext hpj
    simp only [List.length_append,Ef,En]at hpj
    have hdiv:s[i].toNat / 16<16:=by have:=s[i].toNat_lt;omega
    rw [KUE]
    refine KVh (i:=s[i].toNat / 16) (by rw [Ok (by omega),IntKind.wrap_u8];omega) (KMv _ hdiv) (KVh (i:=s[i].toNat%16) (by rw [FD (by omega)];omega) (KMv _ (Oi _ (by decide))) ?_)
    exact KAz (KUD (news:=[92,120,hexc (s[i].toNat / 16),hexc (s[i].toNat%16)]) (G.ext (Ext.push _ _)) (E.pushed _) rfl Kx (by simp only [Ef,List.length_append,En];omega) (λh4 r4 G4 E4=>hnext G4 E4))
   ·have hx':¬(s[i]<32\/126<s[i]):=by simpa using hx
    have hqc:qc s[i]=[s[i]]:=by unfold qc;rw [if_neg hx',if_neg hy']
    rw [hqc]at hnext hpj
    simp only [List.length_append,Ef,En]at hpj
    exact KAz (KUD (news:=[s[i]]) (G.ext (Ext.push _ _)) (E.pushed _) rfl Kx (by simp only [Ef,List.length_append,En];omega) (λh4 r4 G4 E4=>hnext G4 E4))
 ·have hge:i=s.length:=by have:=Ed hc;omega
  subst hge
  rw [ER]at G hpi
  refine KAz (KUD (news:=[39]) (G.ext (Ext.push _ _)) (E.pushed _) rfl Kx (by simp only [Ef,List.length_append,En];omega) (λh4 r4 G4 E4=>?_))
  have B:=G4.bys
  exact KTp B.len.symm B.at_ (KA (H _ E4))
end Gx
namespace Gx
open Go
def dgt (u:Nat):List Nat:=if h:u<10 then [u]else dgt (u / 10)++[u%10]
termination_by u
decreasing_by omega
theorem KON (u:Nat):Lib.decDigits u=(dgt u).map λd=>UInt8.ofNat (48+d):=by
 induction u using Nat.strongRecOn with
 |_ u ih=>
  unfold dgt Lib.decDigits
  split
  ·rfl
  ·rw [ih (u / 10) (by omega)];simp
theorem KY8 (u:Nat):∀d∈dgt u,d<10:=by
 induction u using Nat.strongRecOn with
 |_ u ih=>
  unfold dgt
  split
  ·intro d hd;simp at hd;omega
  ·intro d hd
   rcases F0.1 hd with hd|hd
   ·exact ih (u / 10) (by omega) d hd
   ·simp at hd;omega
theorem KIj:∀(k u:Nat),u<10^k->1<=k->(dgt u).length<=k
 |0,u,h,h1=>by omega
 |k+1,u,h,h1=>by
  unfold dgt
  split
  ·simp
  ·rename_i hu
   rw [List.length_append]
   have:1<=k:=by
    rcases I1 k with h0|h0
    ·subst h0;omega
    ·exact h0
   have:=KIj k (u / 10) (by rw [Nat.pow_succ]at h;omega) this
   simp;omega
def dv (d:Nat):Value:=.int .i64 (d:Int)
theorem KMw {n:Int} {h:Heap} {Q:Sl->Heap->Prop} (hn:I64 n) (H:∀h' r,Ext h h'->Gw h.size h' r 1 ((dgt n.natAbs).map dv)->Q r h'):(VO n).wp h Q:=by
 unfold VO
 obtain⟨n1,n2⟩:=hn
 have hbare:(U9 n).wp h (λu h'=>u=(n.natAbs:Int)/\h'=h):=by
  unfold U9
  refine KH (λhc=>?_) (λhc=>?_)
  ·have:=Ec hc
   exact KA ⟨by rw [IntKind.wrap_u64,IntKind.wrap_u64];omega,rfl⟩
  ·have:=Ed hc
   exact KA ⟨by rw [IntKind.wrap_u64];omega,rfl⟩
 refine KD ((U9 n).mono ?_ hbare)
 rintro u h' ⟨rfl,rfl⟩
 have hu:n.natAbs<=18446744073709551615:=by omega
 have hlen:(dgt n.natAbs).length<=20:=KIj 20 _ (by omega) (by decide)
 generalize n.natAbs=u at*
 refine M.loop_inv (λ(t:Int×Sl) h1=>∃(x:Nat) (l:List Nat),t.1=(x:Int)/\x<=18446744073709551615/\Ext h' h1/\Gw h'.size h1 t.2 1 (l.map dv)/\(if 0<x\/l=[]then dgt x else [])++l=dgt u) (λt _=>t.1.toNat+(if t.2.len=0 then 1 else 0)) ?_ ⟨u,[],rfl,hu,Ext.refl _,Gw.nil _ _ _,by simp⟩
 rintro⟨t,r⟩ h1 ⟨x,l,ht,hx,E,G,hd⟩ self hself
 have ht:t=(x:Int):=ht
 subst ht
 have hrl:=G.len
 simp at hrl
 unfold YR
 refine or_b (c:=decide (l=[])) (λ_ Q' hq'=>KA (by rw [show((r.len:Int)==0)=decide (l=[]) by rw [<-hrl,EZ];simp];exact hq')) ?_
 refine KH (λhc=>?_) (λhc=>?_)
 ·have hc':0<x\/l=[]:=by simpa using hc
  rw [if_pos hc']at hd
  have hsl:(dgt x).length+l.length=(dgt u).length:=by rw [<-hd,List.length_append]
  have w1:IntKind.wrap .i64 (Int.tmod (x:Int) 10)=((x%10:Nat):Int):=by
   rw [FD (by omega),w64 (by omega) (by omega)];omega
  have w2:IntKind.wrap .u64 (Int.tdiv (x:Int) 10)=((x / 10:Nat):Int):=by
   rw [Ok (by omega),IntKind.wrap_u64];omega
  rw [w1,w2]
  refine KAz ?_
  have e2:=Ext.push h1 (.cells #[.int .i64 ((x%10:Nat):Int)] WS)
  have g2:(h1.push (.cells #[.int .i64 ((x%10:Nat):Int)] WS))[h1.size]?=some (.cells #[.int .i64 ((x%10:Nat):Int)] WS (0,0)):=Kx
  generalize h1.push (.cells #[.int .i64 ((x%10:Nat):Int)] WS)=h2 at e2 g2⊢
  have G2:=G.ext e2
  have E2:=E.trans e2
  have Gn:Gw h'.size h2 ⟨some ⟨h1.size,0,none⟩,1,1⟩ 1 [dv (x%10)]:=.inr ⟨h1.size,_,_,rfl,E.size,g2,rfl,Ee _,rfl,λj v hj=>by rw [show(#[.int .i64 ((x%10:Nat):Int)]:Ea)=[dv (x%10)].toArray from rfl];simpa using hj⟩
  refine KGA (vs:=[dv (x%10)]) (news:=l.map dv) rfl Gn (by simp;exact hrl) G2.reads (λv hv=>by obtain⟨y,_,rfl⟩:=Fv.1 hv;rfl) (by dsimp only;omega) (by dsimp only;omega) E2.size (λh3 r3 G3 hlen3 hs same on_=>?_)
  have E3:Ext h' h3:=⟨Fb E2.size hs,λi hi=>(same i (Ez hi E2.size) (λho=>by have:=(Gn.lt ho).2;omega)).trans (E2.same i hi)⟩
  refine hself (_,_) _ ⟨x / 10,(x%10)::l,rfl,by omega,E3,by simpa using G3,?_⟩ ?_
  ·rw [<-hd]
   conv=>rhs;unfold dgt
   by_cases h10:x<10
   ·have hz:x / 10=0:=by omega
    simp [h10,hz,Od h10]
   ·have:0<x / 10:=by omega
    rw [if_pos (.inl this),Ot h10];simp
  ·dsimp only
   rw [hlen3]
   dsimp only
   rcases hc' with h0|h0
   ·rw [if_neg (by omega)];split<;>omega
   ·subst h0
    have:r.len=0:=by rw [<-hrl];rfl
    rw [if_neg (by omega),if_pos this];omega
 ·have hc':¬(0<x\/l=[]):=by simpa using hc
  rw [if_neg hc',EW]at hd
  subst hd
  exact KA (H _ _ E G)
theorem Xk {β:Type} {h:Heap} {Q:β->Heap->Prop} {x y:Eb} {f:ByteArray->M β} (hm:x.length+y.length<=9223372036854775807) (H:(f (bs (x++y))).wp h Q):(sCat (bs x) (bs y)>>=f).wp h Q:=
 ⟨bs (x++y),⟨by rw [Ke,Ke];omega,by apply Om;simp [bs]⟩,H⟩
theorem KLL {n:Int} (hn:I64 n):(Lib.itoa n).length<=21:=by
 obtain⟨n1,n2⟩:=hn
 unfold Lib.itoa
 split
 ·rw [Ef,KON,EL]
  have:=KIj 20 n.natAbs (by omega) (by decide)
  omega
 ·rw [KON,EL]
  have:=KIj 20 n.toNat (by omega) (by decide)
  omega
theorem KEO {n:Int} {h:Heap} {Q:ByteArray->Heap->Prop} (hn:I64 n) (H:∀h',Ext h h'->Q (bs (Lib.itoa n)) h'):(J9 n).wp h Q:=by
 unfold J9
 have key:∀(p:Eb),p.length<=1->p++Lib.decDigits n.natAbs=Lib.itoa n->(Um n (bs p)).wp h Q:=λp hp he=>by
  unfold Um
  refine KD (KMw hn (λh1 r E G=>?_))
  have hrl:=G.len
  simp at hrl
  have hlen:(dgt n.natAbs).length<=20:=KIj 20 _ (by obtain⟨_,_⟩:=hn;omega) (by decide)
  rw [KON]at he
  have hlt:=KY8 n.natAbs
  generalize dgt n.natAbs=ds at*
  refine M.loop_inv (λ(t:ByteArray×Int) h2=>∃i:Nat,t.2=(i:Int)/\i<=ds.length/\t.1=bs (p++(ds.take i).map λd=>UInt8.ofNat (48+d))/\Ext h h2/\Gw h.size h2 r 1 (ds.map dv)) (λt _=>((ds.length:Int) - t.2).toNat) ?_ ⟨0,rfl,El _,by simp,E,G⟩
  rintro⟨x,t⟩ h2 ⟨i,hti,hi,hx,E2,G2⟩ self hself
  have hti:t=(i:Int):=hti
  have hx:x=_:=hx
  subst hti;subst hx
  unfold XW
  rw [<-hrl]
  refine KH (λhc=>?_) (λhc=>?_)
  ·have hlt':i<ds.length:=by have:=Ec hc;omega
   obtain⟨b,hb,hcell'⟩:=G2.cell (j:=i) (v:=dv ds[i]) (by simp [hlt'])
   have hd:=hlt ds[i] (EJ hlt')
   refine NM (by omega) (by omega) hb (KV (n:=(ds[i]:Int)) (by rw [KM,show 0+(i:Int).toNat*1=i by omega];exact hcell') ?_)
   have hc8:IntKind.wrap .u8 (IntKind.wrap .i64 (48+(ds[i]:Int)))=((UInt8.ofNat (48+ds[i])).toNat:Int):=by
    rw [w64 (by omega) (by omega),IntKind.wrap_u8,Il]
    omega
   rw [hc8]
   refine KAz ?_
   have g3:(h2.push (.cells #[.int .u8 ((UInt8.ofNat (48+ds[i])).toNat:Int)] Ko))[h2.size]?=some (.cells (([UInt8.ofNat (48+ds[i])]:Eb).map bv).toArray Ko (0,0)):=Kx
   have e3:=Ext.push h2 (.cells #[.int .u8 ((UInt8.ofNat (48+ds[i])).toNat:Int)] Ko)
   have Gb:=KY7 (h0:=h2) (c:=[UInt8.ofNat (48+ds[i])]) (Ee _) g3
   refine KTp (ns:=[UInt8.ofNat (48+ds[i])]) rfl Gb.bys.at_ (Xk (y:=[UInt8.ofNat (48+ds[i])]) (by simp;omega) ?_)
   rw [w64 (by omega) (by omega)]
   refine hself (_,_) _ ⟨i+1,by simp,by omega,?_,E2.trans e3,G2.ext e3⟩ (by dsimp only;omega)
   dsimp only
   rw [Et hlt',Fm,<-Ek]
   rfl
  ·have hge:i=ds.length:=by have:=Ed hc;omega
   subst hge
   rw [ER,he]
   exact KA (H _ E2)
 refine KH (λhc=>?_) (λhc=>?_)
 ·have:=Ec hc
  exact key [45] (by simp) (by unfold Lib.itoa;rw [if_pos this];rfl)
 ·have:=Ed hc
  exact key [] (by simp) (by unfold Lib.itoa;rw [if_neg this,show n.natAbs=n.toNat by omega];rfl)
end Gx
namespace Gx
open Go
def jn (sep:Eb):List (Eb)->Eb
 | []=>[]
 | [a]=>a
 |a::b::r=>a++(sep++jn sep (b::r))
def sv (s:Eb):Value:=.string (bs s)
def SsAt (h:Heap) (x:Sl) (ps:List (Eb)):Prop:=x.len=ps.length/\x.len<=x.cap/\KAI h x.base (ps.map sv)
theorem SsAt.ext {h h':Heap} {x:Sl} {ps:List (Eb)} (S:SsAt h x ps) (e:Ext h h'):SsAt h' x ps:=⟨S.1,S.2.1,e.reads S.2.2⟩
theorem SsAt.get {h:Heap} {x:Sl} {ps:List (Eb)} (S:SsAt h x ps) {i:Nat} (hi:i<ps.length):∃a,x.base=some a/\KJ h (a.add i)=some (.string (bs ps[i])):=by
 obtain⟨_,_,R|⟨a,ha,R⟩⟩:=S
 ·have:ps=[]:=by simpa using R
  subst this;simp at hi
 ·exact⟨a,ha,R i _ (by simp [hi,sv])⟩
end Gx
namespace Gx
open Go
def shw (ev od:Eb):List (Eb)->Eb
 | []=>[]
 | [a]=>a
 |a::b::r=>a++(ev++shw od ev (b::r))
theorem KLM:∀(ev od:Eb) (l:List (Eb)),(l.map List.length).sum<=(shw ev od l).length
 |_,_,[]=>by simp [shw]
 |_,_,[a]=>by simp [shw]
 |ev,od,a::b::r=>by
  have:=KLM od ev (b::r)
  rw [shw,List.length_append,List.length_append,Er,Ft]
  omega
theorem KOO {l:List (Eb)} {a:Eb} (h:a∈l):a.length<=(l.map List.length).sum:=by
 induction l with
 |nil=>cases h
 |cons x l ih=>
  rw [Er,Ft]
  rcases ED.1 h with rfl|h
  ·omega
  ·have:=ih h;omega
theorem KWz {l:List (Eb)} (h:∀a∈l,1<=a.length):l.length<=(l.map List.length).sum:=by
 induction l with
 |nil=>simp
 |cons x l ih=>
  rw [Er,Ft,Ef]
  have:=ih (λa ha=>h a (Ev _ ha))
  have:=h x (by simp)
  omega
def txt:Nat->Vl->Eb
 |0,_=>[63]
 |d+1,.mk k n s l=>
  if k=1 then Lib.itoa n else if k=2 then J7 s else if k=3 then(if n=1 then [116,114,117,101]else [102,97,108,115,101])
  else if k=6 then [118,91]++Lib.itoa n++[93]else if k=7 then [101,91]++Lib.itoa n++[93]
  else if k=4 then [91]++shw [44,32] [44,32] (l.map (txt d))++[93]else if k=5 then [123]++shw [58,32] [44,32] (l.map (txt d))++[125]else [63]
theorem KUF (n:Int):1<=(Lib.itoa n).length:=by
 have:∀u,1<=(Lib.decDigits u).length:=λu=>by unfold Lib.decDigits;split<;>simp
 unfold Lib.itoa
 split
 ·simp
 ·exact this _
theorem KLN:∀(d:Nat) (v:Vl),1<=(txt d v).length
 |0,_=>by simp [txt]
 |d+1,.mk k n s l=>by
  unfold txt
  repeat' split
  all_goals first|exact KUF n|(simp [J7];done)|(simp;omega)
theorem Gw.set {lo:Nat} {h:Heap} {r:Sl} {vs:List Value} {b j:Nat} {v:Value} (H:Gw lo h r 1 vs) (hb:r.base=some ⟨b,0,none⟩) (hj:j<vs.length):Gw lo (hset h ⟨b,j,none⟩ v) r 1 (vs.set j v):=by
 rcases H with⟨rfl,rfl⟩|⟨g,ty,cells,H⟩
 ·cases hb
 ·rw [H.base]at hb
  cases hb
  refine .inr ⟨b,ty,_,H.base,H.lo,J8 H.blk,by rw [Array.size_setIfInBounds];exact H.size,H.cap,by rw [List.length_set];exact H.len,λi x hx=>?_⟩
  rw [List.getElem?_set]at hx
  rw [FN]
  split at hx
  ·rename_i hi
   subst hi
   cases hx
   have hc:=H.len
   have:=H.size
   have hcap:=H.cap
   rw [if_pos rfl,if_pos (by omega)]
  ·rename_i hi
   rw [if_neg hi]
   exact H.get i x hx
theorem KUG {β:Type} {h:Heap} {Q:β->Heap->Prop} {a c:Eb} {x:Eb} {f:ByteArray->M β} (hm:a.length+x.length+c.length<=9223372036854775807) (H:(f (bs (a++x++c))).wp h Q):(sCat (bs a) (bs x)>>=λy=>sCat y (bs c)>>=f).wp h Q:=
 Xk (by omega) (Xk (by simp only [List.length_append];omega) H)
end Gx
namespace Gx
open Go
abbrev txV (v:Vl):Eb:=txt 8 v
def KHQ (i:Nat) (ev od:Eb):Eb:=if i%2=0 then ev else od
theorem KPM (ev od a:Eb) (r:List (Eb)):shw ev od (a::r)=if r=[]then a else a++(ev++shw od ev r):=by
 cases r with
 |nil=>rfl
 |cons b r=>rw [if_neg (by simp)];rfl
theorem KIk {d:Nat} (hd:d<=7) {l:List Vl} {h:Heap} {Q:ByteArray->Heap->Prop} {x:Sl} {ev od:Eb} (hx:VsRep h x l) (he:ev.length=2) (ho:od.length=2) (hm:(shw ev od (l.map (txt d))).length<=1099511627776)
  (hg:∀j (hj:j<l.length) h1 c (Q1:ByteArray->Heap->Prop),Ext h h1->VRep h1 l[j] c->(∀h2,Ext h1 h2->Q1 (bs (txt d l[j])) h2)->(UA c ((8 - d:Nat):Int)).wp h1 Q1)
  (H:∀h',Ext h h'->Q (bs (shw ev od (l.map (txt d)))) h'):(Gc x ((8 - (d+1):Nat):Int) (bs ev) (bs od)).wp h Q:=by
 unfold Gc
 have hxl:=hx.len
 have hxb:=hx.big
 have hxc:=hx.cap
 have hsum:=KLM ev od (l.map (txt d))
 have hcnt:l.length<=1099511627776:=by
  have:=KWz (l:=l.map (txt d)) (λa ha=>by obtain⟨y,_,rfl⟩:=Fv.1 ha;exact KLN d y)
  rw [EL]at this
  omega
 refine M.loop_inv (λ(t:ByteArray×Int) h'=>Ext h h'/\∃(i:Nat) (s:Eb),t=(bs s,(i:Int))/\i<=l.length/\s++shw (KHQ i ev od) (KHQ (i+1) ev od) ((l.drop i).map (txt d))=shw ev od (l.map (txt d))) (λt _=>((l.length:Int) - t.2).toNat) ?_ ⟨Ext.refl h,0,[],rfl,El _,by simp [KHQ]⟩
 rintro t h' ⟨E,i,s,rfl,hi,hs⟩ self hself
 unfold Y0
 rw [hxl]
 have hls:s.length<=1099511627776:=by rw [<-hs,List.length_append]at hm;omega
 refine KH (λhc=>?_) (λhc=>?_)
 ·have hlt:i<l.length:=by have:=Ec hc;omega
  have hti:(txt d l[i]).length<=1099511627776:=by
   have:=KOO (l:=l.map (txt d)) (a:=txt d l[i]) (Fv.2 ⟨_,EJ hlt,rfl⟩)
   omega
  rw [Eh hlt,Er,KPM]at hs
  refine KFl (hx.ext E) hlt rfl (λa c hs' hcs hv=>YF hs' hcs ?_)
  rw [show IntKind.wrap .i64 (((8 - (d+1):Nat):Int)+1)=((8 - d:Nat):Int) by rw [w64 (by omega) (by omega)];omega]
  refine KD (YI (zK _ _) (hg i hlt h' c _ E hv (λh2 e2=>?_)))
  refine Xk (by omega) ?_
  rw [show IntKind.wrap .i64 ((i:Int)+1)=((i+1:Nat):Int) by rw [w64 (by omega) (by omega)];simp]
  have hnext:∀s',s'++shw (KHQ (i+1) ev od) (KHQ (i+1+1) ev od) ((l.drop (i+1)).map (txt d))=shw ev od (l.map (txt d))->(JS self (i:Int) (bs s')).wp h2 Q:=λs' h'=>by
   unfold JS
   rw [show IntKind.wrap .i64 ((i:Int)+1)=((i+1:Nat):Int) by rw [w64 (by omega) (by omega)];simp]
   exact hself _ _ ⟨E.trans e2,i+1,s',rfl,by omega,h'⟩ (by dsimp only;omega)
  have hpk:KHQ (i+1+1) ev od=KHQ i ev od:=by unfold KHQ;rw [show(i+1+1)%2=i%2 by omega]
  rw [hpk]at hnext
  refine Jp (c:=decide (i%2=0)) (λ_ Q' hq=>KA (by rw [show((Int.tmod (i:Int) 2)==0)=decide (i%2=0) by rw [FD (by omega),EZ];simp;omega];exact hq)) ?_
  by_cases hmore:i+1<l.length
  ·have hne:(l.drop (i+1)).map (txt d)≠[]:=by
    intro h0
    have:(l.drop (i+1)).length=0:=by simpa using Ew List.length h0
    simp at this;omega
   rw [if_neg hne]at hs
   refine KH (λhev=>?_) (λhev=>?_)
   ·have hev:i%2=0:=by have:=hev;simp at this;exact this.2
    refine Xk (by simp;omega) (hnext _ ?_)
    rw [<-hs]
    have:KHQ i ev od=ev:=by unfold KHQ;rw [if_pos hev]
    rw [this];simp
   ·have hev:¬i%2=0:=by
     intro h0
     have h1:decide (((i+1:Nat):Int)<(l.length:Int))=true:=by simp;omega
     rw [h1,Ej h0]at hev
     cases hev
    refine iteT (by simp;omega) (Xk (by simp;omega) (hnext _ ?_))
    rw [<-hs]
    have:KHQ i ev od=od:=by unfold KHQ;rw [if_neg hev]
    rw [this];simp
  ·have h0:(l.drop (i+1)).map (txt d)=[]:=by rw [FA.2 (by omega)];rfl
   rw [if_pos h0]at hs
   have hf:decide (((i+1:Nat):Int)<(l.length:Int))=false:=by simp;omega
   rw [hf]
   refine iteF rfl (iteF rfl (hnext _ ?_))
   rw [h0,<-hs];simp [shw]
 ·have hge:i=l.length:=by have:=Ed hc;omega
  subst hge
  rw [EY]at hs
  have:=H _ E
  rw [<-hs]at this
  exact KA (by simpa [shw] using this)
theorem KQl:∀(d:Nat) (v:Vl) {h:Heap} {Q:ByteArray->Heap->Prop} {x:Ea},d<=8->VRep h v x->(txt d v).length<=1099511627776->(∀h',Ext h h'->Q (bs (txt d v)) h')->(UA x ((8 - d:Nat):Int)).wp h Q:=by
 intro d
 induction d with
 |zero=>
  rintro v h Q x _ hx _ H
  unfold UA
  exact Kw (λh1 e1 z1 g1=>iteT rfl (KA (H _ e1)))
 |succ d ih=>
  rintro⟨k,n,s,l⟩ h Q x hd hx hm H
  obtain⟨xs,rfl,k1,n1,s1,r1⟩:=VRep.eq.1 hx
  unfold UA
  refine Kw (λh1 E z1 g1=>?_)
  have c0:KJ h1 ((⟨h.size,0,none⟩:Addr).add 0)=some (.int .i64 k):=by rw [ZO g1];rfl
  have c1:KJ h1 ((⟨h.size,0,none⟩:Addr).add 1)=some (.int .i64 n):=by rw [ZO g1];rfl
  have c2:KJ h1 ((⟨h.size,0,none⟩:Addr).add 2)=some (.string (bs s)):=by rw [ZO g1];rfl
  have c3:KJ h1 ((⟨h.size,0,none⟩:Addr).add 3)=some xs.v:=by rw [ZO g1];rfl
  have hil:=KLL n1
  refine iteF (by simp;omega) (KV c0 (KH (λh1k=>?_) (λh1k=>?_)))
  ·have h1k:k=1:=by simpa using h1k
   unfold txt at H
   rw [if_pos h1k]at H
   exact KV c1 (KD (KEO n1 (λh2 e2=>KA (H _ (E.trans e2)))))
  have h1k:¬k=1:=by simpa using h1k
  unfold txt at H hm
  rw [if_neg h1k]at H hm
  refine KH (λh2k=>?_) (λh2k=>?_)
  ·have h2k:k=2:=by simpa using h2k
   rw [if_pos h2k]at H hm
   exact WO c2 (KD (KOM (by omega) (λh2 e2=>KA (H _ (E.trans e2)))))
  have h2k:¬k=2:=by simpa using h2k
  rw [if_neg h2k]at H hm
  refine KH (λh3k=>?_) (λh3k=>?_)
  ·have h3k:k=3:=by simpa using h3k
   rw [if_pos h3k]at H
   refine KV c1 (KH (λhn=>?_) (λhn=>?_))
   ·have hn:n=1:=by simpa using hn
    rw [if_pos hn]at H
    exact KA (H _ E)
   ·have hn:¬n=1:=by simpa using hn
    rw [if_neg hn]at H
    exact KA (H _ E)
  have h3k:¬k=3:=by simpa using h3k
  rw [if_neg h3k]at H hm
  refine KH (λh6k=>?_) (λh6k=>?_)
  ·have h6k:k=6:=by simpa using h6k
   rw [if_pos h6k]at H
   exact KV c1 (KD (KEO n1 (λh2 e2=>KUG (a:=[118,91]) (c:=[93]) (by simp;omega) (KA (H _ (E.trans e2))))))
  have h6k:¬k=6:=by simpa using h6k
  rw [if_neg h6k]at H hm
  refine KH (λh7k=>?_) (λh7k=>?_)
  ·have h7k:k=7:=by simpa using h7k
   rw [if_pos h7k]at H
   exact KV c1 (KD (KEO n1 (λh2 e2=>KUG (a:=[101,91]) (c:=[93]) (by simp;omega) (KA (H _ (E.trans e2))))))
  have h7k:¬k=7:=by simpa using h7k
  rw [if_neg h7k]at H hm
  refine KH (λh4k=>?_) (λh4k=>?_)
  ·have h4k:k=4:=by simpa using h4k
   rw [if_pos h4k]at H hm
   simp only [List.length_append,Ef,En]at hm
   exact Kn c3 (KD (YI (qf _ _ _ _) (KIk (d:=d) (by omega) (ev:=[44,32]) (od:=[44,32]) (r1.ext E) rfl rfl (by omega) (λj hj h4 c Q1 e4 hv hq=>ih _ (by omega) hv (by have:=KOO (l:=l.map (txt d)) (a:=txt d l[j]) (Fv.2 ⟨_,EJ hj,rfl⟩);have:=KLM [44,32] [44,32] (l.map (txt d));omega) hq) (λh2 e2=>KUG (a:=[91]) (c:=[93]) (by simp;omega) (KA (H _ (E.trans e2)))))))
  have h4k:¬k=4:=by simpa using h4k
  rw [if_neg h4k]at H hm
  refine KH (λh5k=>?_) (λh5k=>?_)
  ·have h5k:k=5:=by simpa using h5k
   rw [if_pos h5k]at H hm
   simp only [List.length_append,Ef,En]at hm
   exact Kn c3 (KD (YI (qf _ _ _ _) (KIk (d:=d) (by omega) (ev:=[58,32]) (od:=[44,32]) (r1.ext E) rfl rfl (by omega) (λj hj h4 c Q1 e4 hv hq=>ih _ (by omega) hv (by have:=KOO (l:=l.map (txt d)) (a:=txt d l[j]) (Fv.2 ⟨_,EJ hj,rfl⟩);have:=KLM [58,32] [44,32] (l.map (txt d));omega) hq) (λh2 e2=>KUG (a:=[123]) (c:=[125]) (by simp;omega) (KA (H _ (E.trans e2)))))))
  ·have h5k:¬k=5:=by simpa using h5k
   rw [if_neg h5k]at H
   exact KA (H _ E)
theorem KQm {v:Vl} {h:Heap} {Q:ByteArray->Heap->Prop} {x:Ea} (hx:VRep h v x) (hm:(txV v).length<=1099511627776) (H:∀h',Ext h h'->Q (bs (txV v)) h'):(Z1 x).wp h Q:=by
 unfold Z1
 exact Kw (λh1 e1 z1 g1=>KQc (v:=v) g1 hx.size (KD (KQl 8 v (Ee _) (hx.ext e1) hm (λh2 e2=>KA (H _ (e1.trans e2))))))
end Gx
namespace Gx
open Go Go.Proofs Go.Shelf Go.RowKit Go.Lib
def At (s:Eb) (i:Nat) (w:Eb):Prop:=(s.drop i).take w.length=w
theorem At.nil (s:Eb) (i:Nat):At s i []:=by unfold At;simp
theorem KGh {s:Eb} {i:Nat} {c:UInt8} {r:Eb}:At s i (c::r)↔s[i]?=some c/\At s (i+1) r:=by
 unfold At
 by_cases hi:i<s.length
 ·rw [Eh hi,Ef,Fq,Em hi]
  simp
 ·rw [List.drop_of_length_le (by omega),EK (by omega)]
  simp
theorem Zz {s:Eb}:∀{a b:Eb} {i:Nat},At s i (a++b)↔At s i a/\At s (i+a.length) b
 | [],b,i=>by simp [At.nil]
 |c::a,b,i=>by
  rw [Ey,KGh,KGh,Zz,Ef,show i+1+a.length=i+(a.length+1) by omega,and_assoc]
theorem At.here {s:Eb} {i:Nat} {c:UInt8} {r:Eb} (h:At s i (c::r)):KI s i=c:=by
 unfold KI
 rw [(KGh.1 h).1]
 rfl
theorem At.len {s:Eb} {i:Nat} {w:Eb} (h:At s i w) (hw:w≠[]):i+w.length<=s.length:=by
 have:=Ew List.length h
 rw [EI,Ex]at this
 have:0<w.length:=Fl.2 hw
 omega
theorem GG {s:Eb}:∀{lit:Eb} {i:Nat},At s i lit->Xo s lit i=.ok (i+lit.length)
 | [],i,h=>rfl
 |c::r,i,h=>by
  rw [KGh]at h
  rw [Xo,if_pos h.1,GG h.2,Ef]
  congr 1
  omega
theorem W3 {s lit:Eb} {i j:Nat} (h:Xo s lit i=.ok j):At s i lit/\j=i+lit.length:=⟨(Vt h).2.2,(Vt h).1⟩
theorem GH {s:Eb} {i:Nat} {c:UInt8} (h:KI s i=c) (hc:c≠0):At s i [c]:=by
 have hi:i<s.length:=JM (by rw [h];exact hc)
 rw [KGh]
 refine⟨?_,At.nil _ _⟩
 rw [Em hi,<-Uz hi,h]
theorem At.get {s:Eb} {i:Nat} {w:Eb} (h:At s i w) {k:Nat} (hk:k<w.length):KI s (i+k)=w[k]:=by
 have h1:At s i (w.take k++w.drop k):=by rw [FR];exact h
 rw [Zz,EI,FZ (by omega),Eh hk]at h1
 exact h1.2.here
theorem At.cut {s:Eb} {i:Nat} {w:Eb} (h:At s i w) {k:Nat} (hk:k<=w.length):(s.drop i).take (i+k - i)=w.take k:=by
 unfold At at h
 rw [show i+k - i=k by omega,<-h,List.take_take,FZ hk]
theorem KJ0:∀(m u:Nat) (p:Eb),u<m->p≠[]->p<+:decDigits u->∃u',u'<=u/\p=decDigits u':=by
 intro m
 induction m with
 |zero=>intro u p h;omega
 |succ m ih=>
  intro u p h hp hpre
  by_cases h10:u<10
  ·rw [decDigits,IY h10]at hpre
   refine⟨u,Ee _,?_⟩
   rw [decDigits,IY h10]
   obtain⟨q,hq⟩:=hpre
   cases p with
   |nil=>exact absurd rfl hp
   |cons a r=>
    obtain⟨q1,q2⟩:=List.cons.inj hq
    rw [q1,(Ox.1 q2).1]
  ·rw [decDigits,Ot h10]at hpre
   rcases List.prefix_concat_iff.1 hpre with he|hpre
   ·exact⟨u,Ee _,by rw [he];conv=>rhs;rw [decDigits,Ot h10]⟩
   ·obtain⟨u',h1,h2⟩:=ih (u / 10) p (by omega) hp hpre
    exact⟨u',by omega,h2⟩
def sgn (n:Int):Nat:=if n<0 then 1 else 0
theorem KHW {n:Int} (hn:I64 n) {k:Nat} (h1:sgn n<=k) (h2:k<(itoa n).length):digB (itoa n)[k]=true/\∃m,numP ((itoa n).take (k+1))=(m,0):=by
 unfold I64 at hn
 unfold sgn at h1
 by_cases hneg:n<0
 ·have hT:itoa n=45::decDigits n.natAbs:=by unfold itoa;rw [if_pos hneg]
  obtain⟨a1,a2,a3,a4⟩:=KAZ _ n.natAbs (EH _)
  rw [if_pos hneg]at h1
  obtain⟨k,rfl⟩:∃q,k=q+1:=⟨k - 1,by omega⟩
  simp only [hT]
  rw [hT,Ef]at h2
  have hk:k<(decDigits n.natAbs).length:=by omega
  refine⟨?_,?_⟩
  ·rw [FY]
   exact EB.1 a1 _ (EJ hk)
  ·rw [Fq]
   have hne:(decDigits n.natAbs).take (k+1)≠[]:=by
    intro e
    have:=Ew List.length e
    rw [EI,En]at this
    omega
   obtain⟨u',hu,hp⟩:=KJ0 _ n.natAbs _ (EH _) hne (List.take_prefix _ _)
   have hu0:u'≠0:=λe=>by
    subst e
    have hz:decDigits 0=[48]:=by rw [decDigits,IY (by decide)];rfl
    rw [hz]at hp
    have:(decDigits n.natAbs).head?=some 48:=by
     have:=Ew List.head? hp
     rw [List.head?_take]at this
     simpa using this
    have:=a4 this
    omega
   refine⟨-(u':Int),?_⟩
   rw [hp]
   have:=KIh (n:=-(u':Int)) ⟨by omega,by omega⟩
   rw [itoa,if_pos (by omega),show(-(u':Int)).natAbs=u' by omega]at this
   exact this
 ·have hT:itoa n=decDigits n.toNat:=by unfold itoa;rw [if_neg hneg]
  obtain⟨a1,a2,a3,a4⟩:=KAZ _ n.toNat (EH _)
  simp only [hT]
  rw [hT]at h2
  refine⟨EB.1 a1 _ (EJ h2),?_⟩
  have hne:(decDigits n.toNat).take (k+1)≠[]:=by
   intro e
   have:=Ew List.length e
   rw [EI,En]at this
   omega
  obtain⟨u',hu,hp⟩:=KJ0 _ n.toNat _ (EH _) hne (List.take_prefix _ _)
  refine⟨(u':Int),?_⟩
  rw [hp]
  have:=KIh (n:=(u':Int)) ⟨by omega,by omega⟩
  rw [itoa,if_neg (by omega),FI]at this
  exact this
theorem KMx {s:Eb} {fr:Nat} {N:Int} (hN:I64 N) (ha:At s fr (itoa N)) (hf:digB (KI s (fr+(itoa N).length))=false):∀(f k:Nat) (n:Int),sgn N<=k->k<=(itoa N).length->(itoa N).length<=k+f->(k=(itoa N).length->n=N)->numL s fr f (fr+k) n=.ok (N,fr+(itoa N).length)
 |0,k,n,h1,h2,h3,h4=>by
  have:k=(itoa N).length:=by omega
  rw [numL,h4 this,this]
 |f+1,k,n,h1,h2,h3,h4=>by
  rw [numL]
  by_cases hk:k=(itoa N).length
  ·rw [hk,if_neg (by rw [hf];decide),h4 hk]
  ·have hkl:k<(itoa N).length:=by omega
   obtain⟨hd,m,hm⟩:=KHW hN h1 hkl
   rw [ha.get hkl,if_pos hd,show fr+k+1 - fr=fr+(k+1) - fr by omega,ha.cut (k:=k+1) hkl,hm,if_neg (show ¬((0:Int)=7) by decide),if_neg (show ¬((0:Int)≠0) by decide)]
   refine KMx hN ha hf f (k+1) m (by omega) hkl (by omega) (λhe=>?_)
   rw [he,ER,KIh hN]at hm
   cases hm
   rfl
theorem KOP (n:Int):itoa n≠[]:=by
 unfold itoa
 split
 ·simp
 ·exact(KAZ _ _ (EH _)).2.2.1
theorem KPN {s:Eb} {i:Nat} {n:Int} (hn:I64 n) (ha:At s i (itoa n)) (hf:digB (KI s (i+(itoa n).length))=false):numF s i=.ok (n,i+(itoa n).length):=by
 have hlen:=ha.len (KOP n)
 have hpos:0<(itoa n).length:=Fl.2 (KOP n)
 have h0:=ha.get hpos
 have hJ:numJ s i=i+sgn n:=by
  unfold numJ sgn
  rw [FX]at h0
  by_cases hneg:n<0
  ·have hT:itoa n=45::decDigits n.natAbs:=by unfold itoa;rw [if_pos hneg]
   have:KI s i=45:=by rw [h0];simp only [hT];rfl
   rw [if_pos this,if_pos hneg]
  ·have hT:itoa n=decDigits n.toNat:=by unfold itoa;rw [if_neg hneg]
   obtain⟨hd,_⟩:=KHW hn (k:=0) (by unfold sgn;rw [if_neg hneg];exact Ee _) hpos
   have:KI s i≠45:=by
    rw [h0]
    intro e
    rw [e]at hd
    exact absurd hd (by decide)
   rw [if_neg this,if_neg hneg]
   rfl
 have hs:sgn n<(itoa n).length:=by
  unfold sgn
  split
  ·rename_i hneg
   have hT:itoa n=45::decDigits n.natAbs:=by unfold itoa;rw [if_pos hneg]
   have:=Fl.2 (KAZ _ n.natAbs (EH _)).2.2.1
   rw [hT,Ef]
   omega
  ·exact hpos
 obtain⟨hd,_⟩:=KHW hn (Ee _) hs
 unfold numF
 rw [hJ,ha.get hs,if_neg]
 ·exact KMx hn ha hf _ _ _ (Ee _) (by omega) (by omega) (λhe=>by omega)
 ·intro hh
  rcases hh with hh|⟨h1,h2⟩
  ·rw [hd]at hh;cases hh
  ·have hneg:n<0:=by
    unfold sgn at h1
    by_cases h:n<0
    ·exact h
    ·rw [if_neg h]at h1;omega
   have hT:itoa n=45::decDigits n.natAbs:=by unfold itoa;rw [if_pos hneg]
   have hs1:sgn n=1:=by unfold sgn;rw [if_pos hneg]
   simp only [hs1,hT,FY]at h2
   obtain⟨_,_,a3,a4⟩:=KAZ _ n.natAbs (EH _)
   have:(decDigits n.natAbs).head?=some 48:=by
    rw [Ir,Em (Fl.2 a3),h2]
   have:=a4 this
   omega
theorem KMy {s:Eb} {fr:Nat}:∀{f i:Nat} {n m:Int} {j:Nat},numL s fr f i n=.ok (m,j)->numP ((s.drop fr).take (i - fr))=(n,0)->numP ((s.drop fr).take (j - fr))=(m,0)
 |0,i,n,m,j,h,hp=>by cases h;exact hp
 |f+1,i,n,m,j,h,hp=>by
  rw [numL]at h
  split at h
  ·split at h
   ·cases h
   ·split at h
    ·cases h;exact hp
    ·rename_i h0
     refine KMy h ?_
     have h0:=IP.1 h0
     rw [<-h0]
  ·cases h;exact hp
theorem KPO {s:Eb} {i j:Nat} {n:Int} (h:numF s i=.ok (n,j)) (hi:i<=s.length):At s i (itoa n)/\j=i+(itoa n).length:=by
 have hok:=KEM h hi
 have key:numP ((s.drop i).take (j - i))=(n,0):=by
  unfold numF at h
  split at h
  ·cases h
  ·rename_i hb
   have hd:digB (KI s (numJ s i))=true:=by
    cases hh:digB (KI s (numJ s i))with
    |true=>rfl
    |false=>exact absurd (.inl hh) hb
   have hil:=KIa hd
   rw [show s.length - numJ s i=(s.length - (numJ s i+1))+1 by omega,numL,if_pos hd]at h
   split at h
   ·cases h
   ·split at h
    ·rename_i h7 h0
     exfalso
     cases h
     by_cases h45:KI s i=45
     ·have hJ:numJ s i=i+1:=by unfold numJ;rw [if_pos h45]
      rw [hJ]at hb hd hil h0
      have h2:(s.drop i).take (i+1+1 - i)=[45,KI s (i+1)]:=by
       rw [show i+1+1 - i=2 by omega,Eh (by omega),Eh hil]
       rw [Uz hil,<-h45,Uz (by omega)]
       rfl
      rw [h2]at h0
      exact h0 ((KBl hd).2 (λe=>hb (.inr ⟨by omega,e⟩)))
     ·have hJ:numJ s i=i:=by unfold numJ;rw [if_neg h45]
      rw [hJ]at hd hil h0
      have h2:(s.drop i).take (i+1 - i)=[KI s i]:=by
       rw [show i+1 - i=1 by omega,Eh hil,Uz hil]
       rfl
      rw [h2]at h0
      exact h0 (KBl hd).1
    ·rename_i h0
     have h0:=IP.1 h0
     exact KMy h (by rw [<-h0])
 have ht:=KSA key
 have hl:=Ew List.length ht
 rw [EI,Ex]at hl
 have hj:j=i+(itoa n).length:=by omega
 refine⟨?_,hj⟩
 unfold At
 rw [<-ht]
 conv=>lhs;rw [EI,Ex,FZ (by omega)]
end Gx
namespace Gx
open Go Go.Proofs Go.Shelf Go.RowKit Go.Lib
theorem KSC:∀k:Fin 16,hexN (hexc k.val)=(k.val:Int):=by decide+kernel
theorem KVi {k:Nat} (h:k<16):hexN (hexc k)=(k:Int):=KSC ⟨k,h⟩
theorem KUH:∀k:Fin 16,hexD[k.val]?=some (hexc k.val):=by decide+kernel
theorem KPP {c:UInt8} (h:0<=hexN c):c=hexc (hexN c).toNat:=by
 have hle:=KEL c
 have h1:Lib.indexByte hexD c=(((hexN c).toNat:Nat):Int):=by rw [IC h];rfl
 have h2:=(Lib.indexByte_some h1).1
 rw [KUH ⟨(hexN c).toNat,by omega⟩]at h2
 exact(Option.some.inj h2).symm
theorem KQn {a b:UInt8}:a<b↔a.toNat<b.toNat:=Oz
theorem KPQ {c:UInt8} (h:c.toNat<32\/126<c.toNat):qc c=[92,120,hexc (c.toNat / 16),hexc (c.toNat%16)]:=by
 unfold qc
 rw [if_pos (by rw [KQn,KQn];exact h)]
theorem KPR {c:UInt8} (h:c=39\/c=92):qc c=[92,c]:=by
 unfold qc
 rw [if_neg (by rw [KQn,KQn];rcases h with rfl|rfl<;>decide),if_pos h]
theorem KW0 {c:UInt8} (h:¬(c.toNat<32\/126<c.toNat)) (h2:¬(c=39\/c=92)):qc c=[c]:=by
 unfold qc
 rw [if_neg (by rw [KQn,KQn];exact h),if_neg h2]
theorem KUI {s:Eb} {i:Nat} {c:UInt8} {w:Eb} (hq:qc c=92::w) (ha:At s i w) (hw:w≠[]) (hne:c.toNat<32\/126<c.toNat\/c=39\/c=92):escP s i=.ok (c,i+w.length):=by
 by_cases h:c.toNat<32\/126<c.toNat
 ·rw [KPQ h]at hq
  cases hq
  have hlt:c.toNat<256:=c.toNat_lt
  have a0:=ha.get (k:=0) (by simp)
  have a1:=ha.get (k:=1) (by simp)
  have a2:=ha.get (k:=2) (by simp)
  simp only [FX,FO,FY]at a0 a1 a2
  have hm:Xo s [120] i=.ok (i+1):=GG (lit:=[120]) ((Zz (a:=[120]) (b:=[hexc (c.toNat / 16),hexc (c.toNat%16)])).1 ha).1
  have e1:hexN (KI s (i+1))=((c.toNat / 16:Nat):Int):=by rw [a1,KVi (by omega)]
  have e2:hexN (KI s (i+1+1))=((c.toNat%16:Nat):Int):=by rw [show i+1+1=i+2 by omega,a2,KVi (by omega)]
  unfold escP
  rw [a0,if_neg (by decide),hm]
  dsimp only
  rw [e1,e2,if_neg (by omega),if_neg (by omega)]
  have:UInt8.ofNat ((((c.toNat / 16:Nat):Int)*16+((c.toNat%16:Nat):Int)).toNat)=c:=by
   rw [show(((c.toNat / 16:Nat):Int)*16+((c.toNat%16:Nat):Int)).toNat=c.toNat by omega,FS]
  rw [this]
  rfl
 ·have h2:c=39\/c=92:=by
   rcases hne with h3|h3|h3|h3
   ·exact absurd (.inl h3) h
   ·exact absurd (.inr h3) h
   ·exact .inl h3
   ·exact .inr h3
  rw [KPR h2]at hq
  cases hq
  unfold escP
  rw [ha.here,if_pos h2]
  rfl
theorem KMz {s:Eb}:∀(t:Eb) (f i:Nat) (acc:Eb),At s i (t.flatMap qc++[39])->t.length<f->strL s f i acc=.ok (acc++t,i+(t.flatMap qc).length+1)
 | [],f,i,acc,ha,hf=>by
  obtain⟨f,rfl⟩:∃g,f=g+1:=⟨f - 1,by omega⟩
  rw [List.flatMap_nil,EW]at ha
  rw [strL,if_pos ha.here]
  simp
 |c::t,f,i,acc,ha,hf=>by
  obtain⟨f,rfl⟩:∃g,f=g+1:=⟨f - 1,by omega⟩
  rw [Ef]at hf
  rw [ET,Ek]at ha
  have ha2:=Zz.1 ha
  have ih:=KMz t f (i+(qc c).length) (acc++[c]) ha2.2 (by omega)
  have hres:(Except.ok (acc++[c]++t,i+(qc c).length+(t.flatMap qc).length+1):Except Nat (Eb×Nat))=.ok (acc++c::t,i+((c::t).flatMap qc).length+1):=by
   rw [ET,List.length_append,Ek,Iy i]
   rfl
  rw [hres]at ih
  rw [strL]
  by_cases h:(c.toNat<32\/126<c.toNat)\/(c=39\/c=92)
  ·have hw:∃w,qc c=92::w/\w≠[]:=by
    rcases h with h|h
    ·exact⟨_,KPQ h,by simp⟩
    ·exact⟨_,KPR h,by simp⟩
   obtain⟨w,hq,hwn⟩:=hw
   rw [hq]at ha2
   have h92:=ha2.1.here
   have hesc:=KUI hq (KGh.1 ha2.1).2 hwn (by rcases h with(h|h)|(h|h)<;>simp [h])
   rw [h92,if_neg (by decide),if_neg (by decide),if_pos rfl,hesc]
   dsimp only
   rw [hq,Ef]at ih
   rw [show i+1+w.length=i+(w.length+1) by omega]
   exact ih
  ·have h1:¬(c.toNat<32\/126<c.toNat):=λhh=>h (.inl hh)
   have h2:¬(c=39\/c=92):=λhh=>h (.inr hh)
   rw [KW0 h1 h2]at ha2 ih
   have hh:=ha2.1.here
   rw [hh,if_neg (λe=>h2 (.inl e)),if_neg h1,if_neg (λe=>h2 (.inr e))]
   exact ih
theorem KY9 (t:Eb):t.length<=(t.flatMap qc).length:=by
 induction t with
 |nil=>simp
 |cons c t ih=>
  rw [ET,List.length_append,Ef]
  have:1<=(qc c).length:=by unfold qc;split<;>(try split)<;>simp
  omega
theorem KUJ {s t:Eb} {i:Nat} (ha:At s i (J7 t)):strP s i=.ok (t,i+(J7 t).length):=by
 unfold J7 at ha⊢
 have hl:=ha.len (by simp)
 have h1:At s i [39]/\At s (i+1) (t.flatMap qc++[39]):=by
  have:=(Zz (a:=[39]) (b:=t.flatMap qc++[39]) (i:=i) (s:=s)).1 (by simpa using ha)
  exact this
 have hq:=KY9 t
 simp only [Ef,List.length_append,En,Ey]at hl
 unfold strP
 rw [GG h1.1]
 dsimp only
 rw [List.length_singleton,KMz t _ (i+1) [] h1.2 (by omega)]
 simp only [EW,Ey,Ef,List.length_append,En]
 congr 2
 omega
theorem KUK {s:Eb} {i j:Nat} {c:UInt8} (h:escP s i=.ok (c,j)):∃w,qc c=92::w/\At s i w/\j=i+w.length:=by
 unfold escP at h
 split at h
 ·rename_i hc
  cases h
  refine⟨[KI s i],KPR hc,GH rfl (by rcases hc with h|h<;>(rw [h];decide)),rfl⟩
 ·split at h
  ·cases h
  ·rename_i j' hj
   obtain⟨a1,a2⟩:=W3 hj
   have a2:j'=i+1:=a2
   subst a2
   split at h
   ·cases h
   ·rename_i hb1
    split at h
    ·cases h
    ·rename_i hb2
     cases h
     have l1:=KEL (KI s (i+1))
     have l2:=KEL (KI s (i+1+1))
     have c1:0<=hexN (KI s (i+1)):=by omega
     have c2:0<=hexN (KI s (i+1+1)):=by omega
     generalize hx:hexN (KI s (i+1))=x at*
     generalize hy:hexN (KI s (i+1+1))=y at*
     have hv:(UInt8.ofNat ((x*16+y).toNat)).toNat=(x*16+y).toNat:=by
      rw [Il]
      exact Od (by omega)
     refine⟨[120,KI s (i+1),KI s (i+1+1)],?_,?_,rfl⟩
     ·rw [KPQ (by rw [hv];omega),hv]
      have e1:=KPP (c:=KI s (i+1)) (by rw [hx];exact c1)
      have e2:=KPP (c:=KI s (i+1+1)) (by rw [hy];exact c2)
      rw [hx]at e1
      rw [hy]at e2
      rw [e1,e2,show(x*16+y).toNat / 16=x.toNat by omega,show(x*16+y).toNat%16=y.toNat by omega]
     ·have hz1:KI s (i+1)≠0:=λe=>by rw [e,KJv]at hx;omega
      have hz2:KI s (i+1+1)≠0:=λe=>by rw [e,KJv]at hy;omega
      have b1:=GH (s:=s) (i:=i+1) rfl hz1
      have b2:=GH (s:=s) (i:=i+1+1) rfl hz2
      exact(Zz (a:=[120]) (b:=[_,_])).2 ⟨a1,(Zz (a:=[_]) (b:=[_])).2 ⟨b1,b2⟩⟩
theorem KIl {s:Eb}:∀{f i:Nat} {acc t:Eb} {j:Nat},strL s f i acc=.ok (t,j)->∃t',t=acc++t'/\At s i (t'.flatMap qc++[39])/\j=i+(t'.flatMap qc).length+1
 |0,i,acc,t,j,h=>by cases h
 |f+1,i,acc,t,j,h=>by
  rw [strL]at h
  split at h
  ·rename_i h39
   cases h
   exact⟨[],by simp,GH h39 (by decide),rfl⟩
  ·rename_i h39
   split at h
   ·cases h
   ·rename_i hr
    split at h
    ·rename_i h92
     split at h
     ·cases h
     ·rename_i c j2 he
      obtain⟨w,hq,hw,hj⟩:=KUK he
      obtain⟨t',h1,h2,h3⟩:=KIl h
      refine⟨c::t',by rw [h1];simp,?_,?_⟩
      ·rw [ET,Ek,Zz,hq,Ef]
       refine⟨(Zz (a:=[92]) (b:=w)).2 ⟨GH h92 (by decide),hw⟩,?_⟩
       rw [hj]at h2
       rw [show i+(w.length+1)=i+1+w.length by omega]
       exact h2
      ·rw [h3,hj,ET,List.length_append,hq,Ef]
       omega
    ·rename_i h92
     obtain⟨t',h1,h2,h3⟩:=KIl h
     have hq:=KW0 (c:=KI s i) hr (λhh=>hh.elim h39 h92)
     refine⟨KI s i::t',by rw [h1];simp,?_,?_⟩
     ·rw [ET,Ek,Zz,hq]
      exact⟨GH rfl (λe=>hr (.inl (by rw [e];decide))),h2⟩
     ·rw [h3,ET,List.length_append,hq]
      simp only [List.length_singleton]
      omega
theorem KUL {s t:Eb} {i j:Nat} (h:strP s i=.ok (t,j)):At s i (J7 t)/\j=i+(J7 t).length:=by
 unfold strP at h
 split at h
 ·cases h
 ·rename_i j1 hj
  obtain⟨a1,a2⟩:=W3 hj
  have a2:j1=i+1:=a2
  subst a2
  obtain⟨t',h1,h2,h3⟩:=KIl h
  rw [EW]at h1
  subst h1
  unfold J7
  refine⟨?_,by rw [h3];simp;omega⟩
  have:=(Zz (a:=[39]) (b:=t.flatMap qc++[39]) (i:=i) (s:=s)).2 ⟨a1,h2⟩
  simpa using this
end Gx
namespace Gx
open Go Go.Proofs Go.Shelf Go.RowKit Go.Lib
def WfV:Nat->Vl->Prop
 |0,_=>True
 |d+1,.mk _ n _ l=>I64 n/\∀x∈l,WfV d x
def sepT (d:Nat) (l:List Vl):Eb:=l.flatMap (λx=>[44,32]++txt d x)
def mapT (d:Nat):List Vl->Eb
 |a::b::r=>[44,32]++(txt d a++([58,32]++(txt d b++mapT d r)))
 |_=>[]
theorem KLO (d:Nat):∀(l:List Vl) (a:Vl),shw [44,32] [44,32] ((a::l).map (txt d))=txt d a++sepT d l
 | [],a=>by simp [shw,sepT]
 |b::l,a=>by
  have:=KLO d l b
  simp only [Er]at this⊢
  rw [shw,this]
  simp [sepT]
theorem KLP (d:Nat):∀(n:Nat) (l:List Vl) (a b:Vl),l.length=2*n->shw [58,32] [44,32] ((a::b::l).map (txt d))=txt d a++([58,32]++(txt d b++mapT d l))
 |0,l,a,b,h=>by
  obtain rfl:l=[]:=E8.1 h
  simp [shw,mapT]
 |n+1,l,a,b,h=>by
  match l,h with
  |x::y::r,h=>
   have:=KLP d n r x y (by simp only [Ef]at h;omega)
   simp only [Er]at this⊢
   rw [shw,shw,this,mapT]
theorem KPS (d:Nat) (n:Int) (s:Eb) (l:List Vl):txt (d+1) (.mk 4 n s l)=[91]++(shw [44,32] [44,32] (l.map (txt d))++[93]):=by
 rw [txt]
 simp
theorem KSD (d:Nat) (n:Int) (s:Eb) (l:List Vl):txt (d+1) (.mk 5 n s l)=[123]++(shw [58,32] [44,32] (l.map (txt d))++[125]):=by
 rw [txt]
 simp
theorem KM0 {s:Eb} {d i j:Nat} {v:Vl} (h:pval s d i=.ok (v,j)):KI s i≠93/\KI s i≠125/\i<s.length:=by
 cases d with
 |zero=>cases h
 |succ d=>
  refine⟨λe=>?_,λe=>?_,JM (λe=>?_)⟩<;>
  ·rw [pval,e,if_neg (by decide),if_neg (by decide),if_neg (by decide),if_neg (by decide),if_neg (by decide),if_neg (by decide),if_neg (by decide),if_neg (by decide)]at h
   cases h
def Rds (s:Eb) (d:Nat) (v:Vl):Prop:=∀i,At s i (txt d v)->digB (KI s (i+(txt d v).length))=false->pval s d i=.ok (v,i+(txt d v).length)
theorem KM1 {s:Eb} {d:Nat}:∀(l2 l1:List Vl) (f i:Nat),l1≠[]->(∀x∈l2,Rds s d x)->At s i (sepT d l2++[93])->l2.length<f->Vc (pval s d) 93 false s f l1 i=.ok (l1++l2,i+(sepT d l2).length+1)
 | [],l1,f,i,h1,hr,ha,hf=>by
  obtain⟨f,rfl⟩:∃g,f=g+1:=⟨f - 1,by omega⟩
  rw [Vc,if_pos (At.here ha)]
  simp [sepT]
 |x::l2,l1,f,i,h1,hr,ha,hf=>by
  obtain⟨f,rfl⟩:∃g,f=g+1:=⟨f - 1,by omega⟩
  rw [Ef]at hf
  have hst:sepT d (x::l2)++[93]=[44,32]++(txt d x++(sepT d l2++[93])):=by simp [sepT]
  rw [hst]at ha
  obtain⟨a1,a2⟩:=Zz.1 ha
  obtain⟨a3,a4⟩:=Zz.1 a2
  have hnext:KI s (i+2+(txt d x).length)=44\/KI s (i+2+(txt d x).length)=93:=by
   cases l2 with
   |nil=>exact .inr (At.here a4)
   |cons y l2=>
    rw [show sepT d (y::l2)++[93]=44::(32::(txt d y++(sepT d l2++[93]))) by simp [sepT]]at a4
    exact .inl (At.here a4)
  have hp:=hr x (by simp) (i+2) a3 (by rcases hnext with h|h<;>(rw [h];decide))
  have ih:=KM1 l2 (l1++[x]) f (i+2+(txt d x).length) (by simp) (λy hy=>hr y (by simp [hy])) a4 (by omega)
  have hl1:¬l1.length=0:=λe=>h1 (E8.1 e)
  rw [Vc,if_neg (by rw [At.here a1];decide)]
  unfold sepP
  rw [if_neg hl1,GG a1]
  dsimp only
  unfold Ya
  rw [show i+([44,32]:Eb).length=i+2 from rfl,hp]
  dsimp only
  rw [if_neg (by decide)]
  dsimp only
  rw [if_neg (by rcases hnext with h|h<;>(rw [h];decide)),ih]
  have:(sepT d (x::l2)).length=2+(txt d x).length+(sepT d l2).length:=by simp [sepT];omega
  rw [this,Ek]
  congr 2
  omega
theorem KPT {s:Eb} {d:Nat}:∀(n:Nat) (l2 l1:List Vl) (f i:Nat),l2.length=2*n->l1≠[]->(∀x∈l2,Rds s d x)->At s i (mapT d l2++[125])->l2.length<f->Vc (pval s d) 125 true s f l1 i=.ok (l1++l2,i+(mapT d l2).length+1)
 |0,l2,l1,f,i,hn,h1,hr,ha,hf=>by
  obtain rfl:l2=[]:=E8.1 hn
  obtain⟨f,rfl⟩:∃g,f=g+1:=⟨f - 1,by omega⟩
  rw [Vc,if_pos (At.here ha)]
  simp [mapT]
 |n+1,l2,l1,f,i,hn,h1,hr,ha,hf=>by
  match l2,hn with
  |x::y::l2,hn=>
   obtain⟨f,rfl⟩:∃g,f=g+1:=⟨f - 1,by omega⟩
   simp only [Ef]at hf hn
   have hst:mapT d (x::y::l2)++[125]=[44,32]++(txt d x++([58,32]++(txt d y++(mapT d l2++[125])))):=by rw [mapT];simp
   rw [hst]at ha
   obtain⟨a1,a2⟩:=Zz.1 ha
   obtain⟨a3,a4⟩:=Zz.1 a2
   obtain⟨a5,a6⟩:=Zz.1 a4
   obtain⟨a7,a8⟩:=Zz.1 a6
   have hnext:KI s (i+2+(txt d x).length+2+(txt d y).length)=44\/KI s (i+2+(txt d x).length+2+(txt d y).length)=125:=by
    match l2,hn with
    | [],_=>exact .inr (At.here a8)
    |u::w::l2,_=>
     rw [show mapT d (u::w::l2)++[125]=44::(32::(txt d u++([58,32]++(txt d w++(mapT d l2++[125]))))) by rw [mapT];simp]at a8
     exact .inl (At.here a8)
    | [u],hn=>exact absurd hn (by simp;omega)
   have hp:=hr x (by simp) (i+2) a3 (by rw [show i+2+(txt d x).length=i+([44,32]:Eb).length+(txt d x).length from rfl,At.here a5];decide)
   have hp2:=hr y (by simp) (i+2+(txt d x).length+2) a7 (by rcases hnext with h|h<;>(rw [h];decide))
   have ih:=KPT n l2 (l1++[x,y]) f (i+2+(txt d x).length+2+(txt d y).length) (by omega) (by simp) (λz hz=>hr z (by simp [hz])) a8 (by omega)
   have hl1:¬l1.length=0:=λe=>h1 (E8.1 e)
   rw [Vc,if_neg (by rw [At.here a1];decide)]
   unfold sepP
   rw [if_neg hl1,GG a1]
   dsimp only
   unfold Ya
   rw [show i+([44,32]:Eb).length=i+2 from rfl,hp]
   dsimp only
   have hm:=GG a5
   rw [if_pos rfl,show i+2+(txt d x).length=i+([44,32]:Eb).length+(txt d x).length from rfl,hm]
   dsimp only
   rw [show i+([44,32]:Eb).length+(txt d x).length+([58,32]:Eb).length=i+2+(txt d x).length+2 from rfl,hp2]
   dsimp only
   rw [if_neg (by rcases hnext with h|h<;>(rw [h];decide)),ih]
   have:(mapT d (x::y::l2)).length=2+(txt d x).length+2+(txt d y).length+(mapT d l2).length:=by rw [mapT];simp;omega
   rw [this,Ek]
   congr 2
   omega
theorem KSE {s:Eb} {d:Nat} {l:List Vl} {i:Nat} (hr:∀x∈l,Rds s d x) (ha:At s i (shw [44,32] [44,32] (l.map (txt d))++[93])) (f:Nat) (hf:l.length<f):
  Vc (pval s d) 93 false s f [] i=.ok (l,i+(shw [44,32] [44,32] (l.map (txt d))).length+1):=by
 obtain⟨f,rfl⟩:∃g,f=g+1:=⟨f - 1,by omega⟩
 cases l with
 |nil=>
  rw [Vc,if_pos (At.here ha)]
  rfl
 |cons x l=>
  rw [KLO]at ha⊢
  rw [Ek]at ha
  obtain⟨a3,a4⟩:=Zz.1 ha
  have hnext:KI s (i+(txt d x).length)=44\/KI s (i+(txt d x).length)=93:=by
   cases l with
   |nil=>exact .inr (At.here a4)
   |cons y l=>
    rw [show sepT d (y::l)++[93]=44::(32::(txt d y++(sepT d l++[93]))) by simp [sepT]]at a4
    exact .inl (At.here a4)
  have hp:=hr x (by simp) i a3 (by rcases hnext with h|h<;>(rw [h];decide))
  have ih:=KM1 l [x] f (i+(txt d x).length) (by simp) (λy hy=>hr y (by simp [hy])) a4 (by simp only [Ef]at hf;omega)
  rw [Vc,if_neg (KM0 hp).1]
  unfold sepP
  rw [if_pos (show([]:List Vl).length=0 from rfl)]
  dsimp only
  unfold Ya
  rw [hp]
  dsimp only
  rw [if_neg (by decide)]
  dsimp only
  rw [if_neg (by rcases hnext with h|h<;>(rw [h];decide)),EW,ih,List.length_append]
  congr 2
  omega
theorem KUM {s:Eb} {d:Nat} {l:List Vl} {i:Nat} (he:l.length%2=0) (hr:∀x∈l,Rds s d x) (ha:At s i (shw [58,32] [44,32] (l.map (txt d))++[125])) (f:Nat) (hf:l.length<f):
  Vc (pval s d) 125 true s f [] i=.ok (l,i+(shw [58,32] [44,32] (l.map (txt d))).length+1):=by
 obtain⟨f,rfl⟩:∃g,f=g+1:=⟨f - 1,by omega⟩
 match l,he with
 | [],_=>
  rw [Vc,if_pos (At.here ha)]
  rfl
 | [u],he=>exact absurd he (by simp)
 |x::y::l,he=>
  simp only [Ef]at he hf
  rw [KLP d (l.length / 2) l x y (by omega)]at ha⊢
  rw [show txt d x++([58,32]++(txt d y++mapT d l))++[125]=txt d x++([58,32]++(txt d y++(mapT d l++[125]))) by simp]at ha
  obtain⟨a3,a4⟩:=Zz.1 ha
  obtain⟨a5,a6⟩:=Zz.1 a4
  obtain⟨a7,a8⟩:=Zz.1 a6
  have hnext:KI s (i+(txt d x).length+2+(txt d y).length)=44\/KI s (i+(txt d x).length+2+(txt d y).length)=125:=by
   match l,he with
   | [],_=>exact .inr (At.here a8)
   |u::w::l2,_=>
    rw [show mapT d (u::w::l2)++[125]=44::(32::(txt d u++([58,32]++(txt d w++(mapT d l2++[125]))))) by rw [mapT];simp]at a8
    exact .inl (At.here a8)
   | [u],he=>exact absurd he (by simp)
  have hp:=hr x (by simp) i a3 (by rw [At.here a5];decide)
  have hp2:=hr y (by simp) (i+(txt d x).length+2) a7 (by rcases hnext with h|h<;>(rw [h];decide))
  have ih:=KPT (l.length / 2) l [x,y] f (i+(txt d x).length+2+(txt d y).length) (by omega) (by simp) (λz hz=>hr z (by simp [hz])) a8 (by omega)
  rw [Vc,if_neg (KM0 hp).2.1]
  unfold sepP
  rw [if_pos (show([]:List Vl).length=0 from rfl)]
  dsimp only
  unfold Ya
  rw [hp]
  dsimp only
  rw [if_pos rfl,GG a5]
  dsimp only
  rw [show i+(txt d x).length+([58,32]:Eb).length=i+(txt d x).length+2 from rfl,hp2]
  dsimp only
  rw [if_neg (by rcases hnext with h|h<;>(rw [h];decide)),EW,ih]
  simp only [List.length_append,Ef,En]
  congr 2
  omega
theorem KLQ {s:Eb} {l:List Vl} (h:KIS s l=true):s=[]/\l=[]:=by
 unfold KIS at h
 rw [Eg,Ei,IT]at h
 exact h
theorem KM2 {s:Eb} {i:Nat} {k n:Int} {c:UInt8} (hn:I64 n) (ha:At s i ([c,91]++itoa n++[93])):zY k s i=.ok (.mk k n [] [],i+([c,91]++itoa n++[93]).length):=by
 rw [Ek]at ha
 obtain⟨a1,a2⟩:=Zz.1 ha
 obtain⟨a3,a4⟩:=Zz.1 a2
 have a1':At s (i+1) [91]:=((Zz (a:=[c]) (b:=[91])).1 a1).2
 have hnum:=KPN (i:=i+2) hn a3 (by rw [show i+2+(itoa n).length=i+([c,91]:Eb).length+(itoa n).length from rfl,At.here a4];decide)
 unfold zY
 rw [GG a1']
 dsimp only
 rw [show i+1+([91]:Eb).length=i+2 from rfl,hnum]
 dsimp only
 have:=GG a4
 rw [show i+2+(itoa n).length=i+([c,91]:Eb).length+(itoa n).length from rfl,this]
 simp only [List.length_append,Ef,En]
 congr 2
 omega
theorem KPU (s:Eb):∀(d:Nat) (v:Vl),mayV d v=true->WfV d v->Rds s d v
 |0,v,hm,_=>by cases v;cases hm
 |d+1,.mk k n t l,hm,hw=>by
  have ih:=KPU s d
  intro i ha hf
  rw [WfV]at hw
  rw [mayV]at hm
  by_cases h1:k=1
  ·subst h1
   rw [if_pos rfl]at hm
   obtain⟨rfl,rfl⟩:=KLQ hm
   have ht:txt (d+1) (.mk 1 n [] [])=itoa n:=by rw [txt,if_pos rfl]
   rw [ht]at ha hf⊢
   have hnum:=KPN hw.1 ha hf
   have hc:KI s i=45\/digB (KI s i)=true:=by
    have h0:=ha.get (k:=0) (Fl.2 (KOP n))
    rw [FX]at h0
    by_cases hneg:n<0
    ·left
     have hT:itoa n=45::decDigits n.natAbs:=by unfold itoa;rw [if_pos hneg]
     rw [h0]
     simp only [hT]
     rfl
    ·right
     rw [h0]
     exact(KHW hw.1 (k:=0) (by unfold sgn;rw [if_neg hneg];exact Ee _) _).1
   rw [pval,if_pos hc,hnum]
  rw [if_neg h1]at hm
  by_cases h3:k=3
  ·subst h3
   rw [if_pos rfl,Eg,EO,Ei,Ei]at hm
   obtain⟨hb,hn⟩:=hm
   obtain⟨rfl,rfl⟩:=KLQ hb
   rcases hn with rfl|rfl
   ·have ht:txt (d+1) (.mk 3 0 [] [])=[102,97,108,115,101]:=by rw [txt];rfl
    rw [ht]at ha⊢
    rw [pval,At.here ha,if_neg (by decide),if_neg (by decide),if_neg (by decide),if_pos rfl,GG ha]
   ·have ht:txt (d+1) (.mk 3 1 [] [])=[116,114,117,101]:=by rw [txt];rfl
    rw [ht]at ha⊢
    rw [pval,At.here ha,if_neg (by decide),if_neg (by decide),if_pos rfl,GG ha]
  rw [if_neg h3]at hm
  by_cases h67:k=6\/k=7
  ·rw [if_pos h67,Eg,Eg,Ei,Ei]at hm
   obtain⟨⟨hb,hn1⟩,hn2⟩:=hm
   obtain⟨rfl,rfl⟩:=KLQ hb
   rcases h67 with rfl|rfl
   ·have ht:txt (d+1) (.mk 6 n [] [])=[118,91]++itoa n++[93]:=by rw [txt];rfl
    rw [ht]at ha⊢
    have hh:KI s i=118:=by
     rw [Ek]at ha
     exact At.here (Zz.1 ha).1
    rw [pval,hh,if_neg (by decide),if_neg (by decide),if_neg (by decide),if_neg (by decide),if_pos rfl]
    exact KM2 hw.1 ha
   ·have ht:txt (d+1) (.mk 7 n [] [])=[101,91]++itoa n++[93]:=by rw [txt];rfl
    rw [ht]at ha⊢
    have hh:KI s i=101:=by
     rw [Ek]at ha
     exact At.here (Zz.1 ha).1
    rw [pval,hh,if_neg (by decide),if_neg (by decide),if_neg (by decide),if_neg (by decide),if_neg (by decide),if_pos rfl]
    exact KM2 hw.1 ha
  rw [if_neg h67]at hm
  by_cases h2:k=2
  ·subst h2
   rw [if_pos rfl,Eg,Eg,Ei,IT,Ei]at hm
   obtain⟨⟨rfl,rfl⟩,_⟩:=hm
   have ht:txt (d+1) (.mk 2 0 t [])=J7 t:=by rw [txt];rfl
   rw [ht]at ha⊢
   have hh:KI s i=39:=by
    have:J7 t=39::(t.flatMap qc++[39]):=rfl
    rw [this]at ha
    exact At.here ha
   rw [pval,hh,if_neg (by decide),if_pos rfl,KUJ ha]
  rw [if_neg h2]at hm
  by_cases h4:k=4
  ·subst h4
   rw [if_pos rfl,Eg,Eg,Eg,Ei,Ei,Ei,EB]at hm
   obtain⟨hl,⟨rfl,rfl⟩,hall⟩:=hm
   rw [KPS]at ha⊢
   obtain⟨a1,a2⟩:=Zz.1 ha
   have hlen:=a2.len (by simp)
   have hcount:l.length<=(shw [44,32] [44,32] (l.map (txt d))).length:=by
    cases l with
    |nil=>simp
    |cons x l=>
     rw [KLO,List.length_append,Ef]
     have:=KLN d x
     have h5:l.length<=(sepT d l).length:=by
      clear hall hl ha a1 a2 hlen hf hw
      induction l with
      |nil=>simp
      |cons y l ih2=>simp only [sepT,ET,List.length_append,Ef,En]at ih2⊢;omega
     omega
   rw [List.length_append,List.length_singleton]at hlen
   have hlist:=KSE (λx hx=>ih x (hall x hx) (hw.2 x hx)) a2 (s.length - i) (by have:([91]:Eb).length=1:=rfl;omega)
   rw [pval,At.here a1,if_neg (by decide),if_neg (by decide),if_neg (by decide),if_neg (by decide),if_neg (by decide),if_neg (by decide),if_pos rfl]
   rw [show i+([91]:Eb).length=i+1 from rfl]at hlist
   rw [hlist]
   simp only [List.length_append,Ef,En]
   congr 2
   omega
  rw [if_neg h4]at hm
  by_cases h5:k=5
  ·subst h5
   rw [if_pos rfl,Eg,Eg,Eg,Eg,Eg,Ei,Ei,Ei,Ei,EB]at hm
   obtain⟨⟨⟨hl,he⟩,_⟩,⟨rfl,rfl⟩,hall⟩:=hm
   rw [KSD]at ha⊢
   obtain⟨a1,a2⟩:=Zz.1 ha
   have hlen:=a2.len (by simp)
   have hcount:l.length<=(shw [58,32] [44,32] (l.map (txt d))).length:=by
    match l,he with
    | [],_=>simp
    | [u],he=>exact absurd he (by simp)
    |x::y::l,he=>
     simp only [Ef]at he
     rw [KLP d (l.length / 2) l x y (by omega)]
     have h6:∀(n:Nat) (l:List Vl),l.length=2*n->l.length<=(mapT d l).length:=by
      intro n
      induction n with
      |zero=>intro l hl;omega
      |succ n ih2=>
       intro l hl
       match l,hl with
       |a::b::r,hl=>
        simp only [Ef]at hl
        have:=ih2 r (by omega)
        rw [mapT]
        simp only [List.length_append,Ef,En]
        omega
     have:=h6 (l.length / 2) l (by omega)
     have:=KLN d x
     have:=KLN d y
     simp only [List.length_append,Ef,En]
     omega
   rw [List.length_append,List.length_singleton]at hlen
   have hlist:=KUM he (λx hx=>ih x (hall x hx) (hw.2 x hx)) a2 (s.length - i) (by have:([123]:Eb).length=1:=rfl;omega)
   rw [pval,At.here a1,if_neg (by decide),if_neg (by decide),if_neg (by decide),if_neg (by decide),if_neg (by decide),if_neg (by decide),if_neg (by decide),if_pos rfl]
   rw [show i+([123]:Eb).length=i+1 from rfl]at hlist
   rw [hlist]
   simp only [List.length_append,Ef,En]
   congr 2
   omega
  rw [if_neg h5]at hm
  cases hm
end Gx
namespace Gx
open Go Go.Proofs Go.Shelf Go.RowKit Go.Lib
def Tx (s:Eb) (d:Nat) (pv:Nat->Except Nat (Vl×Nat)):Prop:=∀i v j,pv i=.ok (v,j)->At s i (txt d v)/\j=i+(txt d v).length
theorem KM3 {s:Eb} {d:Nat} {pv:Nat->Except Nat (Vl×Nat)} (hp:Tx s d pv):∀{f i:Nat} {l1 t:List Vl} {j:Nat},l1≠[]->Vc pv 93 false s f l1 i=.ok (t,j)->∃l2,t=l1++l2/\At s i (sepT d l2++[93])/\j=i+(sepT d l2).length+1
 |0,i,l1,t,j,h1,h=>by cases h
 |f+1,i,l1,t,j,h1,h=>by
  rw [Vc]at h
  split at h
  ·rename_i hh
   cases h
   exact⟨[],by simp,GH hh (by decide),rfl⟩
  ·have hl1:¬l1.length=0:=λe=>h1 (E8.1 e)
   unfold sepP at h
   rw [if_neg hl1]at h
   split at h
   ·cases h
   ·rename_i i1 hi1
    obtain⟨a1,a2⟩:=W3 hi1
    split at h
    ·cases h
    ·rename_i vs i2 hv
     split at h
     ·cases h
     ·unfold Ya at hv
      split at hv
      ·cases hv
      ·rename_i v j1 hpv
       rw [if_neg (by decide)]at hv
       cases hv
       obtain⟨b1,b2⟩:=hp _ _ _ hpv
       obtain⟨l2,c1,c2,c3⟩:=KM3 hp (by simp) h
       refine⟨v::l2,by rw [c1];simp,?_,?_⟩
       ·rw [show sepT d (v::l2)++[93]=[44,32]++(txt d v++(sepT d l2++[93])) by simp [sepT],Zz,Zz]
        subst a2
        rw [<-b2]
        exact⟨a1,b1,c2⟩
       ·have:(sepT d (v::l2)).length=2+(txt d v).length+(sepT d l2).length:=by simp [sepT];omega
        have e2:([44,32]:Eb).length=2:=rfl
        omega
theorem KPV {s:Eb} {d:Nat} {pv:Nat->Except Nat (Vl×Nat)} (hp:Tx s d pv):∀{f i:Nat} {l1 t:List Vl} {j:Nat},l1≠[]->Vc pv 125 true s f l1 i=.ok (t,j)->∃l2,l2.length%2=0/\t=l1++l2/\At s i (mapT d l2++[125])/\j=i+(mapT d l2).length+1
 |0,i,l1,t,j,h1,h=>by cases h
 |f+1,i,l1,t,j,h1,h=>by
  rw [Vc]at h
  split at h
  ·rename_i hh
   cases h
   exact⟨[],rfl,by simp,GH hh (by decide),rfl⟩
  ·have hl1:¬l1.length=0:=λe=>h1 (E8.1 e)
   unfold sepP at h
   rw [if_neg hl1]at h
   split at h
   ·cases h
   ·rename_i i1 hi1
    obtain⟨a1,a2⟩:=W3 hi1
    split at h
    ·cases h
    ·rename_i vs i2 hv
     split at h
     ·cases h
     ·unfold Ya at hv
      split at hv
      ·cases hv
      ·rename_i v j1 hpv
       rw [if_pos rfl]at hv
       split at hv
       ·cases hv
       ·rename_i j2 hj2
        obtain⟨a3,a4⟩:=W3 hj2
        split at hv
        ·cases hv
        ·rename_i w j3 hpw
         cases hv
         obtain⟨b1,b2⟩:=hp _ _ _ hpv
         obtain⟨b3,b4⟩:=hp _ _ _ hpw
         obtain⟨l2,c0,c1,c2,c3⟩:=KPV hp (by simp) h
         refine⟨v::w::l2,by simp only [Ef];omega,by rw [c1];simp,?_,?_⟩
         ·rw [show mapT d (v::w::l2)++[125]=[44,32]++(txt d v++([58,32]++(txt d w++(mapT d l2++[125])))) by rw [mapT];simp,Zz,Zz,Zz,Zz]
          subst a2
          rw [<-b2,<-a4,<-b4]
          exact⟨a1,b1,a3,b3,c2⟩
         ·have:(mapT d (v::w::l2)).length=2+(txt d v).length+2+(txt d w).length+(mapT d l2).length:=by rw [mapT];simp;omega
          have e2:([44,32]:Eb).length=2:=rfl
          have e3:([58,32]:Eb).length=2:=rfl
          omega
theorem KSF {s:Eb} {d:Nat} {pv:Nat->Except Nat (Vl×Nat)} (hp:Tx s d pv) {f i:Nat} {t:List Vl} {j:Nat} (h:Vc pv 93 false s f [] i=.ok (t,j)):
  At s i (shw [44,32] [44,32] (t.map (txt d))++[93])/\j=i+(shw [44,32] [44,32] (t.map (txt d))).length+1:=by
 cases f with
 |zero=>cases h
 |succ f=>
  rw [Vc]at h
  split at h
  ·rename_i hh
   cases h
   exact⟨GH hh (by decide),rfl⟩
  ·unfold sepP at h
   rw [if_pos (show([]:List Vl).length=0 from rfl)]at h
   dsimp only at h
   split at h
   ·cases h
   ·rename_i vs i2 hv
    split at h
    ·cases h
    ·unfold Ya at hv
     split at hv
     ·cases hv
     ·rename_i v j1 hpv
      rw [if_neg (by decide)]at hv
      cases hv
      obtain⟨b1,b2⟩:=hp _ _ _ hpv
      obtain⟨l2,c1,c2,c3⟩:=KM3 hp (by simp) h
      rw [EW,List.singleton_append]at c1
      rw [c1,KLO,Ek,Zz,List.length_append]
      subst b2
      exact⟨⟨b1,c2⟩,by omega⟩
theorem KUN {s:Eb} {d:Nat} {pv:Nat->Except Nat (Vl×Nat)} (hp:Tx s d pv) {f i:Nat} {t:List Vl} {j:Nat} (h:Vc pv 125 true s f [] i=.ok (t,j)):
  At s i (shw [58,32] [44,32] (t.map (txt d))++[125])/\j=i+(shw [58,32] [44,32] (t.map (txt d))).length+1:=by
 cases f with
 |zero=>cases h
 |succ f=>
  rw [Vc]at h
  split at h
  ·rename_i hh
   cases h
   exact⟨GH hh (by decide),rfl⟩
  ·unfold sepP at h
   rw [if_pos (show([]:List Vl).length=0 from rfl)]at h
   dsimp only at h
   split at h
   ·cases h
   ·rename_i vs i2 hv
    split at h
    ·cases h
    ·unfold Ya at hv
     split at hv
     ·cases hv
     ·rename_i v j1 hpv
      rw [if_pos rfl]at hv
      split at hv
      ·cases hv
      ·rename_i j2 hj2
       obtain⟨a3,a4⟩:=W3 hj2
       split at hv
       ·cases hv
       ·rename_i w j3 hpw
        cases hv
        obtain⟨b1,b2⟩:=hp _ _ _ hpv
        obtain⟨b3,b4⟩:=hp _ _ _ hpw
        obtain⟨l2,c0,c1,c2,c3⟩:=KPV hp (by simp) h
        rw [EW]at c1
        rw [c1,show [v,w]++l2=v::w::l2 from rfl,KLP d (l2.length / 2) l2 v w (by omega)]
        rw [show txt d v++([58,32]++(txt d w++mapT d l2))++[125]=txt d v++([58,32]++(txt d w++(mapT d l2++[125]))) by simp,Zz,Zz,Zz]
        subst b2
        subst a4
        subst b4
        refine⟨⟨b1,a3,b3,c2⟩,?_⟩
        simp only [List.length_append,Ef,En]at c3⊢
        omega
theorem KM4 {s:Eb} {i j:Nat} {k:Int} {c:UInt8} {v:Vl} (hc:At s i [c]) (h:zY k s i=.ok (v,j)):∃n,v=.mk k n [] []/\At s i ([c,91]++itoa n++[93])/\j=i+([c,91]++itoa n++[93]).length:=by
 unfold zY at h
 split at h
 ·cases h
 ·rename_i j1 h1
  obtain⟨a1,a2⟩:=W3 h1
  split at h
  ·cases h
  ·rename_i n j2 h2
   have hle:=(Vt h1).2.1 (by simp)
   obtain⟨b1,b2⟩:=KPO h2 hle
   split at h
   ·cases h
   ·rename_i j3 h3
    obtain⟨c1,c2⟩:=W3 h3
    cases h
    have a2:j1=i+2:=a2
    subst a2
    subst b2
    refine⟨n,rfl,?_,?_⟩
    ·rw [show [c,91]++itoa n++[93]=[c]++([91]++(itoa n++[93])) by simp,Zz,Zz,Zz]
     exact⟨hc,a1,b1,c1⟩
    ·rw [c2]
     simp only [List.length_append,Ef,En]
     omega
theorem KPW (s:Eb):∀d,Tx s d (pval s d)
 |0=>λi v j h=>by cases h
 |d+1=>λi v j h=>by
  have ih:=KPW s d
  rw [pval]at h
  split at h
  ·rename_i hc
   have hi:i<s.length:=JM (λe=>by rw [e]at hc;exact absurd hc (by decide))
   split at h
   ·cases h
   ·rename_i n j1 h1
    cases h
    have ht:txt (d+1) (.mk 1 n [] [])=itoa n:=by rw [txt,if_pos rfl]
    rw [ht]
    exact KPO h1 (by omega)
  split at h
  ·split at h
   ·cases h
   ·rename_i t j1 h1
    cases h
    have ht:txt (d+1) (.mk 2 0 t [])=J7 t:=by rw [txt];rfl
    rw [ht]
    exact KUL h1
  split at h
  ·split at h
   ·cases h
   ·rename_i j1 h1
    cases h
    have ht:txt (d+1) (.mk 3 1 [] [])=[116,114,117,101]:=by rw [txt];rfl
    rw [ht]
    exact W3 h1
  split at h
  ·split at h
   ·cases h
   ·rename_i j1 h1
    cases h
    have ht:txt (d+1) (.mk 3 0 [] [])=[102,97,108,115,101]:=by rw [txt];rfl
    rw [ht]
    exact W3 h1
  split at h
  ·rename_i hc
   obtain⟨n,rfl,h2,h3⟩:=KM4 (GH hc (by decide)) h
   have ht:txt (d+1) (.mk 6 n [] [])=[118,91]++itoa n++[93]:=by rw [txt];rfl
   rw [ht]
   exact⟨h2,h3⟩
  split at h
  ·rename_i hc
   obtain⟨n,rfl,h2,h3⟩:=KM4 (GH hc (by decide)) h
   have ht:txt (d+1) (.mk 7 n [] [])=[101,91]++itoa n++[93]:=by rw [txt];rfl
   rw [ht]
   exact⟨h2,h3⟩
  split at h
  ·rename_i hc
   split at h
   ·cases h
   ·rename_i l j1 h1
    cases h
    obtain⟨a1,a2⟩:=KSF ih h1
    rw [KPS,Zz]
    exact⟨⟨GH hc (by decide),a1⟩,by rw [a2];simp only [List.length_append,Ef,En];omega⟩
  split at h
  ·rename_i hc
   split at h
   ·cases h
   ·rename_i l j1 h1
    cases h
    obtain⟨a1,a2⟩:=KUN ih h1
    rw [KSD,Zz]
    exact⟨⟨GH hc (by decide),a1⟩,by rw [a2];simp only [List.length_append,Ef,En];omega⟩
  ·cases h
theorem KFs {v:Vl} (hm:mayV 8 v=true) (hw:WfV 8 v):ZT (txV v)=(v,0,0):=by
 have hAt:At (txV v) 0 (txt 8 v):=by
  unfold At
  rw [Fd]
  exact ER
 have h:=KPU (txV v) 8 v hm hw 0 hAt (by
  have:KI (txV v) (0+(txt 8 v).length)=0:=by
   unfold KI
   rw [EK (by show(txt 8 v).length<=_;omega)]
   rfl
  rw [this]
  decide)
 have hr:KBZ (txV v)=.ok v:=by
  unfold KBZ
  rw [h]
  dsimp only
  rw [if_neg (by show ¬(0+(txt 8 v).length<(txt 8 v).length);omega)]
 unfold ZT
 rw [hr]
 dsimp only
 rw [if_pos hm]
theorem KLR {s:Eb} {v:Vl} (h:KBZ s=.ok v):txV v=s:=by
 unfold KBZ at h
 split at h
 ·cases h
 ·rename_i w j hp
  split at h
  ·cases h
  ·rename_i hj
   cases h
   obtain⟨a1,a2⟩:=KPW s 8 0 _ _ hp
   have hle:=(KLG s 8 0 _ _ hp).2
   unfold At at a1
   rw [Fd,EU (by omega)]at a1
   exact a1.symm
theorem KSG {h:Heap}:∀(d:Nat) (v:Vl) (cs:Ea),VRep h v cs->WfV d v
 |0,v,_,_=>by cases v;trivial
 |d+1,.mk k n s l,cs,hv=>by
  rw [VRep.eq]at hv
  obtain⟨x,_,_,hn,_,hx⟩:=hv
  rw [WfV]
  refine⟨hn,λy hy=>?_⟩
  obtain⟨i,hi,rfl⟩:=Ii hy
  obtain⟨a,c,_,_,_,hvi⟩:=hx.get hi
  exact KSG d _ c hvi
end Gx
namespace Gx
open Go Go.Proofs Go.Shelf Go.RowKit Go.Lib
theorem KSH {s:Eb} (h:(ZT s).2.2=0):KBZ s=.ok (ZT s).1/\mayV 8 (ZT s).1=true:=by
 unfold ZT at h⊢
 cases hr:KBZ s with
 |error e=>
  rw [hr]at h
  have h:(22:Int)=0:=h
  exact absurd h (by decide)
 |ok v=>
  rw [hr]at h
  dsimp only at h⊢
  by_cases hm:mayV 8 v=true
  ·rw [if_pos hm]
   exact⟨rfl,hm⟩
  ·rw [if_neg hm]at h
   have h:(20:Int)=0:=h
   exact absurd h (by decide)
end Gx
