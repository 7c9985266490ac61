/- Own proofs: what those Lean programs compute. No condition. -/
import Derived.Test.YtpibdohdkfkcnaaGreatDoorP0
import Derived.Test.YtpibdohdkfkcnaaGreatDoorP1
import Derived.Test.YtpibdohdkfkcnaaGreatDoorP2
import Derived.Test.YtpibdohdkfkcnaaGreatDoorP3
import Derived.Test.YtpibdohdkfkcnaaGreatDoorP4
import Derived.Test.YtpibdohdkfkcnaaGreatDoorP5
import Derived.Test.YtpibdohdkfkcnaaGreatDoorP6
import Derived.Test.YtpibdohdkfkcnaaGreatDoorP7
set_option linter.unusedVariables false
set_option linter.unusedSimpArgs false
set_option maxRecDepth 100000
namespace Gx
open Go Go.Proofs Go.Shelf Go.RowKit Go.Lib
theorem Rd.upd {h h':Heap} {b g:Nat} {s:List UInt8} {i:Nat} (R:Rd h b s i) (u:Upd g h h') (hg:b≠g):Rd h' b s i:=⟨(u.ne b hg).trans R.blk,R.le,R.small⟩
theorem KED (s:List UInt8):∀d,d≤8→KQz s d
 |0,_=>fun i h Q b R he hb H1 H2=>by
  unfold J5
  refine ZV (fun h1 e1 hs1 g1=>iteT (by rfl) (Zv (WU (R.ext e1) (H2 i h1 rfl (Km.ext e1)))))
 |d+1,hd=>fun i h Q b R he hb H1 H2=>by
  have IH:=KED s d (by omega)
  unfold J5
  refine ZV (fun h1 e1 hs1 g1=>iteF (decide_eq_false (by omega)) ?_)
  have R1:=R.ext e1
  have hbl:=R.lt
  have he1:=he.ext e1
  have K1:Kb b h h1:=Km.ext e1
  have fin:∀(v:Vl) (cs:Array Value) (j:Nat) (h2:Heap),pval s (d+1) i=.ok (v,j)→Kb b h1 h2→Rd h2 b s j→JE (fun k=>h1.size≤k∧k<h2.size) h2 v cs→
    (M.need (cs.size=4)>>=fun _=>stG ⟨h.size,0,none⟩ cs>>=fun _=>ldG 4 ⟨h.size,0,none⟩>>=fun r=>(M.pure (.inr r):M (Value⊕Array Value))).wp h2 Q:=by
   intro v cs j h2 hv K2 R2 V2
   have g2:=K2.blk g1 (show ¬h.size=b by omega)
   refine KK8 g2 rfl V2.size V2.to.one (fun h3 u3=>H1 v j h3 cs hv ?_ (R2.upd u3 (by omega)) ?_)
   ·have:=K1.trans K2
    exact⟨by rw [u3.size];exact this.size,fun q hq hqb=>(u3.ne q (by omega)).trans (this.same q hq hqb)⟩
   ·have hu:=u3.size
    exact(V2.same (fun k hk=>u3.ne k (by omega))).mono (fun k hk=>⟨by omega,by omega⟩)
  have scal:∀{k n:Int} {t:List UInt8} {S:Nat→Prop} {h2:Heap},I64 k→I64 n→t.length≤1099511627776→JE S h2 (.mk k n t []) (UH k n t Sl.nil):=fun hk hn ht=>KAq _ _ hk hn (by omega)
  have hle:=R.le
  have hsm:=R.small
  rw [pval]at H1 H2 fin
  unfold J0
  refine KL (Vb R1 ?_)
  refine or_b (c:=digB (KV s i)) (fun _ Q' hq=>KL (KBO (KI hq))) ?_
  rw [u8_c (d:=45) (n:=45) rfl]
  refine KY (fun hc=>?_) (fun hc=>?_)
  ·have hc:KV s i=45∨digB (KV s i)=true:=by rwa [Bool.or_eq_true,decide_eq_true_iff]at hc
   rw [if_pos hc]at H1 H2 fin
   refine Zv (KC7 R1 he1 hb (fun n j h2 hn K2 R2=>?_) (fun e h2 hn K2=>H2 e h2 (by rw [hn]) (K1.trans K2)))
   refine KN7 (fun h3 e3=>fin (.mk 1 n [] []) _ j h3 (by rw [hn]) (K2.trans (Km.ext e3)) (R2.ext e3) (scal ⟨by decide,by decide⟩ (KC9 hn hle).1 (by decide)))
  have hc:¬(KV s i=45∨digB (KV s i)=true):=fun hh=>by
   rw [←decide_eq_true_iff (p:=KV s i=45),←Bool.or_eq_true,hc]at hh
   cases hh
  rw [if_neg hc]at H1 H2 fin
  rw [u8_c (d:=39) (n:=39) rfl]
  refine KY (fun hc=>?_) (fun hc=>?_)
  ·rw [if_pos (of_decide_eq_true hc)]at H1 H2 fin
   refine Zv (KMw R1 (fun t j h2 ht K2 R2=>?_) (fun e h2 ht K2=>H2 e h2 (by rw [ht]) (K1.trans K2)))
   refine KN8 (fun h3 e3=>fin (.mk 2 0 t []) _ j h3 (by rw [ht]) (K2.trans (Km.ext e3)) (R2.ext e3) (scal ⟨by decide,by decide⟩ ⟨by decide,by decide⟩ (by have:=(KHW ht).2.2;omega)))
  rw [if_neg (of_decide_eq_false hc)]at H1 H2 fin
  rw [u8_c (d:=116) (n:=116) rfl]
  refine KY (fun hc=>?_) (fun hc=>?_)
  ·rw [if_pos (of_decide_eq_true hc)]at H1 H2 fin
   refine Zv (Yv (lit:=[116,114,117,101]) R1 (by decide) (fun j h2 hj K2 R2=>?_) (fun e h2 hj K2=>H2 e h2 (by rw [hj]) (K1.trans K2)))
   refine KHY (fun h3 e3=>fin (.mk 3 1 [] []) _ j h3 (by rw [hj]) (K2.trans (Km.ext e3)) (R2.ext e3) (scal ⟨by decide,by decide⟩ ⟨by decide,by decide⟩ (by decide)))
  rw [if_neg (of_decide_eq_false hc)]at H1 H2 fin
  rw [u8_c (d:=102) (n:=102) rfl]
  refine KY (fun hc=>?_) (fun hc=>?_)
  ·rw [if_pos (of_decide_eq_true hc)]at H1 H2 fin
   refine Zv (Yv (lit:=[102,97,108,115,101]) R1 (by decide) (fun j h2 hj K2 R2=>?_) (fun e h2 hj K2=>H2 e h2 (by rw [hj]) (K1.trans K2)))
   refine KHY (fun h3 e3=>fin (.mk 3 0 [] []) _ j h3 (by rw [hj]) (K2.trans (Km.ext e3)) (R2.ext e3) (scal ⟨by decide,by decide⟩ ⟨by decide,by decide⟩ (by decide)))
  rw [if_neg (of_decide_eq_false hc)]at H1 H2 fin
  rw [u8_c (d:=118) (n:=118) rfl]
  refine KY (fun hc=>?_) (fun hc=>?_)
  ·have hcc:=of_decide_eq_true hc
   rw [if_pos hcc]at H1 H2 fin
   refine Zv (KGU (k:=6) R1 (Vi (by rw [hcc];decide)) he1 hb (fun n j h2 hn K2 R2=>fin _ _ j h2 hn K2 R2 ?_) (fun e h2 hn K2=>H2 e h2 hn (K1.trans K2)))
   obtain⟨n',hv,hn',_⟩:=qB hn
   cases hv
   exact scal ⟨by decide,by decide⟩ hn' (by decide)
  rw [if_neg (of_decide_eq_false hc)]at H1 H2 fin
  rw [u8_c (d:=101) (n:=101) rfl]
  refine KY (fun hc=>?_) (fun hc=>?_)
  ·have hcc:=of_decide_eq_true hc
   rw [if_pos hcc]at H1 H2 fin
   refine Zv (KGU (k:=7) R1 (Vi (by rw [hcc];decide)) he1 hb (fun n j h2 hn K2 R2=>fin _ _ j h2 hn K2 R2 ?_) (fun e h2 hn K2=>H2 e h2 hn (K1.trans K2)))
   obtain⟨n',hv,hn',_⟩:=qB hn
   cases hv
   exact scal ⟨by decide,by decide⟩ hn' (by decide)
  rw [if_neg (of_decide_eq_false hc)]at H1 H2 fin
  rw [u8_c (d:=91) (n:=91) rfl,show((9 - (d+1):Nat):Int)=((8 - d:Nat):Int) by omega]
  refine KY (fun hc=>?_) (fun hc=>?_)
  ·have hcc:=of_decide_eq_true hc
   rw [if_pos hcc]at H1 H2 fin
   refine Zv (zm (Xt _ _ _ _) (KGV (two:=false) (en:=93) (by omega) IH (by decide) R1 (Vi (by rw [hcc];decide)) he1 hb (fun l j h2 r hl K2 R2 V2=>?_) (fun e h2 hl K2=>H2 e h2 (by rw [hl]) (K1.trans K2))))
   exact fin (.mk 4 0 [] l) _ j h2 (by rw [hl]) K2 R2 (KFN ⟨by decide,by decide⟩ ⟨by decide,by decide⟩ V2)
  rw [if_neg (of_decide_eq_false hc)]at H1 H2 fin
  rw [u8_c (d:=123) (n:=123) rfl]
  refine KY (fun hc=>?_) (fun hc=>?_)
  ·have hcc:=of_decide_eq_true hc
   rw [if_pos hcc]at H1 H2 fin
   refine Zv (zm (Xt _ _ _ _) (KGV (two:=true) (en:=125) (by omega) IH (by decide) R1 (Vi (by rw [hcc];decide)) he1 hb (fun l j h2 r hl K2 R2 V2=>?_) (fun e h2 hl K2=>H2 e h2 (by rw [hl]) (K1.trans K2))))
   exact fin (.mk 5 0 [] l) _ j h2 (by rw [hl]) K2 R2 (KFN ⟨by decide,by decide⟩ ⟨by decide,by decide⟩ V2)
  rw [if_neg (of_decide_eq_false hc)]at H1 H2 fin
  exact Zv (WU R1 (H2 i h1 rfl K1))
def KBP (s:List UInt8):Except Nat Vl:=match pval s 8 0 with| .error e=>.error e| .ok (v,j)=>if j<s.length then .error j else .ok v
theorem KEE {h:Heap} {Q:Array Value×Int×Bool→Heap→Prop} {b2 b3 b4 e:Nat} {z2:Array Value} {v3 v4:Value} (g2:h[b2]?=some (.cells z2 KH (0,0))) (hz:z2.size=4) (g3:h[b3]?=some (.cells #[v3] VE (0,0))) (g4:h[b4]?=some (.cells #[v4] KCd (0,0))) (h23:b2≠b3) (h24:b2≠b4) (h34:b3≠b4)
  (H:∀h',h.size≤h'.size→(∀i,i<h.size→i≠b2→i≠b3→i≠b4→h'[i]?=h[i]?)→Q (vz,(e:Int),false) h'):(Gj ⟨b2,0,none⟩ ⟨b3,0,none⟩ ⟨b4,0,none⟩ (N1 e)>>=fun _=>NJ ⟨b2,0,none⟩ ⟨b3,0,none⟩ ⟨b4,0,none⟩).wp h Q:=by
 have l2:=JT g2
 have l3:=JT g3
 have l4:=JT g4
 unfold Gj
 refine⟨(e:Int),rfl,?_⟩
 refine KL (ZV (fun h1 e1 hs1 g1=>Zt rfl (stR g1 (Nat.le_refl 1) (by intro v hv;simp at hv;subst hv;rfl) (fun h2' u2 g2'=>?_))))
 rw [Kp (cs:=#[.int .i64 0]) (vs:=(#[.int .i64 (e:Int)]:Array Value).toList) rfl]at g2'
 unfold KIL
 refine ZC (n:=(e:Int)) (by rw [Ke,KP g2'];rfl) (Zt rfl ?_)
 have k2:h2'[b2]?=some (.cells z2 KH (0,0)):=(u2.ne b2 (by omega)).trans (e1.blk g2)
 refine stR k2 (by rw [hz];exact Nat.le_refl 4) (Zy 0 0 [] Sl.nil) (fun h3 u3 g3'=>?_)
 rw [Kp (cs:=z2) (vs:=(vz:Array Value).toList) (by rw [hz];rfl)]at g3'
 have kq:h3[h.size]?=some (.cells #[.int .i64 (e:Int)] JP (0,0)):=(u3.ne h.size (by omega)).trans g2'
 refine X5 (by rw [Ke,KP kq];rfl) ?_
 have k3:h3[b3]?=some (.cells #[v3] VE (0,0)):=(u3.ne b3 (by omega)).trans ((u2.ne b3 (by omega)).trans (e1.blk g3))
 refine Gu (x:=v3) (by rw [KP k3];rfl) (ZL k3) rfl ?_
 have g5:=Ul (o:=0) (v:=.int .i64 (e:Int)) k3
 have u5:=Upd.hset h3 b3 0 (.int .i64 (e:Int))
 generalize hset h3 ⟨b3,0,none⟩ (.int .i64 (e:Int))=h5 at g5 u5⊢
 have k4:h5[b4]?=some (.cells #[v4] KCd (0,0)):=(u5.ne b4 (by omega)).trans ((u3.ne b4 (by omega)).trans ((u2.ne b4 (by omega)).trans (e1.blk g4)))
 refine Gu (x:=v4) (by rw [KP k4];rfl) (ZL k4) rfl ?_
 have g6:=Ul (o:=0) (v:=.bool false) k4
 have u6:=Upd.hset h5 b4 0 (.bool false)
 generalize hset h5 ⟨b4,0,none⟩ (.bool false)=h6 at g6 u6⊢
 refine KI ?_
 unfold NJ
 have m2:h6[b2]?=some (.cells vz KH (0,0)):=(u6.ne b2 (by omega)).trans ((u5.ne b2 (by omega)).trans g3')
 have m3:h6[b3]?=some (.cells (#[v3].setIfInBounds 0 (.int .i64 (e:Int))) VE (0,0)):=(u6.ne b3 (by omega)).trans g5
 refine ldR m2 rfl (ZC (n:=(e:Int)) (by rw [KP m3];rfl) (KQS (n:=false) (by rw [KP g6];rfl) (KI (H _ ?_ ?_))))
 ·have a1:=u6.size;have a2:=u5.size;have a3:=u3.size;have a4:=u2.size;omega
 ·intro i hi n2 n3 n4
  rw [u6.ne i n4,u5.ne i n3,u3.ne i n2,u2.ne i (by omega)]
  exact e1.same i hi
theorem KLA {s:List UInt8} {h:Heap} {Q:Array Value×Int×Bool→Heap→Prop} (hs:s.length≤1099511627776) (he:ErrV h)
  (H1:∀v h' c,KBP s=.ok v→Ext h h'→JE (h.size≤·) h' v c→Q (c,0,true) h') (H2:∀e h',KBP s=.error e→Ext h h'→Q (vz,(e:Int),false) h'):(KPH (bs s)).wp h Q:=by
 unfold KPH
 refine ZV (fun h1 e1 s1 g1=>ZV (fun h2 e2 s2 g2=>ZV (fun h3 e3 s3 g3=>ZV (fun h4 e4 s4 g4=>?_))))
 obtain⟨t5,p5,hc5⟩:=id he
 have h5:gER<h.size:=XT hc5
 have R4:Rd h4 h3.size s 0:=⟨g4,Nat.zero_le _,hs⟩
 have E4:Ext h h4:=((e1.trans e2).trans e3).trans e4
 have b1:h4[h.size]?=some (.cells vz KH (0,0)):=((e2.trans e3).trans e4).blk g1
 have b2:h4[h1.size]?=some (.cells #[.int .i64 0] VE (0,0)):=(e3.trans e4).blk g2
 have b3:h4[h2.size]?=some (.cells #[.bool false] KCd (0,0)):=e4.blk g3
 refine KL (KED s 8 (Nat.le_refl _) 0 h4 _ h3.size R4 (he.ext E4) (by omega) (fun v j h6 c hv K6 R6 V6=>?_) (fun e h6 hv K6=>?_))
 ·have c1:=K6.blk b1 (show ¬h.size=h3.size by omega)
  have c2:=K6.blk b2 (show ¬h1.size=h3.size by omega)
  have c3:=K6.blk b3 (show ¬h2.size=h3.size by omega)
  have hs6:=K6.size
  refine Zt V6.size (stR c1 (by rw [V6.size];exact Nat.le_refl 4) V6.to.one (fun h7 u7 g7=>?_))
  rw [Kp (cs:=vz) (vs:=c.toList) (by rw [Array.length_toList,V6.size];rfl)]at g7
  have hs7:=u7.size
  have R7:=R6.upd u7 (show h3.size≠h.size by omega)
  refine KB4 R7 ?_
  rw [Zc]
  refine KY (fun hlt=>?_) (fun hge=>?_)
  ·have hlt:j<s.length:=by have:=of_decide_eq_true hlt;omega
   refine KL (WU R7 ?_)
   refine KEE g7 V6.size ((u7.ne _ (by omega)).trans c2) ((u7.ne _ (by omega)).trans c3) (by omega) (by omega) (by omega) (fun h8 s8 same8=>H2 j h8 ?_ ⟨by omega,fun i hi=>?_⟩)
   ·unfold KBP;rw [hv];dsimp only;rw [if_pos hlt]
   ·rw [same8 i (by omega) (by omega) (by omega) (by omega),u7.ne i (by omega),K6.same i (by omega) (by omega)]
    exact E4.same i hi
  ·have hge:¬j<s.length:=by have:=of_decide_eq_false hge;omega
   unfold KFL
   refine ldR g7 V6.size (Zt V6.size (stR g7 (by rw [V6.size];exact Nat.le_refl 4) V6.to.one (fun h8 u8 g8=>?_)))
   rw [Kp (cs:=c) (vs:=c.toList) (by rw [Array.length_toList])]at g8
   have d2:h8[h1.size]?=some (.cells #[.int .i64 0] VE (0,0)):=(u8.ne _ (by omega)).trans ((u7.ne _ (by omega)).trans c2)
   refine Gu (x:=.int .i64 0) (by rw [KP d2];rfl) (ZL d2) rfl ?_
   have g9:=Ul (o:=0) (v:=.int .i64 0) d2
   have u9:=Upd.hset h8 h1.size 0 (.int .i64 0)
   generalize hset h8 ⟨h1.size,0,none⟩ (.int .i64 0)=h9 at g9 u9⊢
   have d3:h9[h2.size]?=some (.cells #[.bool false] KCd (0,0)):=(u9.ne _ (by omega)).trans ((u8.ne _ (by omega)).trans ((u7.ne _ (by omega)).trans c3))
   refine Gu (x:=.bool false) (by rw [KP d3];rfl) (ZL d3) rfl ?_
   have g10:=Ul (o:=0) (v:=.bool true) d3
   have u10:=Upd.hset h9 h2.size 0 (.bool true)
   generalize hset h9 ⟨h2.size,0,none⟩ (.bool true)=h10 at g10 u10⊢
   unfold NJ
   have m1:h10[h.size]?=some (.cells c KH (0,0)):=(u10.ne _ (by omega)).trans ((u9.ne _ (by omega)).trans g8)
   have m2:=(u10.ne h1.size (by omega)).trans g9
   refine ldR m1 V6.size (ZC (n:=0) (by rw [KP m2];rfl) (KQS (n:=true) (by rw [KP g10];rfl) (KI (H1 v _ c ?_ ⟨?_,fun i hi=>?_⟩ ?_))))
   ·unfold KBP;rw [hv];dsimp only;rw [if_neg hge]
   ·have a1:=u10.size;have a2:=u9.size;have a3:=u8.size;omega
   ·rw [u10.ne i (by omega),u9.ne i (by omega),u8.ne i (by omega),u7.ne i (by omega),K6.same i (by omega) (by omega)]
    exact E4.same i hi
   ·refine(V6.same (fun k hk=>?_)).mono (fun k hk=>by have:=hk.1;omega)
    have:=hk.1
    rw [u10.ne k (by omega),u9.ne k (by omega),u8.ne k (by omega),u7.ne k (by omega)]
 ·have c1:=K6.blk b1 (show ¬h.size=h3.size by omega)
  have c2:=K6.blk b2 (show ¬h1.size=h3.size by omega)
  have c3:=K6.blk b3 (show ¬h2.size=h3.size by omega)
  have hs6:=K6.size
  refine KEE c1 rfl c2 c3 (by omega) (by omega) (by omega) (fun h8 s8 same8=>H2 e h8 ?_ ⟨by omega,fun i hi=>?_⟩)
  ·unfold KBP;rw [hv]
  ·rw [same8 i (by omega) (by omega) (by omega) (by omega),K6.same i (by omega) (by omega)]
   exact E4.same i hi
def J1 (s:List UInt8):Vl×Nat×Int:=match KBP s with| .error e=>(vl0,e,22)| .ok v=>if mayV 8 v=true then(v,0,0)else(vl0,0,20)
theorem KDA {s:List UInt8} {h:Heap} {Q:Array Value×Int×Int→Heap→Prop} (hs:s.length≤1099511627776) (he:ErrV h)
  (H:∀h' c,Ext h h'→JE (h.size≤·) h' (J1 s).1 c→Q (c,((J1 s).2.1:Int),(J1 s).2.2) h'):(YS (bs s)).wp h Q:=by
 unfold YS
 refine ZV (fun h1 e1 s1 g1=>?_)
 refine KL (GI (KQv _) (KLA hs (he.ext e1) (fun v h2 c hv e2 V2=>?_) (fun e h2 hv e2=>?_)))
 ·refine ZV (fun h3 e3 s3 g3=>Zt V2.size (stR g3 (by rw [V2.size];exact Nat.le_refl 4) V2.to.one (fun h4 u4 g4=>?_)))
  rw [Kp (cs:=vz) (vs:=c.toList) (by rw [Array.length_toList,V2.size];rfl)]at g4
  have E4:Ext h h4:=((e1.trans e2).trans e3).upd u4 (by have:=e1.size;have:=e2.size;omega)
  have V4:JE (fun k=>h1.size≤k∧k<h2.size) h4 v c:=((V2.lt2).same (fun k hk=>(u4.ne k (by omega)).trans (e3.same k hk.2)))
  refine iteF rfl (ldR g4 V2.size (KL (KC2 V4.to (fun h5 e5=>?_))))
  have g5:h5[h.size]?=some (.cells vz KH (0,0)):=e5.blk ((u4.ne _ (by have:=e2.size;omega)).trans ((e2.trans e3).blk g1))
  have gc5:=e5.blk g4
  unfold KBj
  by_cases hm:mayV 8 v=true
  ·rw [if_pos hm]
   have hP:J1 s=(v,0,0):=by unfold J1;rw [hv];dsimp only;rw [if_pos hm]
   rw [hP]at H
   refine iteF rfl (ldR gc5 V2.size (Zt V2.size (stR g5 (by rw [V2.size];exact Nat.le_refl 4) V2.to.one (fun h6 u6 g6=>?_))))
   rw [Kp (cs:=vz) (vs:=c.toList) (by rw [Array.length_toList,V2.size];rfl)]at g6
   refine ldR g6 V2.size (KI (H h6 c ((E4.trans e5).upd u6 (Nat.le_refl _)) ?_))
   have hs2:=e2.size
   have hs3:=e3.size
   have hu4:=u4.size
   exact(V4.same (fun k hk=>(u6.ne k (by omega)).trans (e5.same k (by omega)))).mono (fun k hk=>by have:=hk.1;omega)
  ·rw [if_neg hm]
   have hP:J1 s=(vl0,0,20):=by unfold J1;rw [hv];dsimp only;rw [if_neg hm]
   rw [hP]at H
   refine iteT rfl (Zt rfl (stR g5 (Nat.le_refl 4) (Zy 0 0 [] Sl.nil) (fun h6 u6 g6=>?_)))
   rw [Kp (cs:=vz) (vs:=(vz:Array Value).toList) rfl]at g6
   exact ldR g6 rfl (KI (H h6 _ ((E4.trans e5).upd u6 (Nat.le_refl _)) (KHT _ _)))
 ·have hP:J1 s=(vl0,e,22):=by unfold J1;rw [hv]
  rw [hP]at H
  refine ZV (fun h3 e3 s3 g3=>Zt rfl (stR g3 (Nat.le_refl 4) (Zy 0 0 [] Sl.nil) (fun h4 u4 g4=>?_)))
  have E4:Ext h h4:=((e1.trans e2).trans e3).upd u4 (by have:=e1.size;have:=e2.size;omega)
  have g5:h4[h.size]?=some (.cells vz KH (0,0)):=(u4.ne _ (by have:=e2.size;omega)).trans ((e2.trans e3).blk g1)
  refine iteT rfl (Zt rfl (stR g5 (Nat.le_refl 4) (Zy 0 0 [] Sl.nil) (fun h6 u6 g6=>?_)))
  rw [Kp (cs:=vz) (vs:=(vz:Array Value).toList) rfl]at g6
  exact ldR g6 rfl (KI (H h6 _ (E4.upd u6 (Nat.le_refl _)) (KHT _ _)))
end Gx
namespace Gx
open Go
def KT (h:Heap) (r:Sl) (e:TypeId):Prop:=∀g,r.base=some ⟨g,0,none⟩→∃c z,h[g]?=some (.cells c e z)
theorem KT.same {h h':Heap} {r:Sl} {e:TypeId} (k:KT h r e) (hs:∀i,Sl.on r i→h'[i]?=h[i]?):KT h' r e:=fun g hg=>by
 obtain⟨c,z,hh⟩:=k g hg
 exact⟨c,z,(hs g ⟨_,hg,rfl⟩).trans hh⟩
structure Bld (lo:Nat) (h:Heap) (b:Nat) (r:Sl) (l:List UInt8):Prop where
 low:lo≤b
 ptr:∃p,h[b]?=some (.cells #[p,r.v] KAG (0,0))∧(p=.pointer none∨p=.pointer (some ⟨b,0,none⟩))
 row:Gw lo h r 1 (l.map bv)
 off:¬Sl.on r b
 nz:r.cap=0→r=Sl.nil
 kt:KT h r ZJ
theorem Bld.len {lo:Nat} {h:Heap} {b:Nat} {r:Sl} {l:List UInt8} (B:Bld lo h b r l):r.len=l.length:=by
 have:=B.row.len
 simp at this
 exact this.symm
theorem Bld.lt {lo:Nat} {h:Heap} {b:Nat} {r:Sl} {l:List UInt8} (B:Bld lo h b r l):b<h.size:=by
 obtain⟨p,h1,_⟩:=B.ptr
 exact JT h1
theorem Bld.ext {lo:Nat} {h h':Heap} {b:Nat} {r:Sl} {l:List UInt8} (B:Bld lo h b r l) (e:Ext h h'):Bld lo h' b r l:=by
 obtain⟨p,h1,h2⟩:=B.ptr
 exact⟨B.low,⟨p,e.blk h1,h2⟩,B.row.ext e,B.off,B.nz,B.kt.same (fun i hi=>e.same i (B.row.lt hi).1)⟩
structure BKeep (b:Nat) (r r':Sl) (h h':Heap):Prop where
 size:h.size≤h'.size
 same:∀i,i<h.size→i≠b→¬Sl.on r i→h'[i]?=h[i]?
 on_:∀i,Sl.on r' i→Sl.on r i∨h.size≤i
theorem BKeep.refl (b:Nat) (r:Sl) (h:Heap):BKeep b r r h h:=⟨Nat.le_refl _,fun _ _ _ _=>rfl,fun _ h=>.inl h⟩
theorem BKeep.trans {b:Nat} {r r' r'':Sl} {h h' h'':Heap} (k:BKeep b r r' h h') (k':BKeep b r' r'' h' h'') (hb:b<h.size):BKeep b r r'' h h'':=
 ⟨Nat.le_trans k.size k'.size,fun i hi hne hno=>(k'.same i (Nat.lt_of_lt_of_le hi k.size) hne (fun ho=>(k.on_ i ho).elim hno (fun h=>by omega))).trans (k.same i hi hne hno),
  fun i hi=>(k'.on_ i hi).elim (fun h=>k.on_ i h) (fun h=>.inr (Nat.le_trans k.size h))⟩
theorem BKeep.ext {lo:Nat} {b:Nat} {r r':Sl} {h0 h h':Heap} {l:List UInt8} (e:Ext h0 h) (B:Bld lo h b r l) (hl:h0.size≤lo) (k:BKeep b r r' h h'):Ext h0 h':=
 ⟨Nat.le_trans e.size k.size,fun i hi=>(k.same i (Nat.lt_of_lt_of_le hi e.size) (by have:=B.low;omega) (fun ho=>by have:=(B.row.lt ho).2;omega)).trans (e.same i hi)⟩
theorem BKeep.push {b:Nat} {r r':Sl} {h h' h'':Heap} (k:BKeep b r r' h h') (e:Ext h' h''):BKeep b r r' h h'':=
 ⟨Nat.le_trans k.size e.size,fun i hi h1 h2=>(e.same i (Nat.lt_of_lt_of_le hi k.size)).trans (k.same i hi h1 h2),k.on_⟩
end Gx
namespace Gx
open Go Go.Proofs Go.Shelf Go.RowKit Go.Lib
theorem KR1 {β:Type} {c d:Prop} [Decidable c] [Decidable d] {h:Heap} {Q:β→Heap→Prop} {f:Bool→M β} (H:(f (decide (c∨d))).wp h Q):(M.ite (decide c) (M.pure true) (M.pure (decide d))>>=f).wp h Q:=by
 refine KKQ (fun hc=>ZM ?_) (fun hc=>ZM ?_)
 ·have hc:=of_decide_eq_true hc
  rwa [show true=decide (c∨d)from(decide_eq_true (Or.inl hc)).symm]
 ·have hc:=of_decide_eq_false hc
  rwa [show decide d=decide (c∨d)from decide_eq_decide.2 ⟨Or.inr,fun h=>h.resolve_left hc⟩]
def NCS:List UInt8:=[97,98,99,100,101,102,103,104,105,106,107,108,109,110,111,112,113,114,115,116,117,118,119,120,121,122,65,66,67,68,69,70,71,72,73,74,75,76,77,78,79,80,81,82,83,84,85,86,87,88,89,90,48,49,50,51,52,53,54,55,56,57,95]
def isLt (n:Nat):Bool:=decide ((n=95∨(97≤n∧n≤122))∨(65≤n∧n≤90))
def isDg (n:Nat):Bool:=decide (48≤n∧n≤57)
def KDB:List UInt8→Bool
 | []=>false
 |c::r=>decide ((c::r).length≤24)&&isLt c.toNat&&(c::r).all (fun d=>isLt d.toNat||isDg d.toNat)
theorem Gk (c:UInt8) (r:List UInt8):KDB (c::r)=(decide ((c::r).length≤24)&&isLt c.toNat&&(c::r).all (fun d=>isLt d.toNat||isDg d.toNat)):=rfl
theorem KLB:∀c:UInt8,NCS.contains c=(isLt c.toNat||isDg c.toNat):=by
 intro c
 have hk:∀n,n<256→NCS.contains (UInt8.ofNat n)=(isLt n||isDg n):=by decide+kernel
 have:=hk c.toNat c.toNat_lt
 rwa [UInt8.ofNat_toNat]at this
theorem KN9 {p:UInt8→Bool}:∀{l:List UInt8},(∀x∈l.dropWhile p,p x=true)→∀x∈l,p x=true
 | [],_,x,hx=>by cases hx
 |a::l,h,x,hx=>by
  by_cases ha:p a=true
  ·rw [List.dropWhile_cons_of_pos ha]at h
   rcases List.mem_cons.1 hx with rfl|hx
   ·exact ha
   ·exact KN9 h x hx
  ·rw [List.dropWhile_cons_of_neg ha]at h
   exact absurd (h a List.mem_cons_self) ha
theorem KQ0 {p:UInt8→Bool} {l:List UInt8}:(l.dropWhile p=[]↔∀x∈l,p x=true):=by
 induction l with
 |nil=>simp
 |cons a l ih=>
  by_cases ha:p a=true
  ·rw [List.dropWhile_cons_of_pos ha,ih]
   constructor
   ·intro h x hx
    rcases List.mem_cons.1 hx with rfl|hx
    ·exact ha
    ·exact h x hx
   ·intro h x hx
    exact h x (List.mem_cons_of_mem _ hx)
  ·rw [List.dropWhile_cons_of_neg ha]
   constructor
   ·intro h;cases h
   ·intro h
    exact absurd (h a List.mem_cons_self) ha
theorem KMy (l cs:List UInt8):(Lib.trimS l cs=[]↔∀x∈l,cs.contains x=true):=by
 unfold Lib.trimS Lib.trimLeftS Lib.trimRightS
 rw [KQ0]
 constructor
 ·intro h x hx
  exact KN9 (l:=l.reverse) (p:=(cs.contains ·)) (fun y hy=>h y (List.mem_reverse.2 hy)) x (List.mem_reverse.2 hx)
 ·intro h x hx
  have h1:=List.mem_reverse.1 hx
  exact h x (List.mem_reverse.1 ((List.dropWhile_sublist _).mem h1))
theorem KPL {s:List UInt8} {h:Heap} {Q:Bool→Heap→Prop} (h0:0<s.length) (h1:s.length≤24) (H:∀h',Ext h h'→Q (s.all (fun d=>isLt d.toNat||isDg d.toNat)) h'):
  (Wh (bs s) (⟨#[97,98,99,100,101,102,103,104,105,106,107,108,109,110,111,112,113,114,115,116,117,118,119,120,121,122,65,66,67,68,69,70,71,72,73,74,75,76,77,78,79,80,81,82,83,84,85,86,87,88,89,90,48,49,50,51,52,53,54,55,56,57,95]⟩:ByteArray)>>=fun x=>(M.pure (sEq x ByteArray.empty):M Bool)).wp h Q:=by
 refine KL (show(Wh _ _).wp h _ from⟨by decide,by decide,by rw [Zc];exact h0,by rw [Zc];omega,?_,fun h' a b=>KI ?_⟩)
 ·exact ascii_of_all (l:=NCS) (by decide+kernel)
 ·have hs:(bs s).data.toList=s:=by simp [bs]
  have hc:((⟨#[97,98,99,100,101,102,103,104,105,106,107,108,109,110,111,112,113,114,115,116,117,118,119,120,121,122,65,66,67,68,69,70,71,72,73,74,75,76,77,78,79,80,81,82,83,84,85,86,87,88,89,90,48,49,50,51,52,53,54,55,56,57,95]⟩:ByteArray)).data.toList=NCS:=rfl
  rw [hs,hc]
  have:=H h' ⟨a,b⟩
  rw [show(⟨(Lib.trimS s NCS).toArray⟩:ByteArray)=bs (Lib.trimS s NCS)from rfl,sEq0]
  have e:decide (Lib.trimS s NCS=[])=s.all (fun d=>isLt d.toNat||isDg d.toNat):=by
   rw [Bool.eq_iff_iff,decide_eq_true_iff,KMy,List.all_eq_true]
   exact⟨fun h x hx=>by rw [←KLB];exact h x hx,fun h x hx=>by rw [KLB];exact h x hx⟩
  rw [e];exact this
theorem KEF {s:List UInt8} {h:Heap} {Q:Bool→Heap→Prop} (H:∀h',Ext h h'→Q (KDB s) h'):(XY (bs s)).wp h Q:=by
 unfold XY
 rw [sEq0,Zc]
 refine KR1 ?_
 cases s with
 |nil=>
  rw [decide_eq_true (show([]:List UInt8)=[]∨((([]:List UInt8).length:Int)>24)from .inl rfl)]
  exact Y9 rfl (ZM (iteT rfl (KI (H _ (Ext.refl _)))))
 |cons c r=>
  by_cases hl:(c::r).length≤24
  ·rw [decide_eq_false (show ¬(c::r=[]∨(((c::r).length:Int)>24))from fun h=>by rcases h with h|h;cases h;omega)]
   refine NQ rfl (Kf (NI (i:=0) rfl (by simp) ?_))
   rw [show(c::r)[0]=c from rfl]
   have key:∀b:Bool,b=isDg c.toNat→((M.ite b (M.pure false) (Wh (bs (c::r)) (⟨#[97,98,99,100,101,102,103,104,105,106,107,108,109,110,111,112,113,114,115,116,117,118,119,120,121,122,65,66,67,68,69,70,71,72,73,74,75,76,77,78,79,80,81,82,83,84,85,86,87,88,89,90,48,49,50,51,52,53,54,55,56,57,95]⟩:ByteArray)>>=fun x=>M.pure (sEq x ByteArray.empty)):M Bool)).wp h Q:=by
    intro b hb
    simp only [Gk]at H
    rw [decide_eq_true hl]at H
    simp only [Bool.true_and]at H
    by_cases hd:isDg c.toNat=true
    ·refine iteT (hb.trans hd) (KI ?_)
     have:=H h (Ext.refl _)
     rw [show isLt c.toNat=false by unfold isDg at hd;unfold isLt;have:=of_decide_eq_true hd;exact decide_eq_false (by omega),Bool.false_and]at this
     exact this
    ·refine iteF (hb.trans (by simpa using hd)) (KPL (by simp) hl (fun h' e=>?_))
     have:=H h' e
     by_cases hlt:isLt c.toNat=true
     ·rw [hlt,Bool.true_and]at this;exact this
     ·have h1:isLt c.toNat=false:=by simpa using hlt
      have h2:isDg c.toNat=false:=by simpa using hd
      rw [h1,Bool.false_and]at this
      rw [List.all_cons,h1,h2,Bool.or_false,Bool.false_and]
      exact this
   by_cases hge:(c.toNat:Int)≥48
   ·refine Kf (Y9 (decide_eq_true hge) (Kf (NI (i:=0) rfl (by simp) (ZM (ZM (key _ ?_))))))
    rw [show(c::r)[0]=c from rfl]
    unfold isDg
    exact decide_eq_decide.2 (by omega)
   ·refine Kf (NQ (decide_eq_false hge) (ZM (ZM (key _ ?_))))
    unfold isDg
    exact(decide_eq_false (by omega)).symm
  ·rw [decide_eq_true (show(c::r=[]∨(((c::r).length:Int)>24))from .inr (by omega))]
   refine Y9 rfl (ZM (iteT rfl (KI ?_)))
   have:=H _ (Ext.refl _)
   rw [Gk,decide_eq_false hl]at this
   exact this
end Gx
namespace Gx
open Go
theorem KQ1 {s:List UInt8} {a b:Nat}:(bs s).extract a b=bs ((s.drop a).take (b - a)):=by
 apply ByteArray.ext
 simp [bs,ByteArray.extract,ByteArray.copySlice]
theorem KHZ {β:Type} {h:Heap} {Q:β→Heap→Prop} {s:List UInt8} {a b:Nat} {lo hi:Int} {f:ByteArray→M β} (hl:lo=(a:Int)) (hh:hi=(b:Int)) (h1:a≤b) (h2:b≤s.length) (H:(f (bs ((s.drop a).take (b - a)))).wp h Q):(slS (bs s) lo hi>>=f).wp h Q:=by
 subst hl;subst hh
 exact⟨bs ((s.drop a).take (b - a)),⟨by omega,by omega,by rw [Zc];omega,by rw [show((a:Int)).toNat=a from rfl,show((b:Int)).toNat=b from rfl,KQ1]⟩,H⟩
end Gx
namespace Gx
open Go
def KMz:List UInt8:=[46,40,41,44,91,93,123,125,58,61,59]
def Xw (c:UInt8):Bool:=KMz.contains c
def letB (c:UInt8):Bool:=isLt c.toNat
def N2 (c:UInt8):Bool:=isLt c.toNat||isDg c.toNat
def V9 (s:List UInt8):Nat:=(s.takeWhile N2).length
theorem KAr (s:List UInt8):V9 s≤s.length:=List.Sublist.length_le (List.takeWhile_sublist _)
theorem KHa (c:UInt8) (s:List UInt8):V9 (c::s)=if N2 c=true then V9 s+1 else 0:=by
 unfold V9
 by_cases h:N2 c=true
 ·rw [List.takeWhile_cons_of_pos h,if_pos h,List.length_cons]
 ·rw [List.takeWhile_cons_of_neg h,if_neg h];rfl
def Y7 (s:List UInt8):Nat→Nat→Nat
 |0,_=>0
 |f+1,i=>if i<s.length then(if KV s i=92 then Y7 s f (i+2)else if KV s i=39 then i+1 else Y7 s f (i+1))else 0
def GN (s:List UInt8):Nat:=Y7 s (s.length+1) 1
theorem qC (s:List UInt8):∀f i,Y7 s f i≤s.length
 |0,_=>Nat.zero_le _
 |f+1,i=>by
  rw [Y7]
  split
  ·split
   ·exact qC s f _
   ·split
    ·omega
    ·exact qC s f _
  ·exact Nat.zero_le _
theorem KPM {s:List UInt8} {i:Nat} (hi:i<s.length):KV s i=s[i]:=by
 unfold KV;rw [List.getElem?_eq_getElem hi];rfl
theorem KM0:∀c:UInt8,decide (Lib.indexByte KMz c≥0)=Xw c:=by
 intro c
 have hk:∀n,n<256→decide (Lib.indexByte KMz (UInt8.ofNat n)≥0)=Xw (UInt8.ofNat n):=by decide+kernel
 have:=hk c.toNat c.toNat_lt
 rwa [UInt8.ofNat_toNat]at this
theorem KDC {c:UInt8} {h:Heap} {Q:Bool→Heap→Prop} (H:Q (Xw c) h):(XZ (c.toNat:Int)).wp h Q:=by
 unfold XZ JG Zf
 refine KL (KI (KI ?_))
 rw [show((c.toNat:Int)).toNat.toUInt8=c by simp,show(⟨#[46,40,41,44,91,93,123,125,58,61,59]⟩:ByteArray).data.toList=KMz from rfl,KM0]
 exact H
theorem KAs {c:UInt8} {h:Heap} {Q:Bool→Heap→Prop} (H:Q (letB c) h):(Wj (c.toNat:Int)).wp h Q:=by
 unfold Wj
 refine Wf (c:=decide ((c.toNat:Int)≤122)) (fun _ Q' hq=>KI hq) ?_
 refine or_b (c:=decide ((c.toNat:Int)≥65)&&decide ((c.toNat:Int)≤90)) (fun _ Q' hq=>Wf (c:=decide ((c.toNat:Int)≤90)) (fun _ Q'' hq2=>KI hq2) (KI hq)) ?_
 refine or_b (c:=decide ((c.toNat:Int)=95)) (fun _ Q' hq=>KI (by rw [eqI];exact hq)) (KI ?_)
 have:(decide ((c.toNat:Int)≥97)&&decide ((c.toNat:Int)≤122)||(decide ((c.toNat:Int)≥65)&&decide ((c.toNat:Int)≤90))||decide ((c.toNat:Int)=95))=letB c:=by
  unfold letB isLt
  rw [←Bool.decide_and,←Bool.decide_and,←Bool.decide_or,←Bool.decide_or]
  exact decide_eq_decide.2 (by omega)
 rw [this]
 exact H
theorem KHb {c:UInt8} {h:Heap} {Q:Bool→Heap→Prop} (H:Q (N2 c) h):(Ge (c.toNat:Int)).wp h Q:=by
 unfold Ge
 refine KL (KAs ?_)
 refine or_b (c:=decide ((c.toNat:Int)≥48)&&decide ((c.toNat:Int)≤57)) (fun _ Q' hq=>Wf (c:=decide ((c.toNat:Int)≤57)) (fun _ Q'' hq2=>KI hq2) (KI hq)) (KI ?_)
 have:(letB c||(decide ((c.toNat:Int)≥48)&&decide ((c.toNat:Int)≤57)))=N2 c:=by
  unfold letB N2 isDg
  rw [←Bool.decide_and]
  congr 1
  exact decide_eq_decide.2 (by omega)
 rw [this]
 exact H
theorem KBQ {s:List UInt8} {a:Nat} {t:Int} {h:Heap} {Q:Int→Heap→Prop} (ht:t=(a:Int)) (ha:a≤s.length) (hs:s.length≤1099511627776) (H:Q (V9 (s.drop a):Int) h):(Xp (bs s) t).wp h Q:=by
 subst ht
 unfold Xp
 refine M.loop_inv (fun(z:Int) hh=>∃i:Nat,z=(i:Int)∧hh=h∧a≤i∧i≤s.length∧V9 (s.drop a)=(i - a)+V9 (s.drop i)) (fun z _=>((s.length:Int) - z).toNat) ?_ ⟨a,rfl,rfl,Nat.le_refl _,ha,by omega⟩
 rintro z hh ⟨i,rfl,rfl,hai,hi,hw⟩ self hself
 unfold Nu
 rw [Zc]
 by_cases hlt:i<s.length
 ·refine Y9 (decide_eq_true (by omega)) (Kf (NI (i:=i) rfl hlt (Kf (KL (KHb (ZM ?_))))))
  rw [List.drop_eq_getElem_cons hlt,KHa]at hw
  refine KY (fun hc=>?_) (fun hc=>KI ?_)
  ·rw [if_pos hc]at hw
   rw [w64 (by omega) (by omega)]
   exact hself _ _ ⟨i+1,by simp,rfl,by omega,hlt,by omega⟩ (by omega)
  ·rw [if_neg (by rw [hc];decide)]at hw
   rw [w64 (by omega) (by omega),show(i:Int) - (a:Int)=(V9 (s.drop a):Int) by omega]
   exact H
 ·refine NQ (decide_eq_false (by omega)) (ZM (iteF rfl (KI ?_)))
  have hi':i=s.length:=by omega
  subst hi'
  rw [List.drop_length]at hw
  have hw:V9 (s.drop a)=(s.length - a):=hw
  rw [w64 (by omega) (by omega),show(s.length:Int) - (a:Int)=(V9 (s.drop a):Int) by omega]
  exact H
theorem KHc {s:List UInt8} {h:Heap} {Q:Int→Heap→Prop} (hs:s.length≤1099511627776) (H:Q (GN s:Int) h):(Gf (bs s)).wp h Q:=by
 unfold Gf
 refine M.loop_inv (fun(z:Int) hh=>∃i f:Nat,z=(i:Int)∧hh=h∧i≤s.length+2∧s.length≤f+i∧GN s=Y7 s (f+1) i) (fun z _=>((s.length:Int)+3 - z).toNat) ?_ ⟨1,s.length,rfl,rfl,by omega,by omega,rfl⟩
 rintro z hh ⟨i,f,rfl,rfl,hi,hf,hc⟩ self hself
 unfold NF
 dsimp only
 rw [Zc]
 rw [Y7]at hc
 refine KY (fun hlt=>?_) (fun hge=>KI ?_)
 ·have hlt:i<s.length:=by have:=of_decide_eq_true hlt;omega
  rw [if_pos hlt,KPM hlt]at hc
  obtain⟨f,rfl⟩:∃g,f=g+1:=⟨f - 1,by omega⟩
  refine NI (i:=i) rfl hlt ?_
  rw [u8_c (d:=92) (n:=92) rfl,u8_c (d:=39) (n:=39) rfl]
  unfold XQ
  refine KY (fun h1=>?_) (fun h1=>KY (fun h2=>KI ?_) (fun h2=>?_))
  ·rw [if_pos (of_decide_eq_true h1)]at hc
   rw [show IntKind.wrap .i64 ((i:Int)+1)=(i:Int)+1 from w64 (by omega) (by omega),w64 (by omega) (by omega)]
   exact hself _ _ ⟨i+2,f,by push_cast;omega,rfl,by omega,by omega,hc⟩ (by omega)
  ·rw [if_neg (of_decide_eq_false h1),if_pos (of_decide_eq_true h2)]at hc
   rw [w64 (by omega) (by omega),show(i:Int)+1=(GN s:Int) by rw [hc];rfl]
   exact H
  ·rw [if_neg (of_decide_eq_false h1),if_neg (of_decide_eq_false h2)]at hc
   rw [w64 (by omega) (by omega)]
   exact hself _ _ ⟨i+1,f,by simp,rfl,by omega,by omega,hc⟩ (by omega)
 ·rw [if_neg (by have:=of_decide_eq_false hge;omega)]at hc
  rw [hc]at H
  exact H
structure Tkn where
 k:Int
 s:List UInt8
 n:Int
 a:Int
def Tkn.cells (t:Tkn):Array Value:=#[.int .i64 t.k,.string (bs t.s),.int .i64 t.n,.int .i64 t.a]
def tkn0:Tkn:=⟨0,[],0,0⟩
def oneW (er kk k:Int) (t:Tkn) (n:Nat):Tkn×Nat:=if er≠0∨kk≠k then(tkn0,0)else(t,n)
def oneV (k:Int) (s:List UInt8) (n:Nat) (t:Vl→Tkn):Tkn×Nat:=oneW (J1 (s.take n)).2.2 (J1 (s.take n)).1.k k (t (J1 (s.take n)).1) n
def oneP:List UInt8→Tkn×Nat
 | []=>(tkn0,0)
 |c::r=>
  if Xw c=true then(⟨4,[c],0,0⟩,1)else if letB c=true then(⟨1,(c::r).take (V9 (c::r)),0,0⟩,V9 (c::r))
  else if c=39 then oneV 2 (c::r) (GN (c::r)) (fun v=>⟨3,v.s,0,0⟩)
  else oneV 1 (c::r) (if c=45 then 1+V9 r else V9 (c::r)) (fun v=>⟨2,[],v.n,0⟩)
theorem W3 (c:UInt8) (r:List UInt8):oneP (c::r)=(if Xw c=true then(⟨4,[c],0,0⟩,1)else if letB c=true then(⟨1,(c::r).take (V9 (c::r)),0,0⟩,V9 (c::r))
  else if c=39 then oneV 2 (c::r) (GN (c::r)) (fun v=>⟨3,v.s,0,0⟩)
  else oneV 1 (c::r) (if c=45 then 1+V9 r else V9 (c::r)) (fun v=>⟨2,[],v.n,0⟩)):=rfl
end Gx
namespace Gx
open Go
theorem XU (t:Tkn):∀u∈t.cells.toList,one u=true:=by
 intro u hu
 simp only [Tkn.cells,List.mem_cons,List.not_mem_nil,or_false]at hu
 rcases hu with rfl|rfl|rfl|rfl<;>rfl
theorem qt {β:Type} {h:Heap} {Q:β→Heap→Prop} {b:Nat} {t0 t:Tkn} {ty:TypeId} {f:Array Value→M β} (g:h[b]?=some (.cells t0.cells ty (0,0)))
  (H:∀h',Upd b h h'→(f t.cells).wp h' Q):(M.need (t.cells.size=4)>>=fun _=>stG ⟨b,0,none⟩ t.cells>>=fun _=>ldG 4 ⟨b,0,none⟩>>=f).wp h Q:=by
 refine Zt rfl (stR g (Nat.le_refl 4) (XU t) (fun h' u g'=>?_))
 rw [Kp (cs:=t0.cells) (vs:=t.cells.toList) rfl,Array.toArray_toList]at g'
 exact ldR g' rfl (H h' u)
theorem KGW {s:List UInt8} {n:Nat} {b:Nat} {h h0:Heap} {Q:Array Value×Int→Heap→Prop} {t:Int} (ht:t=(n:Int)) (hn:n≤s.length) (hs:s.length≤1099511627776) (he:ErrV h) (E:Ext h0 h) (hb0:h0.size≤b) (g:h[b]?=some (.cells tkn0.cells KX (0,0)))
  (H:∀h',Ext h0 h'→Q ((oneV 1 s n (fun v=>⟨2,[],v.n,0⟩)).1.cells,((oneV 1 s n (fun v=>⟨2,[],v.n,0⟩)).2:Int)) h'):(Gg (bs s) ⟨b,0,none⟩ t).wp h Q:=by
 subst ht
 unfold Gg
 refine KHZ (a:=0) (b:=n) rfl rfl (Nat.zero_le _) hn ?_
 rw [List.drop_zero,Nat.sub_zero]
 refine KL (KDA (by rw [List.length_take];omega) he (fun h2 c e2 V2=>?_))
 dsimp only
 refine ZV (fun h3 e3 s3 g3=>Zt V2.size (stR g3 (by rw [V2.size];exact Nat.le_refl 4) V2.to.one (fun h4 u4 g4=>?_)))
 rw [Kp (cs:=vz) (vs:=c.toList) (by rw [Array.length_toList,V2.size];rfl),Array.toArray_toList]at g4
 have e4:Ext h h4:=(e2.trans e3).upd u4 e2.size
 obtain⟨v,hv⟩:∃v,v=(J1 (s.take n)).1:=⟨_,rfl⟩
 obtain⟨er,her⟩:∃er,er=(J1 (s.take n)).2.2:=⟨_,rfl⟩
 unfold oneV at H
 rw [←hv]at V2 H
 rw [←her]at H⊢
 obtain⟨k,nn,ss,l⟩:=v
 dsimp only [Vl.k,Vl.n,Vl.s]at H
 unfold oneW at H
 obtain⟨x,rfl,_⟩:=JE.eq.1 V2
 refine or_b (c:=decide (k≠1)) (fun _ Q' hq=>ZC (n:=k) (by rw [Ke,KP g4];rfl) (KI (by rw [bne,eqI,←decide_not];exact hq))) ?_
 rw [show(er !=0||decide (k≠1))=decide (er≠0∨k≠1) by rw [bne,eqI,←decide_not,←Bool.decide_or]]
 have gb:=e4.blk g
 have E4:=E.trans e4
 refine KY (fun hc=>?_) (fun hc=>?_)
 ·rw [if_pos (of_decide_eq_true hc)]at H
  exact qt (t0:=tkn0) (t:=tkn0) gb (fun h5 u5=>KI (H _ (E4.upd u5 hb0)))
 ·rw [if_neg (of_decide_eq_false hc)]at H
  refine ZC (n:=nn) (by rw [Ke,KP g4];rfl) ?_
  exact qt (t0:=tkn0) (t:=⟨2,[],nn,0⟩) gb (fun h5 u5=>KI (H _ (E4.upd u5 hb0)))
theorem KIT {s:List UInt8} {h:Heap} {Q:Array Value×Int→Heap→Prop} (h0:s≠[]) (hs:s.length≤1099511627776) (he:ErrV h)
  (H:∀h',Ext h h'→Q ((oneP s).1.cells,((oneP s).2:Int)) h'):(KCw (bs s)).wp h Q:=by
 obtain⟨c,r,rfl⟩:=List.exists_cons_of_ne_nil h0
 unfold KCw
 refine ZV (fun h1 e1 s1 g1=>?_)
 have hl:=KAr (c::r)
 refine NI (i:=0) rfl (by simp) ?_
 rw [show(c::r)[0]=c from rfl]
 refine KL (KDC ?_)
 rw [W3]at H
 refine KY (fun hm=>?_) (fun hm=>?_)
 ·rw [if_pos hm]at H
  refine KHZ (a:=0) (b:=1) rfl rfl (Nat.zero_le _) (by simp) ?_
  exact qt (t0:=tkn0) (t:=⟨4,[c],0,0⟩) g1 (fun h5 u5=>KI (H _ (e1.upd u5 (Nat.le_refl _))))
 rw [if_neg (by rw [hm];decide)]at H
 refine KL (KAs ?_)
 refine KY (fun hlt=>?_) (fun hlt=>?_)
 ·rw [if_pos hlt]at H
  refine KL (KBQ (a:=0) rfl (Nat.zero_le _) hs ?_)
  rw [List.drop_zero]
  refine KHZ (a:=0) (b:=V9 (c::r)) rfl rfl (Nat.zero_le _) hl ?_
  rw [List.drop_zero,Nat.sub_zero]
  exact qt (t0:=tkn0) (t:=⟨1,(c::r).take (V9 (c::r)),0,0⟩) g1 (fun h5 u5=>KI (H _ (e1.upd u5 (Nat.le_refl _))))
 rw [if_neg (by rw [hlt];decide)]at H
 rw [u8_c (d:=39) (n:=39) rfl]
 refine KY (fun h39=>?_) (fun h39=>?_)
 ·rw [if_pos (of_decide_eq_true h39)]at H
  have hcl:GN (c::r)≤(c::r).length:=qC _ _ _
  refine KL (KHc hs ?_)
  refine KHZ (a:=0) (b:=GN (c::r)) rfl rfl (Nat.zero_le _) hcl ?_
  rw [List.drop_zero,Nat.sub_zero]
  generalize GN (c::r)=n at hcl H⊢
  refine KL (KDA (by rw [List.length_take];omega) (he.ext e1) (fun h2 c2 e2 V2=>?_))
  dsimp only
  refine ZV (fun h3 e3 s3 g3=>Zt V2.size (stR g3 (by rw [V2.size];exact Nat.le_refl 4) V2.to.one (fun h4 u4 g4=>?_)))
  rw [Kp (cs:=vz) (vs:=c2.toList) (by rw [Array.length_toList,V2.size];rfl),Array.toArray_toList]at g4
  have e4:Ext h1 h4:=(e2.trans e3).upd u4 e2.size
  obtain⟨v,hv⟩:∃v,v=(J1 ((c::r).take n)).1:=⟨_,rfl⟩
  obtain⟨er,her⟩:∃er,er=(J1 ((c::r).take n)).2.2:=⟨_,rfl⟩
  unfold oneV at H
  rw [←hv]at V2 H
  rw [←her]at H⊢
  obtain⟨k,nn,ss,l⟩:=v
  dsimp only [Vl.k,Vl.n,Vl.s]at H
  unfold oneW at H
  obtain⟨x,rfl,_⟩:=JE.eq.1 V2
  refine or_b (c:=decide (k≠2)) (fun _ Q' hq=>ZC (n:=k) (by rw [Ke,KP g4];rfl) (KI (by rw [bne,eqI,←decide_not];exact hq))) ?_
  rw [show(er !=0||decide (k≠2))=decide (er≠0∨k≠2) by rw [bne,eqI,←decide_not,←Bool.decide_or]]
  have gb:=e4.blk g1
  have E4:=e1.trans e4
  refine KY (fun hc=>?_) (fun hc=>?_)
  ·rw [if_pos (of_decide_eq_true hc)]at H
   exact qt (t0:=tkn0) (t:=tkn0) gb (fun h5 u5=>KI (H _ (E4.upd u5 (Nat.le_refl _))))
  ·rw [if_neg (of_decide_eq_false hc)]at H
   refine Yh (n:=bs ss) (by rw [Ke,KP g4];rfl) ?_
   exact qt (t0:=tkn0) (t:=⟨3,ss,0,0⟩) gb (fun h5 u5=>KI (H _ (E4.upd u5 (Nat.le_refl _))))
 ·rw [if_neg (of_decide_eq_false h39)]at H
  refine KL (KBQ (a:=0) rfl (Nat.zero_le _) hs ?_)
  rw [List.drop_zero]
  refine NI (i:=0) rfl (by simp) ?_
  rw [show(c::r)[0]=c from rfl,u8_c (d:=45) (n:=45) rfl]
  have hr:=KAr r
  have hlc:(c::r).length=r.length+1:=rfl
  refine KY (fun h45=>?_) (fun h45=>?_)
  ·rw [if_pos (of_decide_eq_true h45)]at H
   refine KL (KBQ (a:=1) rfl (by simp) hs ?_)
   rw [show(c::r).drop 1=r from rfl,w64 (by omega) (by omega)]
   exact KGW (n:=1+V9 r) (by push_cast;rfl) (by omega) hs (he.ext e1) e1 (Nat.le_refl _) g1 H
  ·rw [if_neg (of_decide_eq_false h45)]at H
   exact KGW rfl hl hs (he.ext e1) e1 (Nat.le_refl _) g1 H
def KLC:List UInt8→Bool
 | [c]=>Xw c
 |_=>false
def tokB (t:Tkn):Bool:=!(decide (t.a<0)||(decide (t.n≠0)&&decide (t.k≠2)))&&(if t.k=1 then KDB t.s else if t.k=2 then decide (t.s=[])else if t.k=3 then decide (t.s.length≤128)else if t.k=4 then KLC t.s else false)
def tokE (t:Tkn):Int:=if tokB t=true then 0 else 150
theorem KHd {t:Tkn} {h:Heap} {Q:Int→Heap→Prop} (H:∀h',Ext h h'→Q (tokE t) h'):(Np t.cells).wp h Q:=by
 unfold Np
 refine ZV (fun h1 e1 s1 g1=>?_)
 obtain⟨k,s,n,a⟩:=t
 have cA:KM h1 ((⟨h.size,0,none⟩:Addr).add 3)=some (.int .i64 a):=by rw [Ke,KP g1];rfl
 have cN:KM h1 ((⟨h.size,0,none⟩:Addr).add 2)=some (.int .i64 n):=by rw [Ke,KP g1];rfl
 have cS:KM h1 ((⟨h.size,0,none⟩:Addr).add 1)=some (.string (bs s)):=by rw [Ke,KP g1];rfl
 have cK:KM h1 ((⟨h.size,0,none⟩:Addr).add 0)=some (.int .i64 k):=by rw [add_zero,KP g1];rfl
 refine ZC cA ?_
 refine or_b (c:=decide (n≠0)&&decide (k≠2)) (fun _ Q' hq=>ZC cN (by
  rw [bne,eqI,←decide_not]
  exact Wf (c:=decide (k≠2)) (fun _ Q2 hq2=>ZC cK (KI (by rw [bne,eqI,←decide_not];exact hq2))) (KI hq))) ?_
 have bad:∀{h2:Heap},Ext h h2→tokB ⟨k,s,n,a⟩=false→Q 150 h2:=fun {h2} e2 hf=>by
  have:=H _ e2
  unfold tokE at this
  rw [hf]at this
  exact this
 refine KY (fun hc=>KI (bad e1 ?_)) (fun hc=>?_)
 ·unfold tokB
  dsimp only
  rw [hc];rfl
 have fin:∀{b:Bool} {h2:Heap},Ext h h2→tokB ⟨k,s,n,a⟩=b→(VF b).wp h2 Q:=fun {b h2} e2 hb=>by
  unfold VF
  cases b with
  |true=>
   refine iteF rfl (KI ?_)
   have:=H _ e2
   unfold tokE at this
   rw [hb]at this
   exact this
  |false=>exact iteT rfl (KI (bad e2 hb))
 have hT:tokB ⟨k,s,n,a⟩=(if k=1 then KDB s else if k=2 then decide (s=[])else if k=3 then decide (s.length≤128)else if k=4 then KLC s else false):=by
  unfold tokB
  dsimp only
  rw [hc];rfl
 refine ZC cK ?_
 rw [eqI,eqI,eqI,eqI]
 refine KY (fun k1=>?_) (fun k1=>?_)
 ·rw [if_pos (of_decide_eq_true k1)]at hT
  exact Yh cS (KL (KEF (fun h2 e2=>fin (e1.trans e2) hT)))
 rw [if_neg (of_decide_eq_false k1)]at hT
 refine KY (fun k2=>?_) (fun k2=>?_)
 ·rw [if_pos (of_decide_eq_true k2)]at hT
  refine Yh cS ?_
  rw [sEq0]
  exact fin e1 hT
 rw [if_neg (of_decide_eq_false k2)]at hT
 refine KY (fun k3=>?_) (fun k3=>?_)
 ·rw [if_pos (of_decide_eq_true k3)]at hT
  refine Yh cS (fin e1 ?_)
  rw [hT,Zc]
  exact decide_eq_decide.2 (by omega)
 rw [if_neg (of_decide_eq_false k3)]at hT
 refine KY (fun k4=>?_) (fun k4=>?_)
 ·rw [if_pos (of_decide_eq_true k4)]at hT
  refine Yh cS ?_
  rw [Zc]
  match s,hT with
  | [],hT=>exact NQ rfl (ZM (fin e1 hT))
  | [c],hT=>
   refine Y9 rfl (Kf (Yh cS (Kf (NI (i:=0) rfl (by simp) (Kf (KL (KDC (ZM (fin e1 hT)))))))))
  |c::d::r,hT=>
   refine NQ ?_ (ZM (fin e1 hT))
   rw [eqI]
   exact decide_eq_false (by simp only [List.length_cons];omega)
 ·rw [if_neg (of_decide_eq_false k4)]at hT
  exact fin e1 hT
end Gx
namespace Gx
open Go
def U8 (c:UInt8):Bool:=decide (c=32∨c=10)
def J2 (s:List UInt8) (a:Nat):Nat:=a+((s.drop a).takeWhile U8).length
theorem KCF {s:List UInt8} {a:Nat} (ha:a≤s.length):a≤J2 s a∧J2 s a≤s.length:=by
 have:((s.drop a).takeWhile U8).length≤(s.drop a).length:=List.Sublist.length_le (List.takeWhile_sublist _)
 rw [List.length_drop]at this
 unfold J2
 omega
theorem KDD {s:List UInt8} {a:Nat} (ha:s.length≤a):J2 s a=a:=by
 unfold J2
 rw [List.drop_eq_nil_iff.2 ha];rfl
theorem KJc {s:List UInt8} {a:Nat} (ha:a<s.length):J2 s a=if U8 s[a]=true then J2 s (a+1)else a:=by
 unfold J2
 rw [List.drop_eq_getElem_cons ha]
 by_cases h:U8 s[a]=true
 ·rw [List.takeWhile_cons_of_pos h,if_pos h,List.length_cons];omega
 ·rw [List.takeWhile_cons_of_neg h,if_neg h];rfl
def Yw (s:List UInt8) (a:Nat):Obj:=.cells #[.string (bs s),.int .i64 (a:Int)] qn (0,0)
def scN:Option Value→Nat
 |some (.int _ n)=>n.toNat
 |_=>0
def scAt (b:Nat) (h:Heap):Nat:=scN (KM h ⟨b,1,none⟩)
theorem KFO {h:Heap} {b a:Nat} {s:List UInt8} (g:h[b]?=some (Yw s a)):scAt b h=a:=by
 unfold Yw at g
 unfold scAt;rw [KP g];rfl
theorem KDE {h:Heap} {b a:Nat} {s:List UInt8} (g:h[b]?=some (Yw s a)):KM h ((⟨b,0,none⟩:Addr).add 0)=some (.string (bs s)):=by
 rw [add_zero];unfold Yw at g;rw [KP g];rfl
theorem KB5 {h:Heap} {b a:Nat} {s:List UInt8} (g:h[b]?=some (Yw s a)):KM h ((⟨b,0,none⟩:Addr).add 1)=some (.int .i64 (a:Int)):=by
 rw [Ke];unfold Yw at g;rw [KP g];rfl
theorem KOA {h:Heap} {b a c:Nat} {s:List UInt8} (g:h[b]?=some (Yw s a)):(hset h ⟨b,0+1,none⟩ (.int .i64 (c:Int)))[b]?=some (Yw s c):=by
 unfold Yw at g⊢
 rw [Ul (h:=h) g]
 rfl
theorem KDF {s:List UInt8} {b a:Nat} {h:Heap} {Q:Bool→Heap→Prop} (g:h[b]?=some (Yw s a)) (ha:a≤s.length) (hs:s.length≤1099511627776)
  (H:∀h',Upd b h h'→h'[b]?=some (Yw s (J2 s a))→Q (decide (J2 s a<s.length)) h'):(Ud (some ⟨b,0,none⟩)).wp h Q:=by
 unfold Ud
 refine M.loop_inv (fun(_:Unit) hh=>∃i:Nat,a≤i∧i≤s.length∧J2 s a=J2 s i∧(Upd b h hh∨hh=h)∧hh[b]?=some (Yw s i)) (fun _ hh=>s.length - scAt b hh) ?_ ⟨a,Nat.le_refl _,ha,rfl,.inr rfl,g⟩
 rintro⟨⟩ hh ⟨i,hai,hi,hsk,hu,gi⟩ self hself
 have upd:∀h',Upd b hh h'→Upd b h h':=fun h' u=>by
  rcases hu with hu|rfl
  ·exact⟨by rw [u.size,hu.size],fun k hk=>(u.ne k hk).trans (hu.ne k hk)⟩
  ·exact u
 have hud:Upd b h hh:=by
  rcases hu with hu|rfl
  ·exact hu
  ·exact⟨rfl,fun _ _=>rfl⟩
 unfold Vy
 refine Zi (Zi (ZC (KB5 gi) (Yh (KDE gi) ?_)))
 rw [Zc]
 have fin:J2 s i=i→(Jw (some ⟨b,0,none⟩)).wp hh Q:=fun he=>by
  unfold Jw
  refine Zi (Zi (ZC (KB5 gi) (Yh (KDE gi) (KI ?_))))
  have:=H hh hud (by rw [hsk,he];exact gi)
  rw [hsk,he]at this
  rw [Zc,show decide ((i:Int)<(s.length:Int))=decide (i<s.length)from decide_eq_decide.2 (by omega)]
  exact this
 refine KY (fun hlt=>?_) (fun hge=>fin (KDD (by have:=of_decide_eq_false hge;omega)))
 have hlt:i<s.length:=by have:=of_decide_eq_true hlt;omega
 refine Zi (Zi (Yh (KDE gi) (ZC (KB5 gi) (NI (i:=i) rfl hlt ?_))))
 have hst:=KJc hlt
 rw [u8_c (d:=32) (n:=32) rfl,u8_c (d:=10) (n:=10) rfl]
 have j2:∀t:Bool,t=U8 s[i]→(Jx self (some ⟨b,0,none⟩) t).wp hh Q:=fun t ht=>by
  unfold Jx
  refine KY (fun hc=>?_) (fun hc=>fin ?_)
  ·rw [←ht,hc,if_pos rfl]at hst
   refine Zi (ZC (KB5 gi) (Zi (Gu (KB5 gi) (by rw [Ke];unfold Yw at gi;exact ZL gi) rfl ?_)))
   rw [w64 (by omega) (by omega),Ke,show(i:Int)+1=((i+1:Nat):Int) by simp]
   have u:=Upd.hset hh b (0+1) (.int .i64 ((i+1:Nat):Int))
   have g':=KOA (c:=i+1) gi
   refine hself _ _ ⟨i+1,by omega,hlt,by rw [hsk,hst],.inl (upd _ u),g'⟩ ?_
   rw [KFO g',KFO gi]
   omega
  ·rw [←ht,hc,if_neg (by decide)]at hst
   exact hst
 refine KY (fun hc=>j2 _ ?_) (fun hc=>j2 _ ?_)
 ·rw [hc];unfold U8;exact(decide_eq_true (.inl (of_decide_eq_true hc))).symm
 ·unfold U8
  exact decide_eq_decide.2 ⟨.inr,fun h=>h.resolve_left (of_decide_eq_false hc)⟩
end Gx
namespace Gx
open Go
theorem KLD {k:Int} {s:List UInt8} {n:Nat} {t:Vl→Tkn} (hn:n≤s.length):(oneV k s n t).2≤s.length:=by
 unfold oneV oneW
 split
 ·exact Nat.zero_le _
 ·exact hn
theorem KHe:∀s:List UInt8,(oneP s).2≤s.length
 | []=>Nat.le_refl _
 |c::r=>by
  rw [W3]
  have h1:=KAr (c::r)
  have h2:=KAr r
  have h3:(c::r).length=r.length+1:=rfl
  split
  ·show 1≤_;omega
  split
  ·exact h1
  split
  ·exact KLD (qC _ _ _)
  ·exact KLD (by split<;>omega)
def Gl (s:List UInt8) (a:Nat):Option (Tkn×Nat):=
 if J2 s a<s.length then
  (if(oneP (s.drop (J2 s a))).2=0∨tokB {(oneP (s.drop (J2 s a))).1 with a:=(J2 s a:Int)}=false then none
   else some ({(oneP (s.drop (J2 s a))).1 with a:=(J2 s a:Int)},J2 s a+(oneP (s.drop (J2 s a))).2))
 else none
theorem KPN (t:Tkn):(tokE t !=0)=!tokB t:=by
 unfold tokE
 cases tokB t<;>rfl
theorem KLE {s:List UInt8} {b a:Nat} {h:Heap} {Q:Array Value×Bool→Heap→Prop} (g:h[b]?=some (Yw s a)) (ha:a≤s.length) (hs:s.length≤1099511627776) (he:ErrV h) (hb:b≠gER)
  (H1:∀h',Gl s a=none→Kb b h h'→h'[b]?=some (Yw s (J2 s a))→Q (tkn0.cells,false) h')
  (H2:∀h' t a',Gl s a=some (t,a')→a<a'→a'≤s.length→Kb b h h'→h'[b]?=some (Yw s a')→Q (t.cells,true) h'):(UZ (some ⟨b,0,none⟩)).wp h Q:=by
 unfold UZ
 have hbl:=JT g
 have hsk:=KCF ha
 refine ZV (fun h1 e1 s1 g1=>?_)
 refine KL (KDF (e1.blk g) ha hs (fun h2 u2 g2=>?_))
 have g1':h2[h.size]?=some (.cells tkn0.cells KX (0,0)):=(u2.ne _ (by omega)).trans g1
 have K2:Kb b h h2:=(Km.ext e1).trans (Km.upd u2 rfl)
 obtain⟨p,hp⟩:∃p,p=J2 s a:=⟨_,rfl⟩
 unfold Gl at H1 H2
 rw [←hp]at H1 H2 g2 hsk⊢
 refine KY (fun hc=>?_) (fun hc=>?_)
 ·have hc:¬p<s.length:=by simpa using hc
  rw [if_neg hc]at H1
  exact qt (t0:=tkn0) (t:=tkn0) g1' (fun h3 u3=>KI (H1 _ rfl (K2.own u3 (Nat.le_refl _)) ((u3.ne b (by omega)).trans g2)))
 ·have hc:p<s.length:=by simpa using hc
  rw [if_pos hc]at H1 H2
  refine Zi (Zi (Yh (KDE g2) (ZC (KB5 g2) (KHZ (a:=p) (b:=s.length) rfl (by rw [Zc]) (by omega) (Nat.le_refl _) ?_))))
  rw [List.take_of_length_le (by rw [List.length_drop];omega)]
  have hne:s.drop p≠[]:=fun e=>by have:=congrArg List.length e;rw [List.length_drop]at this;simp at this;omega
  have hdl:(s.drop p).length≤1099511627776:=by rw [List.length_drop];omega
  have hol:=KHe (s.drop p)
  rw [List.length_drop]at hol
  have he2:ErrV h2:=he.km K2 hb
  obtain⟨o,ho⟩:∃o,o=oneP (s.drop p):=⟨_,rfl⟩
  rw [←ho]at H1 H2 hol
  have rest:∀{h3:Heap} {q:Nat},Ext h2 h3→h2.size≤q→h3[q]?=some (.cells tkn0.cells KX (0,0))→(do
    M.need (o.1.cells.size=4)
    stG ⟨q,0,none⟩ o.1.cells
    let Xx22←nilP (some ⟨b,0,none⟩)
    let Xx23←ldI .i64 ((Xx22).add 1)
    stV ((⟨q,0,none⟩:Addr).add 3) (.int .i64 Xx23)
    let Xx27←M.ite ((o.2:Int)==0) (do
     M.pure true
     ) (do
     let Xx28←ldG 4 ⟨q,0,none⟩
     let Xx29←Np Xx28
     M.pure (Xx29 !=0)
     )
    M.ite Xx27 (do
     M.need ((#[.int .i64 0,.string ByteArray.empty,.int .i64 0,.int .i64 0]:Array Value).size=4)
     stG ⟨h.size,0,none⟩ (#[.int .i64 0,.string ByteArray.empty,.int .i64 0,.int .i64 0]:Array Value)
     let Rr32←ldG 4 ⟨h.size,0,none⟩
     M.pure (Rr32,false)
     ) (do
     let Xx34←nilP (some ⟨b,0,none⟩)
     let Xx35←ldI .i64 ((Xx34).add 1)
     let Xx36←nilP (some ⟨b,0,none⟩)
     stV ((Xx36).add 1) (.int .i64 (IntKind.wrap .i64 (Xx35+(o.2:Int))))
     let Xx39←ldG 4 ⟨q,0,none⟩
     M.need (Xx39.size=4)
     stG ⟨h.size,0,none⟩ Xx39
     let Rr41←ldG 4 ⟨h.size,0,none⟩
     M.pure (Rr41,true)
     ):M (Array Value×Bool)).wp h3 Q:=fun {h3 q} e3 hq g3=>by
   have hs3:=e3.size
   have hz2:=K2.size
   have hz1:=u2.size
   refine Zt rfl (stR g3 (Nat.le_refl 4) (XU _) (fun h4 u4 g4=>?_))
   rw [Kp (cs:=tkn0.cells) (vs:=o.1.cells.toList) rfl,Array.toArray_toList]at g4
   have gb4:h4[b]?=some (Yw s p):=(u4.ne b (by omega)).trans (e3.blk g2)
   refine Zi (ZC (KB5 gb4) (Gu (x:=.int .i64 o.1.a) (by rw [Ke,KP g4];rfl) (by rw [Ke];exact ZL g4) rfl ?_))
   rw [Ke]
   have u5:=Upd.hset h4 q (0+3) (.int .i64 (p:Int))
   have g5:(hset h4 ⟨q,0+3,none⟩ (.int .i64 (p:Int)))[q]?=some (.cells (Tkn.cells {o.1 with a:=(p:Int)}) KX (0,0)):=by rw [Ul g4];rfl
   generalize hset h4 ⟨q,0+3,none⟩ (.int .i64 (p:Int))=h5 at u5 g5⊢
   generalize ht:({o.1 with a:=(p:Int)}:Tkn)=t at g5 H1 H2
   have gb5:h5[b]?=some (Yw s p):=(u5.ne b (by omega)).trans gb4
   have gz5:h5[h.size]?=some (.cells tkn0.cells KX (0,0)):=(u5.ne _ (by omega)).trans ((u4.ne _ (by omega)).trans (e3.blk g1'))
   have K5:Kb b h h5:=((K2.trans (Km.ext e3)).own u4 (by omega)).own u5 (by omega)
   have fin:∀{h6:Heap} {c:Bool},Ext h5 h6→c=decide (o.2=0∨tokB t=false)→(M.ite c (do
     M.need ((#[.int .i64 0,.string ByteArray.empty,.int .i64 0,.int .i64 0]:Array Value).size=4)
     stG ⟨h.size,0,none⟩ (#[.int .i64 0,.string ByteArray.empty,.int .i64 0,.int .i64 0]:Array Value)
     let Rr32←ldG 4 ⟨h.size,0,none⟩
     M.pure (Rr32,false)
     ) (do
     let Xx34←nilP (some ⟨b,0,none⟩)
     let Xx35←ldI .i64 ((Xx34).add 1)
     let Xx36←nilP (some ⟨b,0,none⟩)
     stV ((Xx36).add 1) (.int .i64 (IntKind.wrap .i64 (Xx35+(o.2:Int))))
     let Xx39←ldG 4 ⟨q,0,none⟩
     M.need (Xx39.size=4)
     stG ⟨h.size,0,none⟩ Xx39
     let Rr41←ldG 4 ⟨h.size,0,none⟩
     M.pure (Rr41,true)
     ):M (Array Value×Bool)).wp h6 Q:=fun {h6 c} e6 hcc=>by
    have gb6:=e6.blk gb5
    have gz6:=e6.blk gz5
    have K6:Kb b h h6:=K5.trans (Km.ext e6)
    refine KY (fun h0=>?_) (fun h0=>?_)
    ·rw [if_pos (of_decide_eq_true (hcc.symm.trans h0))]at H1
     exact qt (t0:=tkn0) (t:=tkn0) gz6 (fun h7 u7=>KI (H1 _ rfl (K6.own u7 (Nat.le_refl _)) ((u7.ne b (by omega)).trans gb6)))
    ·have hno:=of_decide_eq_false (hcc.symm.trans h0)
     rw [if_neg hno]at H2
     have ho0:o.2≠0:=fun e=>hno (.inl e)
     refine Zi (ZC (KB5 gb6) (Zi (Gu (KB5 gb6) (by rw [Ke];unfold Yw at gb6;exact ZL gb6) rfl ?_)))
     rw [w64 (by omega) (by omega),Ke,show(p:Int)+(o.2:Int)=((p+o.2:Nat):Int) by push_cast;rfl]
     have u7:=Upd.hset h6 b (0+1) (.int .i64 ((p+o.2:Nat):Int))
     have g7:=KOA (c:=p+o.2) gb6
     generalize hset h6 ⟨b,0+1,none⟩ (.int .i64 ((p+o.2:Nat):Int))=h7 at u7 g7⊢
     have gq7:=(u7.ne q (by omega)).trans (e6.blk g5)
     refine ldR gq7 rfl ?_
     exact qt (t0:=tkn0) (t:=t) ((u7.ne _ (by omega)).trans gz6) (fun h8 u8=>KI (H2 _ t _ rfl (by omega) (by omega) ((K6.trans (Km.upd u7 rfl)).own u8 (Nat.le_refl _)) ((u8.ne b (by omega)).trans g7)))
   refine KL (KY (fun h0=>KI (fin (Ext.refl _) ?_)) (fun h0=>ldR g5 rfl (KL (KHd (fun h6 e6=>KI (fin e6 ?_))))))
   ·rw [eqI]at h0
    have:=of_decide_eq_true h0
    exact(decide_eq_true (.inl (by omega))).symm
   ·rw [eqI]at h0
    have:=of_decide_eq_false h0
    have h1:¬o.2=0:=by omega
    rw [KPN]
    cases tokB t with
    |true=>exact(decide_eq_false (fun h=>h.elim h1 (fun h=>by cases h))).symm
    |false=>exact(decide_eq_true (.inr rfl)).symm
  have ck:∀{h':Heap},Ext h2 h'→KM h' ((⟨b,0,none⟩:Addr).add 0)=some (.string (bs s))∧KM h' ((⟨b,0,none⟩:Addr).add 1)=some (.int .i64 (p:Int)):=fun {h'} e=>⟨KDE (e.blk g2),KB5 (e.blk g2)⟩
  refine KNr (KL (KL (KIT hne hdl he2 (fun h3 e3=>X5 (ck e3) (ZV (fun h4 e4 s4 g4=>X5 (ck (e3.trans e4)) (KI ?_))))))) (KL (ZV (fun h3 e3 s3 g3=>X5 (ck e3) (KL (KIT hne hdl (he2.ext e3) (fun h4 e4=>KI ?_))))))
  ·rw [←ho]
   exact rest (e3.trans e4) (by exact e3.size) g4
  ·rw [←ho]
   exact rest (e3.trans e4) (Nat.le_refl _) (e4.blk g3)
end Gx
namespace Gx
open Go
theorem NL {s:List UInt8} {a a':Nat} {t:Tkn} (ha:a≤s.length) (h:Gl s a=some (t,a')):a<a'∧a'≤s.length:=by
 have hsk:=KCF ha
 have hol:=KHe (s.drop (J2 s a))
 rw [List.length_drop]at hol
 unfold Gl at h
 split at h
 ·split at h
  ·cases h
  ·rename_i h1
   cases h
   have:(oneP (s.drop (J2 s a))).2≠0:=fun e=>h1 (.inl e)
   omega
 ·cases h
def allF (s:List UInt8):Nat→Nat→List Tkn×Nat
 |0,a=>([],J2 s a)
 |f+1,a=>match Gl s a with
  |none=>([],J2 s a)
  |some (t,a')=>(t::(allF s f a').1,(allF s f a').2)
theorem KGX {s:List UInt8}:∀(f g a:Nat),a≤s.length→s.length - a<f→s.length - a<g→allF s f a=allF s g a
 |0,_,_,_,h,_=>by omega
 |_,0,_,_,_,h=>by omega
 |f+1,g+1,a,ha,h1,h2=>by
  rw [allF,allF]
  cases hn:Gl s a with
  |none=>rfl
  |some p=>
   obtain⟨t,a'⟩:=p
   have:=NL ha hn
   dsimp only
   rw [KGX f g a' this.2 (by omega) (by omega)]
def allT (s:List UInt8) (a:Nat):List Tkn×Nat:=allF s (s.length - a+1) a
theorem Gm {s:List UInt8} {a:Nat} (h:Gl s a=none):allT s a=([],J2 s a):=by
 unfold allT
 rw [allF,h]
theorem Gp {s:List UInt8} {a a':Nat} {t:Tkn} (ha:a≤s.length) (h:Gl s a=some (t,a')):allT s a=(t::(allT s a').1,(allT s a').2):=by
 have:=NL ha h
 unfold allT
 rw [allF,h]
 dsimp only
 rw [KGX (s.length - a) (s.length - a'+1) a' this.2 (by omega) (by omega)]
end Gx
namespace Gx
open Go
theorem KR2 {s:List UInt8} {b c a l:Nat} {Inv:Nat→Heap→Prop} {Stop:Heap→Prop} {h:Heap} (ha:a≤s.length) (hs:s.length≤1099511627776) (hb:b≠gER) (hU:∀i h1 h2,Inv i h1→Kb b h1 h2→Inv i h2)
  (hC:∀i h1,Inv i h1→ErrV h1∧h1[c]?=some (.cells #[.pointer (some ⟨b,0,none⟩)] Y0 (0,0))) (g:h[b]?=some (Yw s a)) (h0:Inv 0 h)
  (hround:∀i (hi:i<(allT s a).1.length) h1,Inv i h1→(X4 Go.Proofs.Tryz.prog (fun r:Bool=>.bool r) (yV l) [.agg (allT s a).1[i].cells]).wp h1 (fun r h2=>h2[b]?=h1[b]?∧(if r=true then Inv (i+1) h2 else Stop h2))):
  (X4 Go.Proofs.Tryz.prog (fun _:Unit=>.tuple #[]) (.func (.func WI) #[] #[.pointer (some ⟨c,0,none⟩)]) [yV l]).wp h (fun _ h1=>(Inv (allT s a).1.length h1∧h1[b]?=some (Yw s (allT s a).2))∨Stop h1):=by
 refine KEa qP (zd (yV l) ⟨c,0,none⟩) ?_
 unfold Gh
 refine M.loop_inv (fun(_:Unit) hh=>∃i a':Nat,a'≤s.length∧i≤(allT s a).1.length∧(allT s a).1.drop i=(allT s a').1∧(allT s a).2=(allT s a').2∧Inv i hh∧hh[b]?=some (Yw s a')) (fun _ hh=>s.length - scAt b hh) ?_ ⟨0,a,ha,Nat.zero_le _,rfl,rfl,h0,g⟩
 rintro⟨⟩ hh ⟨i,a',ha',hi,hd,h2e,hI,gb⟩ self hself
 unfold WP
 obtain⟨he,hc⟩:=hC i hh hI
 refine GV (n:=some ⟨b,0,none⟩) (by rw [KP hc];rfl) (KL (KLE gb ha' hs he hb (fun h2 hn K2 g2=>?_) (fun h2 t a2 hn hlt hle K2 g2=>?_)))
 ·refine ZV (fun h3 e3 s3 g3=>Zt rfl (stR g3 (Nat.le_refl 4) (XU tkn0) (fun h4 u4 g4=>Y9 rfl (ZM (iteT rfl (KI (.inl ?_)))))))
  rw [Gm hn]at hd h2e
  have hlen:i=(allT s a).1.length:=by
   have:=congrArg List.length hd
   rw [List.length_drop]at this
   simp only [List.length_nil]at this
   omega
  have K4:Kb b h2 h4:=(Km.ext e3).own u4 (Nat.le_refl _)
  rw [←hlen,h2e]
  exact⟨hU _ _ _ hI (K2.trans K4),(u4.ne b (by have:=JT g2;omega)).trans (e3.blk g2)⟩
 ·refine ZV (fun h3 e3 s3 g3=>Zt rfl (stR g3 (Nat.le_refl 4) (XU t) (fun h4 u4 g4=>NQ rfl ?_)))
  have g4:h4[h2.size]?=some (.cells t.cells KX (0,0)):=by
   have e:lay tkn0.cells 0 t.cells.toList=t.cells:=by rw [Kp (cs:=tkn0.cells) (vs:=t.cells.toList) rfl,Array.toArray_toList]
   rw [←e];exact g4
  rw [Gp ha' hn]at hd h2e
  have hlt2:i<(allT s a).1.length:=by
   rcases Nat.lt_or_ge i (allT s a).1.length with h|h
   ·exact h
   ·rw [List.drop_eq_nil_iff.2 h]at hd;cases hd
  rw [List.drop_eq_getElem_cons hlt2]at hd
  obtain⟨hd1,hd2⟩:=List.cons.inj hd
  have K4:Kb b h2 h4:=(Km.ext e3).own u4 (Nat.le_refl _)
  have gb4:h4[b]?=some (Yw s a2):=(u4.ne b (by have:=JT g2;omega)).trans (e3.blk g2)
  have hr:=hround i hlt2 h4 (hU _ _ _ hI (K2.trans K4))
  rw [hd1]at hr
  refine Kf (ldR g4 rfl (Kf (KL ((X4 _ _ _ _).mono ?_ hr))))
  rintro r h5 ⟨hk,hr5⟩
  refine ZM ?_
  cases r with
  |true=>
   rw [if_pos rfl]at hr5
   refine iteF rfl (hself _ _ ⟨i+1,a2,hle,hlt2,hd2,h2e,hr5,hk.trans gb4⟩ ?_)
   rw [KFO (hk.trans gb4),KFO gb]
   omega
  |false=>
   rw [if_neg (by decide)]at hr5
   exact iteT rfl (KI (.inr hr5))
end Gx
namespace Gx
open Go
abbrev tokV (t:Tkn):List Value:=[.agg t.cells]
def SeqT (P:Program) (ts:List Tkn) (g:Value) (b:Nat) (C:Heap→Prop) (o:Obj) (End:Heap→Prop):Prop:=
 ∀(l:Nat) (Inv:Nat→Heap→Prop) (Stop:Heap→Prop) (h:Heap),(∀i h1 h2,Inv i h1→Kb b h1 h2→Inv i h2)→(∀i h1,Inv i h1→C h1)→h[b]?=some o→Inv 0 h→
  (∀i (hi:i<ts.length) h1,Inv i h1→(X4 P (fun b:Bool=>.bool b) (yV l) (tokV ts[i])).wp h1 (fun r h2=>h2[b]?=h1[b]?∧(if r=true then Inv (i+1) h2 else Stop h2)))→
  (X4 P (fun _:Unit=>.tuple #[]) g [yV l]).wp h (fun _ h1=>(Inv ts.length h1∧End h1)∨Stop h1)
theorem KLF {P:Program} {js:List Code} {Y:Nat→Array Value→M Nat} {Yb:Addr→M Nat} {r:Loop} {l:Nat} {t:Tkn}
  (hY:Y l t.cells=(mkB KX (#[.int .i64 0,.string ByteArray.empty,.int .i64 0,.int .i64 0]:Array Value)>>=fun a=>M.need (t.cells.size=4)>>=fun _=>stG a t.cells>>=fun _=>beg l>>=fun _=>Yb a))
  (hr:KH8 P (fun x:Array Value=>[.agg x]) js Y r l) {c:Code} (hjs:js=[c]) {J J' E:Heap→Prop}
  (hJ:∀h1 h2,J h1→Upd l h1 h2→J h2) (hJx:∀h1 h2,J h1→Ext h1 h2→J h2) (hJ':∀h1 h2,J' h1→Upd l h1 h2→J' h2) (hE:∀h1 h2,E h1→Upd l h1 h2→E h2)
  (hbody:∀h1 o n,J h1→h1[n]?=some (.cells t.cells KX (0,0))→h1[l]?=some o→l<n→(Yb ⟨n,0,none⟩).wp h1 (fun j h2=>h2[l]?=some o∧(j=0∧J' h2∨j=1∧E h2))) {h1:Heap} (h0:J h1) (hrec:h1[l]?=some (Gt r .ready none)):
  (X4 P (fun b:Bool=>.bool b) (yV l) (tokV t)).wp h1 (fun b h2=>if b=true then(J' h2∧h2[l]?=some (Gt r .ready none))else(E h2∧h2[l]?=some (Gt r .done (some c)))):=by
 refine hr t.cells h1 _ .ready none hrec ?_
 rw [hY]
 refine ZV (fun h2 e2 s2 g2=>Zt rfl (stR g2 (Nat.le_refl 4) (XU t) (fun h3 u3 g3=>?_)))
 have g3:h3[h1.size]?=some (.cells t.cells KX (0,0)):=by
  have e:lay tkn0.cells 0 t.cells.toList=t.cells:=by rw [Kp (cs:=tkn0.cells) (vs:=t.cells.toList) rfl,Array.toArray_toList]
  rw [←e];exact g3
 have e3:Ext h1 h3:=e2.upd u3 (Nat.le_refl _)
 have hl:=JT hrec
 have hrec3:=e3.blk hrec
 refine⟨{r with state:=.ready,pending:=none},hrec3,rfl,?_⟩
 have hb:=KEh (o':=Gt r .busy none) hrec3
 refine(Yb ⟨h1.size,0,none⟩).mono ?_ (hbody _ _ h1.size (hJ _ _ (hJx _ _ h0 e3) (Upd.set_ h3 l (Gt r .busy none))) (((Upd.set_ h3 l (Gt r .busy none)).ne _ (by omega)).trans g3) hb (by omega))
 rintro j h4 ⟨h5,h6⟩
 refine⟨.busy,none,h5,?_⟩
 rcases h6 with⟨rfl,h6⟩|⟨rfl,h6⟩
 ·show if true=true then _ else _
  rw [if_pos rfl]
  exact⟨hJ' _ _ h6 (Upd.set_ _ _ _),KEh h5⟩
 ·subst hjs
  show if false=true then _ else _
  rw [if_neg (by simp)]
  exact⟨hE _ _ h6 (Upd.set_ _ _ _),KEh h5⟩
theorem KR3 {P:Program} {js:List Code} {Y:Nat→Array Value→M Nat} {Yb:Addr→M Nat}
  (hY:∀l (x:Array Value),Y l x=(mkB KX (#[.int .i64 0,.string ByteArray.empty,.int .i64 0,.int .i64 0]:Array Value)>>=fun a=>M.need (x.size=4)>>=fun _=>stG a x>>=fun _=>beg l>>=fun _=>Yb a))
  {c:Code} (hjs:js=[c]) {g:Value} (hg:∀l,g≠.func (.yield l) #[] #[]) {h:Heap} {Q:Nat×Nat→Heap→Prop} {ts:List Tkn} {b:Nat} {o0:Obj} {C End:Heap→Prop}
  (J:Nat→Heap→Prop) (E:Heap→Prop) (hJ:∀i h1 h2,J i h1→Upd (h.size+1) h1 h2→J i h2) (hE:∀h1 h2,E h1→Upd (h.size+1) h1 h2→E h2) (hEnd:∀h1 h2,End h1→Upd (h.size+1) h1 h2→End h2) (hJb:∀i h1 h2,J i h1→h.size+2≤h1.size→Kb b h1 h2→J i h2) (hC:∀i h1,J i h1→C h1)
  (hb:h[b]?=some o0) (hseq:SeqT P ts g b C o0 End) (h0:∀r:Loop,J 0 ((h.push (.deferred (some []))).push (Gt r .ready none)))
  (hbody:∀i (hi:i<ts.length) h1 o n,J i h1→h1[n]?=some (.cells (ts[i]).cells KX (0,0))→h.size+2≤n→h1[h.size+1]?=some o→(Yb ⟨n,0,none⟩).wp h1 (fun j h2=>h2[h.size+1]?=some o∧h2[b]?=h1[b]?∧(j=0∧J (i+1) h2∨j=1∧E h2)))
  (hq0:∀h1,J ts.length h1→End h1→Q (0,h.size) h1) (hq1:∀h1,E h1→Q (1,h.size) h1):(rgF P (fun x:Array Value=>[.agg x]) js Y g).wp h Q:=by
 refine⟨hg,fun r hr=>?_⟩
 have hbl:=JT hb
 have hrec:((h.push (.deferred (some []))).push (Gt r .ready none))[h.size+1]?=some (Gt r .ready none):=by
  have:h.size+1=(h.push (.deferred (some []))).size:=by simp
  rw [this];exact ZH
 refine(X4 P _ _ _).mono ?_ (hseq (h.size+1) (fun i h1=>J i h1∧h1[h.size+1]?=some (Gt r .ready none)) (fun h1=>E h1∧h1[h.size+1]?=some (Gt r .done (some c))) _ (fun i h1 h2 hh u=>⟨hJb i h1 h2 hh.1 (JT hh.2) u,(u.blk hh.2 (by omega))⟩) (fun i h1 hh=>hC i h1 hh.1)
  (by rw [Xd (by simp;omega),Xd hbl];exact hb) ⟨h0 r,hrec⟩ (fun i hi h1 hh=>?_))
 ·rintro _ h1 (⟨⟨h2,h3⟩,h4⟩|⟨h2,h3⟩)
  ·exact⟨.ready,0,by decide,h3,hq0 _ (hJ _ _ _ h2 (Upd.set_ _ _ _)) (hEnd _ _ h4 (Upd.set_ _ _ _))⟩
  ·subst hjs
   exact⟨.done,1,by decide,h3,hq1 _ (hE _ _ h2 (Upd.set_ _ _ _))⟩
 ·have hz:=JT hh.2
  have hbo:∃o,h1[b]?=some o:=⟨_,Array.getElem?_eq_getElem (by omega)⟩
  obtain⟨ob,hob⟩:=hbo
  refine(X4 P _ _ _).mono ?_ (KLF (hY _ _) hr hjs (J:=fun h2=>J i h2∧h2[b]?=some ob∧h.size+2≤h2.size) (J':=fun h2=>J (i+1) h2∧h2[b]?=some ob) (E:=fun h2=>E h2∧h2[b]?=some ob) (fun h2 h3 hj u=>⟨hJ _ _ _ hj.1 u,(u.ne _ (by omega)).trans hj.2.1,by rw [u.size];exact hj.2.2⟩) (fun h2 h3 hj e=>⟨hJb _ _ _ hj.1 hj.2.2 (Km.ext e),e.blk hj.2.1,by have:=e.size;omega⟩) (fun h2 h3 hj u=>⟨hJ _ _ _ hj.1 u,(u.ne _ (by omega)).trans hj.2⟩) (fun h2 h3 hj u=>⟨hE _ _ hj.1 u,(u.ne _ (by omega)).trans hj.2⟩) (fun h2 o n hj hn ho hnl=>?_) ⟨hh.1,hob,hz⟩ hh.2)
  ·rintro r' h2 hr'
   rw [hob]
   split at hr'
   ·rename_i hT;subst hT;exact⟨hr'.1.2,by rw [if_pos rfl];exact⟨hr'.1.1,hr'.2⟩⟩
   ·rename_i hF;exact⟨hr'.1.2,by rw [if_neg hF];exact⟨hr'.1.1,hr'.2⟩⟩
  ·refine(Yb _).mono ?_ (hbody i hi h2 o n hj.1 hn (by omega) ho)
   rintro j h3 ⟨h4,h5,h6⟩
   exact⟨h4,h6.imp (fun h6=>⟨h6.1,h6.2,h5.trans hj.2.1⟩) (fun h6=>⟨h6.1,h6.2,h5.trans hj.2.1⟩)⟩
theorem oneC {h:Heap} {b:Nat} {v:Value} {t:TypeId} {z:Nat×Nat} (hb:h[b]?=some (.cells #[v] t z)):KM h ⟨b,0,none⟩=some v:=by rw [KP hb];rfl
theorem stO {β:Type} {h:Heap} {Q:β→Heap→Prop} {b:Nat} {v u:Value} {t:TypeId} {f:Unit→M β} (g:h[b]?=some (.cells #[v] t (0,0))) (h1:one u=true)
  (H:∀h',Upd b h h'→h'[b]?=some (.cells #[u] t (0,0))→(f ()).wp h' Q):(stV ⟨b,0,none⟩ u>>=f).wp h Q:=
 Gu (oneC g) (ZL g) h1 (H _ (Upd.hset _ _ _ _) (by rw [Ul g];rfl))
def tks (ts:List Tkn):List (Array Value):=ts.map Tkn.cells
theorem KLG (ts:List Tkn):W4 (tks ts):=fun c hc=>by
 obtain⟨t,_,rfl⟩:=List.mem_map.1 hc
 exact⟨rfl,XU t⟩
theorem KBR (ts:List Tkn):(tks ts).length=ts.length:=List.length_map _
theorem KPO (a b:List Tkn):tks (a++b)=tks a++tks b:=List.map_append
def TkR (h:Heap) (x:Sl) (ts:List Tkn):Prop:=x.len=ts.length∧Gq h x.base (Jh (tks ts))
theorem TkR.ext {h h':Heap} {x:Sl} {ts:List Tkn} (H:TkR h x ts) (e:Ext h h'):TkR h' x ts:=⟨H.1,e.reads H.2⟩
theorem TkR.nil (h:Heap):TkR h Sl.nil []:=⟨rfl,.inl rfl⟩
theorem Gw.tkR {lo:Nat} {h:Heap} {r:Sl} {ts:List Tkn} (G:Gw lo h r 4 (Jh (tks ts))):TkR h r ts:=⟨by have:=G.len;rw [WT (KLG ts),KBR]at this;omega,G.reads⟩
theorem TkR.at {h:Heap} {x:Sl} {ts:List Tkn} (H:TkR h x ts) {i:Nat} (hi:i<ts.length):∃a,x.base=some a∧∀j,j<4→KM h ((a.add (i*4)).add j)=(ts[i]).cells[j]?:=by
 rcases H.2 with h0|⟨a,ha,hr⟩
 ·have:=congrArg List.length h0
  rw [WT (KLG ts),KBR]at this;simp at this;omega
 ·refine⟨a,ha,fun j hj=>?_⟩
  rw [Addr.add_add]
  have h1:=KC5 (KLG ts) i j hj
  rw [List.getElem?_eq_getElem (l:=tks ts) (i:=i) (by rw [KBR];exact hi),Option.bind_some]at h1
  have h2:(tks ts)[i]'(by rw [KBR];exact hi)=(ts[i]).cells:=by simp [tks]
  rw [h2]at h1
  have h3:j<(ts[i]).cells.size:=hj
  rw [Array.getElem?_eq_getElem h3]at h1⊢
  exact hr _ _ h1
end Gx
namespace Gx
open Go Go.Proofs Go.Shelf Go.RowKit Go.Lib
def dcv (acc:Nat) (l:List UInt8):Nat:=l.foldl (fun a c=>a*10+(c.toNat - 48)) acc
theorem KLH (acc:Nat):dcv acc []=acc:=rfl
theorem KFP (acc:Nat) (c:UInt8) (r:List UInt8):dcv acc (c::r)=dcv (acc*10+(c.toNat - 48)) r:=List.foldl_cons ..
theorem KIU (l:List UInt8) (acc:Nat) (c:UInt8):dcv acc (l++[c])=dcv acc l*10+(c.toNat - 48):=by
 unfold dcv
 rw [List.foldl_append,List.foldl_cons,List.foldl_nil]
theorem KOB:∀(l:List UInt8) (acc:Nat),acc≤dcv acc l
 | [],acc=>Nat.le_refl _
 |c::l,acc=>by rw [KFP];have:=KOB l (acc*10+(c.toNat - 48));omega
theorem KIV {a b:List UInt8} (h:a≠[]):(a++b).head?=a.head?:=by cases a with|nil=>exact absurd rfl h|cons c r=>rfl
theorem NM:∀(m u:Nat),u<m→(decDigits u).all digB=true∧dcv 0 (decDigits u)=u∧decDigits u≠[]∧((decDigits u).head?=some 48→u=0):=by
 intro m
 induction m with
 |zero=>intro u h;omega
 |succ m ih=>
  intro u h
  have hd:∀k,k<10→digB (UInt8.ofNat (48+k))=true∧(UInt8.ofNat (48+k)).toNat=48+k:=fun k hk=>by
   have h1:(UInt8.ofNat (48+k)).toNat=48+k:=by
    rw [UInt8.toNat_ofNat']
    exact Nat.mod_eq_of_lt (by omega)
   exact⟨by unfold digB;rw [h1,decide_eq_true (by omega),decide_eq_true (by omega)];rfl,h1⟩
  rw [decDigits]
  by_cases h10:u<10
  ·rw [dif_pos h10]
   obtain⟨a,b⟩:=hd u h10
   refine⟨by rw [List.all_cons,a];rfl,?_,by simp,fun hh=>?_⟩
   ·rw [KFP,KLH,b];omega
   ·have:UInt8.ofNat (48+u)=48:=by simpa using hh
    have h2:=congrArg UInt8.toNat this
    rw [b]at h2
    have:(48:UInt8).toNat=48:=rfl
    omega
  ·rw [dif_neg h10]
   obtain⟨a1,a2,a3,a4⟩:=ih (u / 10) (by omega)
   obtain⟨b1,b2⟩:=hd (u%10) (Nat.mod_lt _ (by decide))
   refine⟨by rw [List.all_append,a1,List.all_cons,b1];rfl,?_,by simp,fun hh=>?_⟩
   ·rw [KIU,a2,b2]
    omega
   ·rw [KIV a3]at hh
    have:=a4 hh
    omega
theorem KLI:∀(m:Nat) (l:List UInt8),l.length≤m→l≠[]→l.all digB=true→(l.head?=some 48→l=[48])→l=decDigits (dcv 0 l):=by
 intro m
 induction m with
 |zero=>intro l h hne;exact absurd (List.length_eq_zero_iff.1 (by omega)) hne
 |succ m ih=>
  intro l hl hne hd hz
  obtain⟨a,c,rfl⟩:∃a c,l=a++[c]:=⟨l.dropLast,l.getLast hne,(List.dropLast_concat_getLast hne).symm⟩
  rw [List.all_append,Bool.and_eq_true]at hd
  have hc:digB c=true:=by simpa using hd.2
  unfold digB at hc
  rw [Bool.and_eq_true,decide_eq_true_iff,decide_eq_true_iff]at hc
  have hcc:UInt8.ofNat (48+(c.toNat - 48))=c:=by
   rw [show 48+(c.toNat - 48)=c.toNat by omega,UInt8.ofNat_toNat]
  rw [KIU]
  by_cases ha:a=[]
  ·subst ha
   rw [KLH]
   rw [decDigits,dif_pos (by omega),Nat.zero_mul,Nat.zero_add,hcc]
   rfl
  ·rw [List.length_append,List.length_singleton]at hl
   have hh:a.head?=some 48→a=[48]:=fun h=>by
    have:=hz (by rw [KIV ha];exact h)
    have hlen:=congrArg List.length this
    rw [List.length_append]at hlen
    simp at hlen
    exact absurd hlen ha
   have h1:=ih a (by omega) ha hd.1 hh
   have hpos:1≤dcv 0 a:=by
    by_cases h0:dcv 0 a=0
    ·rw [h0]at h1
     exfalso
     have hz0:decDigits 0=[48]:=by rw [decDigits,dif_pos (by decide)];rfl
     rw [hz0]at h1
     have:=hz (by rw [h1];rfl)
     rw [h1]at this
     simp at this
    ·omega
   rw [decDigits,dif_neg (by omega),show(dcv 0 a*10+(c.toNat - 48)) / 10=dcv 0 a by omega,show(dcv 0 a*10+(c.toNat - 48))%10=c.toNat - 48 by omega,hcc,←h1]
theorem KBS (M:Nat):∀(l:List UInt8) (acc u:Nat),parseUintM M acc l=.ok u→u=dcv acc l∧(acc≤M→u≤M)
 | [],acc,u,h=>by rw [parseUintM]at h;cases h;exact⟨rfl,id⟩
 |c::r,acc,u,h=>by
  rw [parseUintM]at h
  split at h
  ·split at h
   ·cases h
   ·split at h
    ·cases h
    ·have:=KBS M r _ _ h
     exact⟨this.1,fun _=>this.2 (by omega)⟩
  ·cases h
theorem KDG (M:Nat) (hM:M<18446744073709551616):∀(l:List UInt8) (acc:Nat),l.all digB=true→dcv acc l≤M→parseUintM M acc l=.ok (dcv acc l)
 | [],acc,_,_=>by rw [parseUintM];rfl
 |c::r,acc,h,hv=>by
  rw [List.all_cons,Bool.and_eq_true]at h
  have hc:=h.1
  unfold digB at hc
  rw [Bool.and_eq_true,decide_eq_true_iff,decide_eq_true_iff]at hc
  rw [KFP]at hv
  have hge:=KOB r (acc*10+(c.toNat - 48))
  rw [parseUintM,if_pos hc,if_neg (by omega),if_neg (by omega),KDG M hM r _ h.2 hv]
  rfl
theorem KM1 {l:List UInt8} (h:l.all digB=true):numD l=l:=by
 unfold numD
 rw [if_neg]
 intro hh
 cases l with
 |nil=>cases hh
 |cons c r=>
  rw [List.all_cons,Bool.and_eq_true]at h
  have:c=45:=by simpa using hh
  subst this
  exact absurd h.1 (by decide)
theorem KDH {n:Int} (hn:I64 n):numP (itoa n)=(n,0):=by
 unfold I64 at hn
 have e63:(2:Nat)^(64 - 1)=9223372036854775808:=by decide
 have e64:(2:Nat)^64 - 1=18446744073709551615:=by decide
 unfold itoa
 split
 ·rename_i hneg
  obtain⟨a1,a2,a3,a4⟩:=NM _ n.natAbs (Nat.lt_succ_self _)
  have hD:numD (45::decDigits n.natAbs)=decDigits n.natAbs:=rfl
  unfold numP
  rw [hD,if_neg a3,if_neg (by rw [a1];decide),if_neg (fun hh=>by have:=a4 hh.1;omega)]
  have hp:parseIntB 64 (45::decDigits n.natAbs)=.ok n:=by
   unfold parseIntB
   dsimp only
   rw [if_pos (by right;rfl)]
   unfold parseUintB
   rw [if_neg a3,e64,KDG _ (by decide) _ _ a1 (by rw [a2];omega),a2,e63]
   have h45:(45:UInt8).toNat=45:=rfl
   dsimp only
   rw [if_neg (fun hh=>hh.1 h45),if_neg (fun hh=>by have:=hh.2;omega),if_pos h45]
   congr 1
   omega
  rw [hp]
 ·rename_i hpos
  obtain⟨a1,a2,a3,a4⟩:=NM _ n.toNat (Nat.lt_succ_self _)
  unfold numP
  rw [KM1 a1,if_neg a3,if_neg (by rw [a1];decide),if_neg (fun hh=>by
   have h0:=a4 hh.1
   rw [h0]at hh
   exact hh.2 (by rw [decDigits,dif_pos (by decide)];rfl))]
  have hp:parseIntB 64 (decDigits n.toNat)=.ok n:=by
   cases hdd:decDigits n.toNat with
   |nil=>exact absurd hdd a3
   |cons c r=>
    rw [hdd]at a1 a2 a3
    have hc:digB c=true:=by rw [List.all_cons,Bool.and_eq_true]at a1;exact a1.1
    unfold digB at hc
    rw [Bool.and_eq_true,decide_eq_true_iff,decide_eq_true_iff]at hc
    unfold parseIntB
    dsimp only
    rw [if_neg (by omega)]
    unfold parseUintB
    rw [if_neg a3,e64,KDG _ (by decide) _ _ a1 (by rw [a2];omega),a2,e63]
    dsimp only
    rw [if_neg (fun hh=>by have:=hh.2;omega),if_neg (fun hh=>by have:=hh.1;omega),if_neg (by omega)]
    congr 1
    omega
  rw [hp]
theorem KLJ {t:List UInt8} {n:Int} (h:numP t=(n,0)):t=itoa n:=by
 have e63:(2:Nat)^(64 - 1)=9223372036854775808:=by decide
 unfold numP at h
 split at h
 ·cases h
 rename_i h1
 split at h
 ·cases h
 rename_i h2
 split at h
 ·cases h
 rename_i h3
 have h2:(numD t).all digB=true:=by
  cases hh:(numD t).all digB with
  |true=>rfl
  |false=>exact absurd hh h2
 split at h
 ·rename_i m hm
  cases h
  cases t with
  |nil=>exact absurd rfl h1
  |cons c r=>
   unfold parseIntB at hm
   dsimp only at hm
   by_cases h45:c=45
   ·subst h45
    have hD:numD (45::r)=r:=rfl
    rw [hD]at h1 h2 h3
    rw [if_pos (by right;rfl)]at hm
    unfold parseUintB at hm
    rw [if_neg h1]at hm
    split at hm
    ·cases hm
    ·cases hm
    ·rename_i u hu
     have hv:=(KBS _ _ _ _ hu).1
     have hr:r=decDigits u:=by
      rw [hv]
      exact KLI _ r (Nat.le_refl _) h1 h2 (fun hh=>absurd ⟨hh,by simp⟩ h3)
     have h45':(45:UInt8).toNat=45:=rfl
     rw [if_neg (fun hh=>hh.1 h45'),e63]at hm
     split at hm
     ·cases hm
     ·cases hm
      have hu0:u≠0:=fun e=>by
       subst e
       have hz:r=[48]:=by rw [hr,decDigits,dif_pos (by decide)];rfl
       exact h3 ⟨by rw [hz];rfl,by simp⟩
      unfold itoa
      rw [if_pos (by omega),show(-(u:Int)).natAbs=u by omega,←hr]
   ·have hD:numD (c::r)=c::r:=by unfold numD;rw [List.head?_cons,if_neg (by simpa using h45)]
    rw [hD]at h1 h2 h3
    have hc:digB c=true:=by rw [List.all_cons,Bool.and_eq_true]at h2;exact h2.1
    unfold digB at hc
    rw [Bool.and_eq_true,decide_eq_true_iff,decide_eq_true_iff]at hc
    rw [if_neg (by omega)]at hm
    unfold parseUintB at hm
    rw [if_neg h1]at hm
    split at hm
    ·cases hm
    ·cases hm
    ·rename_i u hu
     have hv:=(KBS _ _ _ _ hu).1
     have hr:c::r=decDigits u:=by
      rw [hv]
      refine KLI _ _ (Nat.le_refl _) h1 h2 (fun hh=>?_)
      by_cases he:c::r=[48]
      ·exact he
      ·exact absurd ⟨hh,he⟩ h3
     split at hm
     ·cases hm
     ·split at hm
      ·cases hm
      ·rw [if_neg (by omega)]at hm
       cases hm
       unfold itoa
       rw [if_neg (by omega),Int.toNat_natCast,←hr]
 ·cases h
end Gx
namespace Gx
open Go
def hexc (n:Nat):UInt8:=if n<10 then UInt8.ofNat (48+n)else UInt8.ofNat (87+n)
theorem KGY:∀n,n<16→([48,49,50,51,52,53,54,55,56,57,97,98,99,100,101,102]:List UInt8)[n]?=some (hexc n):=by decide
theorem KOC {β:Type} {h:Heap} {Q:β→Heap→Prop} {l:List UInt8} {i:Nat} {t:Int} {c:UInt8} {f:Int→M β} (ht:t=(i:Int)) (hi:l[i]?=some c) (H:(f (c.toNat:Int)).wp h Q):(ixS (bs l) t>>=f).wp h Q:=by
 obtain⟨h1,rfl⟩:=List.getElem?_eq_some_iff.1 hi
 exact NI ht h1 H
theorem KKi.ext {h h':Heap} (H:KKi h) (e:Ext h h'):KKi h':=by
 obtain⟨cs,ty,fz,h1,h2⟩:=H
 exact⟨cs,ty,fz,e.blk h1,h2⟩
theorem KF6.ext {h h':Heap} (H:KF6 h) (e:Ext h h'):KF6 h':=by
 obtain⟨fz,ty,h1⟩:=H
 exact⟨fz,ty,e.blk h1⟩
end Gx
namespace Gx
open Go
def qc (c:UInt8):List UInt8:=if c<32∨126<c then [92,120,hexc (c.toNat / 16),hexc (c.toNat%16)]else if c=39∨c=92 then [92,c]else [c]
def Un (s:List UInt8):List UInt8:=39::s.flatMap qc++[39]
theorem KR4 (c:UInt8):(qc c).length≤4:=by unfold qc;split<;>(try split)<;>simp
theorem KLK {l:List UInt8} {i:Nat} (hi:i<l.length) (f:UInt8→List UInt8):(l.take (i+1)).flatMap f=(l.take i).flatMap f++f l[i]:=by
 rw [KKR hi,List.flatMap_append];simp
end Gx
namespace Gx
open Go
theorem KM2 {β:Type} {h0 h:Heap} {Q:β→Heap→Prop} {r:Sl} {l news:List UInt8} {n b:Nat} {f:Sl→M β} (G:Gw h0.size h r 1 (l.map bv)) (e:Ext h0 h) (hn:n=news.length) (hb:h[b]?=some (.cells (news.map bv).toArray ZJ (0,0)))
  (hm:l.length+news.length≤140737488355328)
  (H:∀h' r',Gw h0.size h' r' 1 ((l++news).map bv)→Ext h0 h'→(f r').wp h' Q):(apL ZJ 1 1 (#[.int .u8 0]:Array Value) r ⟨some ⟨b,0,none⟩,n,n⟩>>=f).wp h Q:=by
 subst hn
 have hl:=G.len
 simp at hl
 refine KA7 (vs:=l.map bv) (news:=news.map bv) rfl G (by simp) (.inr ⟨_,rfl,fun j v hj=>?_⟩) (fun v hv=>by obtain⟨x,_,rfl⟩:=List.mem_map.1 hv;rfl) (by dsimp only;omega) (by dsimp only;omega) e.size (fun h' r' G' hlen hs same on_=>?_)
 ·rw [Ke,KP hb]
  simpa using hj
 ·rw [←List.map_append]at G'
  exact H _ _ G' ⟨Nat.le_trans e.size hs,fun i hi=>(same i (Nat.lt_of_lt_of_le hi e.size) (fun ho=>by have:=(G.lt ho).2;omega)).trans (e.same i hi)⟩
theorem KQ2 {h0 h:Heap} {c:List UInt8} {b:Nat} (hl:h0.size≤b) (hb:h[b]?=some (.cells (c.map bv).toArray ZJ (0,0))):Gw h0.size h ⟨some ⟨b,0,none⟩,c.length,c.length⟩ 1 (c.map bv):=
 .inr ⟨b,_,_,rfl,hl,hb,by simp,Nat.le_refl _,by simp,fun j v hj=>by simpa using hj⟩
theorem KM3:(⟨#[48,49,50,51,52,53,54,55,56,57,97,98,99,100,101,102]⟩:ByteArray)=bs [48,49,50,51,52,53,54,55,56,57,97,98,99,100,101,102]:=rfl
theorem KGZ (s:List UInt8):(Un s).length=(s.flatMap qc).length+2:=by simp [Un]
theorem KPP (s:List UInt8):s.length≤(s.flatMap qc).length:=by
 induction s with
 |nil=>simp
 |cons a s ih=>rw [List.flatMap_cons,List.length_append,List.length_cons];have:1≤(qc a).length:=by {unfold qc;split<;>(try split)<;>simp};omega
theorem KIW (s:List UInt8) (i:Nat):((s.take i).flatMap qc).length≤(s.flatMap qc).length:=by
 conv=>rhs;rw [←List.take_append_drop i s,List.flatMap_append,List.length_append]
 omega
theorem KHf {s:List UInt8} {h:Heap} {Q:ByteArray→Heap→Prop} (hs:(Un s).length≤140737488355328) (H:∀h',Ext h h'→Q (bs (Un s)) h'):(U2 (bs s)).wp h Q:=by
 unfold U2
 rw [KGZ]at hs
 have hsl:=KPP s
 refine Nh ?_
 have e1:=Ext.push h (.cells #[.int .u8 39] ZJ)
 have g1:(h.push (.cells #[.int .u8 39] ZJ))[h.size]?=some (.cells (([39]:List UInt8).map bv).toArray ZJ (0,0)):=ZH
 generalize h.push (.cells #[.int .u8 39] ZJ)=h1 at e1 g1⊢
 refine M.loop_inv (fun(t:Sl×Int) h'=>∃i:Nat,t.2=(i:Int)∧i≤s.length∧Gw h.size h' t.1 1 ((39::(s.take i).flatMap qc).map bv)∧Ext h h') (fun t _=>((s.length:Int) - t.2).toNat) ?_ ⟨0,rfl,Nat.zero_le _,KQ2 (c:=[39]) (Nat.le_refl _) g1,e1⟩
 rintro⟨r,t⟩ h' ⟨i,hti,hi,G,E⟩ self hself
 have hti:t=(i:Int):=hti
 subst hti
 unfold WO
 rw [Zc]
 have hpi:=KIW s i
 refine KY (fun hc=>?_) (fun hc=>?_)
 ·have hlt':i<s.length:=by have:=of_decide_eq_true hc;omega
  have hpj:=KIW s (i+1)
  have htk:=KLK hlt' qc
  refine NI rfl hlt' ?_
  have hw64:IntKind.wrap .i64 ((i:Int)+1)=((i+1:Nat):Int):=by rw [w64 (by omega) (by omega)];simp
  have hnext:∀{h4:Heap} {r4:Sl},Gw h.size h4 r4 1 ((39::(s.take (i+1)).flatMap qc).map bv)→Ext h h4→(JX self (i:Int) r4).wp h4 Q:=fun G4 E4=>by
   unfold JX
   rw [hw64]
   exact hself (_,_) _ ⟨i+1,rfl,by omega,G4,E4⟩ (by dsimp only;omega)
  rw [htk]at hnext hpj
  have c32:(decide ((s[i].toNat:Int)<32))=decide (s[i]<32):=by rw [Bool.eq_iff_iff];simp [u8_lt_int]
  have c126:(decide ((s[i].toNat:Int)>126))=decide (126<s[i]):=by rw [Bool.eq_iff_iff];simp [u8_lt_int]
  have c39:((s[i].toNat:Int)==39)=decide (s[i]=39):=by
   rw [Bool.eq_iff_iff];simp only [beq_iff_eq,decide_eq_true_eq]
   exact⟨fun e=>UInt8.toNat_inj.1 (by simpa using (by omega:s[i].toNat=39)),fun e=>by rw [e];rfl⟩
  have c92:((s[i].toNat:Int)==92)=decide (s[i]=92):=by
   rw [Bool.eq_iff_iff];simp only [beq_iff_eq,decide_eq_true_eq]
   exact⟨fun e=>UInt8.toNat_inj.1 (by simpa using (by omega:s[i].toNat=92)),fun e=>by rw [e];rfl⟩
  refine or_b (c:=decide (s[i]=92)) (fun _ Q' hq'=>KI (by rw [c92];exact hq')) ?_
  rw [c39]
  refine KY (fun hy=>?_) (fun hy=>?_)
  ·have hy':s[i]=39∨s[i]=92:=by simpa using hy
   have hx':¬(s[i]<32∨126<s[i]):=by rcases hy' with e|e<;>rw [e]<;>decide
   have hqc:qc s[i]=[92,s[i]]:=by unfold qc;rw [if_neg hx',if_pos hy']
   rw [hqc]at hnext hpj
   simp only [List.length_append,List.length_cons,List.length_nil]at hpj
   refine Nh (KM2 (news:=[92,s[i]]) (G.ext (Ext.push _ _)) (E.pushed _) rfl ZH (by simp only [List.length_cons,List.length_append,List.length_nil];omega) (fun h4 r4 G4 E4=>hnext G4 E4))
  ·have hy':¬(s[i]=39∨s[i]=92):=by simpa using hy
   refine or_b (c:=decide (126<s[i])) (fun _ Q' hq'=>KI (by rw [c126];exact hq')) ?_
   rw [c32]
   refine KY (fun hx=>?_) (fun hx=>?_)
   ·have hx':s[i]<32∨126<s[i]:=by simpa using hx
    have hqc:qc s[i]=[92,120,hexc (s[i].toNat / 16),hexc (s[i].toNat%16)]:=by unfold qc;rw [if_pos hx']
    rw [hqc]at hnext hpj
    simp only [List.length_append,List.length_cons,List.length_nil]at hpj
    have hdiv:s[i].toNat / 16<16:=by have:=s[i].toNat_lt;omega
    rw [KM3]
    refine KOC (i:=s[i].toNat / 16) (by rw [Int.tdiv_eq_ediv_of_nonneg (by omega),IntKind.wrap_u8];omega) (KGY _ hdiv) (KOC (i:=s[i].toNat%16) (by rw [Int.tmod_eq_emod_of_nonneg (by omega)];omega) (KGY _ (Nat.mod_lt _ (by decide))) ?_)
    exact Nh (KM2 (news:=[92,120,hexc (s[i].toNat / 16),hexc (s[i].toNat%16)]) (G.ext (Ext.push _ _)) (E.pushed _) rfl ZH (by simp only [List.length_cons,List.length_append,List.length_nil];omega) (fun h4 r4 G4 E4=>hnext G4 E4))
   ·have hx':¬(s[i]<32∨126<s[i]):=by simpa using hx
    have hqc:qc s[i]=[s[i]]:=by unfold qc;rw [if_neg hx',if_neg hy']
    rw [hqc]at hnext hpj
    simp only [List.length_append,List.length_cons,List.length_nil]at hpj
    exact Nh (KM2 (news:=[s[i]]) (G.ext (Ext.push _ _)) (E.pushed _) rfl ZH (by simp only [List.length_cons,List.length_append,List.length_nil];omega) (fun h4 r4 G4 E4=>hnext G4 E4))
 ·have hge:i=s.length:=by have:=of_decide_eq_false hc;omega
  subst hge
  rw [List.take_length]at G hpi
  refine Nh (KM2 (news:=[39]) (G.ext (Ext.push _ _)) (E.pushed _) rfl ZH (by simp only [List.length_cons,List.length_append,List.length_nil];omega) (fun h4 r4 G4 E4=>?_))
  have B:=G4.bys
  exact KOk B.len.symm B.at_ (KI (H _ E4))
end Gx
namespace Gx
open Go
def dgt (u:Nat):List Nat:=if h:u<10 then [u]else dgt (u / 10)++[u%10]
termination_by u
decreasing_by omega
theorem KHg (u:Nat):Lib.decDigits u=(dgt u).map fun d=>UInt8.ofNat (48+d):=by
 induction u using Nat.strongRecOn with
 |_ u ih=>
  unfold dgt Lib.decDigits
  split
  ·rfl
  ·rw [ih (u / 10) (by omega)];simp
theorem KQ3 (u:Nat):∀d∈dgt u,d<10:=by
 induction u using Nat.strongRecOn with
 |_ u ih=>
  unfold dgt
  split
  ·intro d hd;simp at hd;omega
  ·intro d hd
   rcases List.mem_append.1 hd with hd|hd
   ·exact ih (u / 10) (by omega) d hd
   ·simp at hd;omega
theorem KDI:∀(k u:Nat),u<10^k→1≤k→(dgt u).length≤k
 |0,u,h,h1=>by omega
 |k+1,u,h,h1=>by
  unfold dgt
  split
  ·simp
  ·rename_i hu
   rw [List.length_append]
   have:1≤k:=by
    rcases Nat.eq_zero_or_pos k with h0|h0
    ·subst h0;omega
    ·exact h0
   have:=KDI k (u / 10) (by rw [Nat.pow_succ]at h;omega) this
   simp;omega
def dv (d:Nat):Value:=.int .i64 (d:Int)
theorem KGa {n:Int} {h:Heap} {Q:Sl→Heap→Prop} (hn:I64 n) (H:∀h' r,Ext h h'→Gw h.size h' r 1 ((dgt n.natAbs).map dv)→Q r h'):(Uf n).wp h Q:=by
 unfold Uf
 obtain⟨n1,n2⟩:=hn
 have hbare:(UY n).wp h (fun u h'=>u=(n.natAbs:Int)∧h'=h):=by
  unfold UY
  refine KY (fun hc=>?_) (fun hc=>?_)
  ·have:=of_decide_eq_true hc
   exact KI ⟨by rw [IntKind.wrap_u64,IntKind.wrap_u64];omega,rfl⟩
  ·have:=of_decide_eq_false hc
   exact KI ⟨by rw [IntKind.wrap_u64];omega,rfl⟩
 refine KL ((UY n).mono ?_ hbare)
 rintro u h' ⟨rfl,rfl⟩
 have hu:n.natAbs≤18446744073709551615:=by omega
 have hlen:(dgt n.natAbs).length≤20:=KDI 20 _ (by omega) (by decide)
 generalize n.natAbs=u at*
 refine M.loop_inv (fun(t:Int×Sl) h1=>∃(x:Nat) (l:List Nat),t.1=(x:Int)∧x≤18446744073709551615∧Ext h' h1∧Gw h'.size h1 t.2 1 (l.map dv)∧(if 0<x∨l=[]then dgt x else [])++l=dgt u) (fun t _=>t.1.toNat+(if t.2.len=0 then 1 else 0)) ?_ ⟨u,[],rfl,hu,Ext.refl _,Gw.nil _ _ _,by simp⟩
 rintro⟨t,r⟩ h1 ⟨x,l,ht,hx,E,G,hd⟩ self hself
 have ht:t=(x:Int):=ht
 subst ht
 have hrl:=G.len
 simp at hrl
 unfold Vz
 refine or_b (c:=decide (l=[])) (fun _ Q' hq'=>KI (by rw [show((r.len:Int)==0)=decide (l=[]) by rw [←hrl,Bool.eq_iff_iff];simp];exact hq')) ?_
 refine KY (fun hc=>?_) (fun hc=>?_)
 ·have hc':0<x∨l=[]:=by simpa using hc
  rw [if_pos hc']at hd
  have hsl:(dgt x).length+l.length=(dgt u).length:=by rw [←hd,List.length_append]
  have w1:IntKind.wrap .i64 (Int.tmod (x:Int) 10)=((x%10:Nat):Int):=by
   rw [Int.tmod_eq_emod_of_nonneg (by omega),w64 (by omega) (by omega)];omega
  have w2:IntKind.wrap .u64 (Int.tdiv (x:Int) 10)=((x / 10:Nat):Int):=by
   rw [Int.tdiv_eq_ediv_of_nonneg (by omega),IntKind.wrap_u64];omega
  rw [w1,w2]
  refine Nh ?_
  have e2:=Ext.push h1 (.cells #[.int .i64 ((x%10:Nat):Int)] VE)
  have g2:(h1.push (.cells #[.int .i64 ((x%10:Nat):Int)] VE))[h1.size]?=some (.cells #[.int .i64 ((x%10:Nat):Int)] VE (0,0)):=ZH
  generalize h1.push (.cells #[.int .i64 ((x%10:Nat):Int)] VE)=h2 at e2 g2⊢
  have G2:=G.ext e2
  have E2:=E.trans e2
  have Gn:Gw h'.size h2 ⟨some ⟨h1.size,0,none⟩,1,1⟩ 1 [dv (x%10)]:=.inr ⟨h1.size,_,_,rfl,E.size,g2,rfl,Nat.le_refl _,rfl,fun j v hj=>by rw [show(#[.int .i64 ((x%10:Nat):Int)]:Array Value)=[dv (x%10)].toArray from rfl];simpa using hj⟩
  refine KA7 (vs:=[dv (x%10)]) (news:=l.map dv) rfl Gn (by simp;exact hrl) G2.reads (fun v hv=>by obtain⟨y,_,rfl⟩:=List.mem_map.1 hv;rfl) (by dsimp only;omega) (by dsimp only;omega) E2.size (fun h3 r3 G3 hlen3 hs same on_=>?_)
  have E3:Ext h' h3:=⟨Nat.le_trans E2.size hs,fun i hi=>(same i (Nat.lt_of_lt_of_le hi E2.size) (fun ho=>by have:=(Gn.lt ho).2;omega)).trans (E2.same i hi)⟩
  refine hself (_,_) _ ⟨x / 10,(x%10)::l,rfl,by omega,E3,by simpa using G3,?_⟩ ?_
  ·rw [←hd]
   conv=>rhs;unfold dgt
   by_cases h10:x<10
   ·have hz:x / 10=0:=by omega
    simp [h10,hz,Nat.mod_eq_of_lt h10]
   ·have:0<x / 10:=by omega
    rw [if_pos (.inl this),dif_neg h10];simp
  ·dsimp only
   rw [hlen3]
   dsimp only
   rcases hc' with h0|h0
   ·rw [if_neg (by omega)];split<;>omega
   ·subst h0
    have:r.len=0:=by rw [←hrl];rfl
    rw [if_neg (by omega),if_pos this];omega
 ·have hc':¬(0<x∨l=[]):=by simpa using hc
  rw [if_neg hc',List.nil_append]at hd
  subst hd
  exact KI (H _ _ E G)
theorem KEG {β:Type} {h:Heap} {Q:β→Heap→Prop} {x y:List UInt8} {f:ByteArray→M β} (hm:x.length+y.length≤9223372036854775807) (H:(f (bs (x++y))).wp h Q):(sCat (bs x) (bs y)>>=f).wp h Q:=
 ⟨bs (x++y),⟨by rw [Zc,Zc];omega,by apply ByteArray.ext;simp [bs]⟩,H⟩
theorem KIX {n:Int} (hn:I64 n):(Lib.itoa n).length≤21:=by
 obtain⟨n1,n2⟩:=hn
 unfold Lib.itoa
 split
 ·rw [List.length_cons,KHg,List.length_map]
  have:=KDI 20 n.natAbs (by omega) (by decide)
  omega
 ·rw [KHg,List.length_map]
  have:=KDI 20 n.toNat (by omega) (by decide)
  omega
theorem zj {n:Int} {h:Heap} {Q:ByteArray→Heap→Prop} (hn:I64 n) (H:∀h',Ext h h'→Q (bs (Lib.itoa n)) h'):(J7 n).wp h Q:=by
 unfold J7
 have key:∀(p:List UInt8),p.length≤1→p++Lib.decDigits n.natAbs=Lib.itoa n→(UO n (bs p)).wp h Q:=fun p hp he=>by
  unfold UO
  refine KL (KGa hn (fun h1 r E G=>?_))
  have hrl:=G.len
  simp at hrl
  have hlen:(dgt n.natAbs).length≤20:=KDI 20 _ (by obtain⟨_,_⟩:=hn;omega) (by decide)
  rw [KHg]at he
  have hlt:=KQ3 n.natAbs
  generalize dgt n.natAbs=ds at*
  refine M.loop_inv (fun(t:ByteArray×Int) h2=>∃i:Nat,t.2=(i:Int)∧i≤ds.length∧t.1=bs (p++(ds.take i).map fun d=>UInt8.ofNat (48+d))∧Ext h h2∧Gw h.size h2 r 1 (ds.map dv)) (fun t _=>((ds.length:Int) - t.2).toNat) ?_ ⟨0,rfl,Nat.zero_le _,by simp,E,G⟩
  rintro⟨x,t⟩ h2 ⟨i,hti,hi,hx,E2,G2⟩ self hself
  have hti:t=(i:Int):=hti
  have hx:x=_:=hx
  subst hti;subst hx
  unfold Wc
  rw [←hrl]
  refine KY (fun hc=>?_) (fun hc=>?_)
  ·have hlt':i<ds.length:=by have:=of_decide_eq_true hc;omega
   obtain⟨b,hb,hcell'⟩:=G2.cell (j:=i) (v:=dv ds[i]) (by simp [hlt'])
   have hd:=hlt ds[i] (List.getElem_mem hlt')
   refine X6 (by omega) (by omega) hb (ZC (n:=(ds[i]:Int)) (by rw [Ke,show 0+(i:Int).toNat*1=i by omega];exact hcell') ?_)
   have hc8:IntKind.wrap .u8 (IntKind.wrap .i64 (48+(ds[i]:Int)))=((UInt8.ofNat (48+ds[i])).toNat:Int):=by
    rw [w64 (by omega) (by omega),IntKind.wrap_u8,UInt8.toNat_ofNat']
    omega
   rw [hc8]
   refine Nh ?_
   have g3:(h2.push (.cells #[.int .u8 ((UInt8.ofNat (48+ds[i])).toNat:Int)] ZJ))[h2.size]?=some (.cells (([UInt8.ofNat (48+ds[i])]:List UInt8).map bv).toArray ZJ (0,0)):=ZH
   have e3:=Ext.push h2 (.cells #[.int .u8 ((UInt8.ofNat (48+ds[i])).toNat:Int)] ZJ)
   have Gb:=KQ2 (h0:=h2) (c:=[UInt8.ofNat (48+ds[i])]) (Nat.le_refl _) g3
   refine KOk (ns:=[UInt8.ofNat (48+ds[i])]) rfl Gb.bys.at_ (KEG (y:=[UInt8.ofNat (48+ds[i])]) (by simp;omega) ?_)
   rw [w64 (by omega) (by omega)]
   refine hself (_,_) _ ⟨i+1,by simp,by omega,?_,E2.trans e3,G2.ext e3⟩ (by dsimp only;omega)
   dsimp only
   rw [List.take_succ_eq_append_getElem hlt',List.map_append,←List.append_assoc]
   rfl
  ·have hge:i=ds.length:=by have:=of_decide_eq_false hc;omega
   subst hge
   rw [List.take_length,he]
   exact KI (H _ E2)
 refine KY (fun hc=>?_) (fun hc=>?_)
 ·have:=of_decide_eq_true hc
  exact key [45] (by simp) (by unfold Lib.itoa;rw [if_pos this];rfl)
 ·have:=of_decide_eq_false hc
  exact key [] (by simp) (by unfold Lib.itoa;rw [if_neg this,show n.natAbs=n.toNat by omega];rfl)
end Gx
namespace Gx
open Go
def sv (s:List UInt8):Value:=.string (bs s)
def SsAt (h:Heap) (x:Sl) (ps:List (List UInt8)):Prop:=x.len=ps.length∧x.len≤x.cap∧Gq h x.base (ps.map sv)
theorem SsAt.ext {h h':Heap} {x:Sl} {ps:List (List UInt8)} (S:SsAt h x ps) (e:Ext h h'):SsAt h' x ps:=⟨S.1,S.2.1,e.reads S.2.2⟩
theorem SsAt.get {h:Heap} {x:Sl} {ps:List (List UInt8)} (S:SsAt h x ps) {i:Nat} (hi:i<ps.length):∃a,x.base=some a∧KM h (a.add i)=some (.string (bs ps[i])):=by
 obtain⟨_,_,R|⟨a,ha,R⟩⟩:=S
 ·have:ps=[]:=by simpa using R
  subst this;simp at hi
 ·exact⟨a,ha,R i _ (by simp [hi,sv])⟩
end Gx
namespace Gx
open Go
def shw (ev od:List UInt8):List (List UInt8)→List UInt8
 | []=>[]
 | [a]=>a
 |a::b::r=>a++(ev++shw od ev (b::r))
theorem KFQ:∀(ev od:List UInt8) (l:List (List UInt8)),(l.map List.length).sum≤(shw ev od l).length
 |_,_,[]=>by simp [shw]
 |_,_,[a]=>by simp [shw]
 |ev,od,a::b::r=>by
  have:=KFQ od ev (b::r)
  rw [shw,List.length_append,List.length_append,List.map_cons,List.sum_cons]
  omega
theorem KHh {l:List (List UInt8)} {a:List UInt8} (h:a∈l):a.length≤(l.map List.length).sum:=by
 induction l with
 |nil=>cases h
 |cons x l ih=>
  rw [List.map_cons,List.sum_cons]
  rcases List.mem_cons.1 h with rfl|h
  ·omega
  ·have:=ih h;omega
theorem KPQ {l:List (List UInt8)} (h:∀a∈l,1≤a.length):l.length≤(l.map List.length).sum:=by
 induction l with
 |nil=>simp
 |cons x l ih=>
  rw [List.map_cons,List.sum_cons,List.length_cons]
  have:=ih (fun a ha=>h a (List.mem_cons_of_mem _ ha))
  have:=h x (by simp)
  omega
def txt:Nat→Vl→List UInt8
 |0,_=>[63]
 |d+1,.mk k n s l=>
  if k=1 then Lib.itoa n else if k=2 then Un s else if k=3 then(if n=1 then [116,114,117,101]else [102,97,108,115,101])
  else if k=6 then [118,91]++Lib.itoa n++[93]else if k=7 then [101,91]++Lib.itoa n++[93]
  else if k=4 then [91]++shw [44,32] [44,32] (l.map (txt d))++[93]else if k=5 then [123]++shw [58,32] [44,32] (l.map (txt d))++[125]else [63]
theorem KM4 (n:Int):1≤(Lib.itoa n).length:=by
 have:∀u,1≤(Lib.decDigits u).length:=fun u=>by unfold Lib.decDigits;split<;>simp
 unfold Lib.itoa
 split
 ·simp
 ·exact this _
theorem KFR:∀(d:Nat) (v:Vl),1≤(txt d v).length
 |0,_=>by simp [txt]
 |d+1,.mk k n s l=>by
  unfold txt
  repeat' split
  all_goals first|exact KM4 n|(simp [Un];done)|(simp;omega)
theorem Gw.set {lo:Nat} {h:Heap} {r:Sl} {vs:List Value} {b j:Nat} {v:Value} (H:Gw lo h r 1 vs) (hb:r.base=some ⟨b,0,none⟩) (hj:j<vs.length):Gw lo (hset h ⟨b,j,none⟩ v) r 1 (vs.set j v):=by
 rcases H with⟨rfl,rfl⟩|⟨g,ty,cells,H⟩
 ·cases hb
 ·rw [H.base]at hb
  cases hb
  refine .inr ⟨b,ty,_,H.base,H.lo,Ul H.blk,by rw [Array.size_setIfInBounds];exact H.size,H.cap,by rw [List.length_set];exact H.len,fun i x hx=>?_⟩
  rw [List.getElem?_set]at hx
  rw [Array.getElem?_setIfInBounds]
  split at hx
  ·rename_i hi
   subst hi
   cases hx
   have hc:=H.len
   have:=H.size
   have hcap:=H.cap
   rw [if_pos rfl,if_pos (by omega)]
  ·rename_i hi
   rw [if_neg hi]
   exact H.get i x hx
theorem KM5 {β:Type} {h:Heap} {Q:β→Heap→Prop} {a c:List UInt8} {x:List UInt8} {f:ByteArray→M β} (hm:a.length+x.length+c.length≤9223372036854775807) (H:(f (bs (a++x++c))).wp h Q):(sCat (bs a) (bs x)>>=fun y=>sCat y (bs c)>>=f).wp h Q:=
 KEG (by omega) (KEG (by simp only [List.length_append];omega) H)
end Gx
namespace Gx
open Go
abbrev txV (v:Vl):List UInt8:=txt 8 v
def KB6 (i:Nat) (ev od:List UInt8):List UInt8:=if i%2=0 then ev else od
theorem KIY (ev od a:List UInt8) (r:List (List UInt8)):shw ev od (a::r)=if r=[]then a else a++(ev++shw od ev r):=by
 cases r with
 |nil=>rfl
 |cons b r=>rw [if_neg (by simp)];rfl
theorem KDJ {d:Nat} (hd:d≤7) {l:List Vl} {h:Heap} {Q:ByteArray→Heap→Prop} {x:Sl} {ev od:List UInt8} (hx:VsRep h x l) (he:ev.length=2) (ho:od.length=2) (hm:(shw ev od (l.map (txt d))).length≤1099511627776)
  (hg:∀j (hj:j<l.length) h1 c (Q1:ByteArray→Heap→Prop),Ext h h1→VRep h1 l[j] c→(∀h2,Ext h1 h2→Q1 (bs (txt d l[j])) h2)→(J8 c ((8 - d:Nat):Int)).wp h1 Q1)
  (H:∀h',Ext h h'→Q (bs (shw ev od (l.map (txt d)))) h'):(YT x ((8 - (d+1):Nat):Int) (bs ev) (bs od)).wp h Q:=by
 unfold YT
 have hxl:=hx.len
 have hxb:=hx.big
 have hxc:=hx.cap
 have hsum:=KFQ ev od (l.map (txt d))
 have hcnt:l.length≤1099511627776:=by
  have:=KPQ (l:=l.map (txt d)) (fun a ha=>by obtain⟨y,_,rfl⟩:=List.mem_map.1 ha;exact KFR d y)
  rw [List.length_map]at this
  omega
 refine M.loop_inv (fun(t:ByteArray×Int) h'=>Ext h h'∧∃(i:Nat) (s:List UInt8),t=(bs s,(i:Int))∧i≤l.length∧s++shw (KB6 i ev od) (KB6 (i+1) ev od) ((l.drop i).map (txt d))=shw ev od (l.map (txt d))) (fun t _=>((l.length:Int) - t.2).toNat) ?_ ⟨Ext.refl h,0,[],rfl,Nat.zero_le _,by simp [KB6]⟩
 rintro t h' ⟨E,i,s,rfl,hi,hs⟩ self hself
 unfold WQ
 rw [hxl]
 have hls:s.length≤1099511627776:=by rw [←hs,List.length_append]at hm;omega
 refine KY (fun hc=>?_) (fun hc=>?_)
 ·have hlt:i<l.length:=by have:=of_decide_eq_true hc;omega
  have hti:(txt d l[i]).length≤1099511627776:=by
   have:=KHh (l:=l.map (txt d)) (a:=txt d l[i]) (List.mem_map.2 ⟨_,List.getElem_mem hlt,rfl⟩)
   omega
  rw [List.drop_eq_getElem_cons hlt,List.map_cons,KIY]at hs
  refine KFJ (hx.ext E) hlt rfl (fun a c hs' hcs hv=>Xc hs' hcs ?_)
  rw [show IntKind.wrap .i64 (((8 - (d+1):Nat):Int)+1)=((8 - d:Nat):Int) by rw [w64 (by omega) (by omega)];omega]
  refine KL (GI (GF _ _) (hg i hlt h' c _ E hv (fun h2 e2=>?_)))
  refine KEG (by omega) ?_
  rw [show IntKind.wrap .i64 ((i:Int)+1)=((i+1:Nat):Int) by rw [w64 (by omega) (by omega)];simp]
  have hnext:∀s',s'++shw (KB6 (i+1) ev od) (KB6 (i+1+1) ev od) ((l.drop (i+1)).map (txt d))=shw ev od (l.map (txt d))→(Jb self (i:Int) (bs s')).wp h2 Q:=fun s' h'=>by
   unfold Jb
   rw [show IntKind.wrap .i64 ((i:Int)+1)=((i+1:Nat):Int) by rw [w64 (by omega) (by omega)];simp]
   exact hself _ _ ⟨E.trans e2,i+1,s',rfl,by omega,h'⟩ (by dsimp only;omega)
  have hpk:KB6 (i+1+1) ev od=KB6 i ev od:=by unfold KB6;rw [show(i+1+1)%2=i%2 by omega]
  rw [hpk]at hnext
  refine Wf (c:=decide (i%2=0)) (fun _ Q' hq=>KI (by rw [show((Int.tmod (i:Int) 2)==0)=decide (i%2=0) by rw [Int.tmod_eq_emod_of_nonneg (by omega),Bool.eq_iff_iff];simp;omega];exact hq)) ?_
  by_cases hmore:i+1<l.length
  ·have hne:(l.drop (i+1)).map (txt d)≠[]:=by
    intro h0
    have:(l.drop (i+1)).length=0:=by simpa using congrArg List.length h0
    simp at this;omega
   rw [if_neg hne]at hs
   refine KY (fun hev=>?_) (fun hev=>?_)
   ·have hev:i%2=0:=by have:=hev;simp at this;exact this.2
    refine KEG (by simp;omega) (hnext _ ?_)
    rw [←hs]
    have:KB6 i ev od=ev:=by unfold KB6;rw [if_pos hev]
    rw [this];simp
   ·have hev:¬i%2=0:=by
     intro h0
     have h1:decide (((i+1:Nat):Int)<(l.length:Int))=true:=by simp;omega
     rw [h1,decide_eq_true h0]at hev
     cases hev
    refine iteT (by simp;omega) (KEG (by simp;omega) (hnext _ ?_))
    rw [←hs]
    have:KB6 i ev od=od:=by unfold KB6;rw [if_neg hev]
    rw [this];simp
  ·have h0:(l.drop (i+1)).map (txt d)=[]:=by rw [List.drop_eq_nil_iff.2 (by omega)];rfl
   rw [if_pos h0]at hs
   have hf:decide (((i+1:Nat):Int)<(l.length:Int))=false:=by simp;omega
   rw [hf]
   refine iteF rfl (iteF rfl (hnext _ ?_))
   rw [h0,←hs];simp [shw]
 ·have hge:i=l.length:=by have:=of_decide_eq_false hc;omega
  subst hge
  rw [List.drop_length]at hs
  have:=H _ E
  rw [←hs]at this
  exact KI (by simpa [shw] using this)
theorem KJd:∀(d:Nat) (v:Vl) {h:Heap} {Q:ByteArray→Heap→Prop} {x:Array Value},d≤8→VRep h v x→(txt d v).length≤1099511627776→(∀h',Ext h h'→Q (bs (txt d v)) h')→(J8 x ((8 - d:Nat):Int)).wp h Q:=by
 intro d
 induction d with
 |zero=>
  rintro v h Q x _ hx _ H
  unfold J8
  exact ZV (fun h1 e1 z1 g1=>iteT rfl (KI (H _ e1)))
 |succ d ih=>
  rintro⟨k,n,s,l⟩ h Q x hd hx hm H
  obtain⟨xs,rfl,k1,n1,s1,r1⟩:=VRep.eq.1 hx
  unfold J8
  refine ZV (fun h1 E z1 g1=>?_)
  have c0:KM h1 ((⟨h.size,0,none⟩:Addr).add 0)=some (.int .i64 k):=by rw [ZU g1];rfl
  have c1:KM h1 ((⟨h.size,0,none⟩:Addr).add 1)=some (.int .i64 n):=by rw [ZU g1];rfl
  have c2:KM h1 ((⟨h.size,0,none⟩:Addr).add 2)=some (.string (bs s)):=by rw [ZU g1];rfl
  have c3:KM h1 ((⟨h.size,0,none⟩:Addr).add 3)=some xs.v:=by rw [ZU g1];rfl
  have hil:=KIX n1
  refine iteF (by simp;omega) (ZC c0 (KY (fun h1k=>?_) (fun h1k=>?_)))
  ·have h1k:k=1:=by simpa using h1k
   unfold txt at H
   rw [if_pos h1k]at H
   exact ZC c1 (KL (zj n1 (fun h2 e2=>KI (H _ (E.trans e2)))))
  have h1k:¬k=1:=by simpa using h1k
  unfold txt at H hm
  rw [if_neg h1k]at H hm
  refine KY (fun h2k=>?_) (fun h2k=>?_)
  ·have h2k:k=2:=by simpa using h2k
   rw [if_pos h2k]at H hm
   exact Yh c2 (KL (KHf (by omega) (fun h2 e2=>KI (H _ (E.trans e2)))))
  have h2k:¬k=2:=by simpa using h2k
  rw [if_neg h2k]at H hm
  refine KY (fun h3k=>?_) (fun h3k=>?_)
  ·have h3k:k=3:=by simpa using h3k
   rw [if_pos h3k]at H
   refine ZC c1 (KY (fun hn=>?_) (fun hn=>?_))
   ·have hn:n=1:=by simpa using hn
    rw [if_pos hn]at H
    exact KI (H _ E)
   ·have hn:¬n=1:=by simpa using hn
    rw [if_neg hn]at H
    exact KI (H _ E)
  have h3k:¬k=3:=by simpa using h3k
  rw [if_neg h3k]at H hm
  refine KY (fun h6k=>?_) (fun h6k=>?_)
  ·have h6k:k=6:=by simpa using h6k
   rw [if_pos h6k]at H
   exact ZC c1 (KL (zj n1 (fun h2 e2=>KM5 (a:=[118,91]) (c:=[93]) (by simp;omega) (KI (H _ (E.trans e2))))))
  have h6k:¬k=6:=by simpa using h6k
  rw [if_neg h6k]at H hm
  refine KY (fun h7k=>?_) (fun h7k=>?_)
  ·have h7k:k=7:=by simpa using h7k
   rw [if_pos h7k]at H
   exact ZC c1 (KL (zj n1 (fun h2 e2=>KM5 (a:=[101,91]) (c:=[93]) (by simp;omega) (KI (H _ (E.trans e2))))))
  have h7k:¬k=7:=by simpa using h7k
  rw [if_neg h7k]at H hm
  refine KY (fun h4k=>?_) (fun h4k=>?_)
  ·have h4k:k=4:=by simpa using h4k
   rw [if_pos h4k]at H hm
   simp only [List.length_append,List.length_cons,List.length_nil]at hm
   exact Jm c3 (KL (GI (Xs _ _ _ _) (KDJ (d:=d) (by omega) (ev:=[44,32]) (od:=[44,32]) (r1.ext E) rfl rfl (by omega) (fun j hj h4 c Q1 e4 hv hq=>ih _ (by omega) hv (by have:=KHh (l:=l.map (txt d)) (a:=txt d l[j]) (List.mem_map.2 ⟨_,List.getElem_mem hj,rfl⟩);have:=KFQ [44,32] [44,32] (l.map (txt d));omega) hq) (fun h2 e2=>KM5 (a:=[91]) (c:=[93]) (by simp;omega) (KI (H _ (E.trans e2)))))))
  have h4k:¬k=4:=by simpa using h4k
  rw [if_neg h4k]at H hm
  refine KY (fun h5k=>?_) (fun h5k=>?_)
  ·have h5k:k=5:=by simpa using h5k
   rw [if_pos h5k]at H hm
   simp only [List.length_append,List.length_cons,List.length_nil]at hm
   exact Jm c3 (KL (GI (Xs _ _ _ _) (KDJ (d:=d) (by omega) (ev:=[58,32]) (od:=[44,32]) (r1.ext E) rfl rfl (by omega) (fun j hj h4 c Q1 e4 hv hq=>ih _ (by omega) hv (by have:=KHh (l:=l.map (txt d)) (a:=txt d l[j]) (List.mem_map.2 ⟨_,List.getElem_mem hj,rfl⟩);have:=KFQ [58,32] [44,32] (l.map (txt d));omega) hq) (fun h2 e2=>KM5 (a:=[123]) (c:=[125]) (by simp;omega) (KI (H _ (E.trans e2)))))))
  ·have h5k:¬k=5:=by simpa using h5k
   rw [if_neg h5k]at H
   exact KI (H _ E)
theorem KJe {v:Vl} {h:Heap} {Q:ByteArray→Heap→Prop} {x:Array Value} (hx:VRep h v x) (hm:(txV v).length≤1099511627776) (H:∀h',Ext h h'→Q (bs (txV v)) h'):(VV x).wp h Q:=by
 unfold VV
 exact ZV (fun h1 e1 z1 g1=>KJU (v:=v) g1 hx.size (KL (KJd 8 v (Nat.le_refl _) (hx.ext e1) hm (fun h2 e2=>KI (H _ (e1.trans e2))))))
end Gx
namespace Gx
open Go Go.Proofs Go.Shelf Go.RowKit Go.Lib
def At (s:List UInt8) (i:Nat) (w:List UInt8):Prop:=(s.drop i).take w.length=w
theorem At.nil (s:List UInt8) (i:Nat):At s i []:=by unfold At;simp
theorem KBT {s:List UInt8} {i:Nat} {c:UInt8} {r:List UInt8}:At s i (c::r)↔s[i]?=some c∧At s (i+1) r:=by
 unfold At
 by_cases hi:i<s.length
 ·rw [List.drop_eq_getElem_cons hi,List.length_cons,List.take_succ_cons,List.getElem?_eq_getElem hi]
  simp
 ·rw [List.drop_of_length_le (by omega),List.getElem?_eq_none (by omega)]
  simp
theorem Z5 {s:List UInt8}:∀{a b:List UInt8} {i:Nat},At s i (a++b)↔At s i a∧At s (i+a.length) b
 | [],b,i=>by simp [At.nil]
 |c::a,b,i=>by
  rw [List.cons_append,KBT,KBT,Z5,List.length_cons,show i+1+a.length=i+(a.length+1) by omega,and_assoc]
theorem At.here {s:List UInt8} {i:Nat} {c:UInt8} {r:List UInt8} (h:At s i (c::r)):KV s i=c:=by
 unfold KV
 rw [(KBT.1 h).1]
 rfl
theorem At.len {s:List UInt8} {i:Nat} {w:List UInt8} (h:At s i w) (hw:w≠[]):i+w.length≤s.length:=by
 have:=congrArg List.length h
 rw [List.length_take,List.length_drop]at this
 have:0<w.length:=List.length_pos_iff.2 hw
 omega
theorem W5 {s:List UInt8}:∀{lit:List UInt8} {i:Nat},At s i lit→GM s lit i=.ok (i+lit.length)
 | [],i,h=>rfl
 |c::r,i,h=>by
  rw [KBT]at h
  rw [GM,if_pos h.1,W5 h.2,List.length_cons]
  congr 1
  omega
theorem Vd {s lit:List UInt8} {i j:Nat} (h:GM s lit i=.ok j):At s i lit∧j=i+lit.length:=⟨(Vm h).2.2,(Vm h).1⟩
theorem W6 {s:List UInt8} {i:Nat} {c:UInt8} (h:KV s i=c) (hc:c≠0):At s i [c]:=by
 have hi:i<s.length:=Vi (by rw [h];exact hc)
 rw [KBT]
 refine⟨?_,At.nil _ _⟩
 rw [List.getElem?_eq_getElem hi,←GH hi,h]
theorem At.get {s:List UInt8} {i:Nat} {w:List UInt8} (h:At s i w) {k:Nat} (hk:k<w.length):KV s (i+k)=w[k]:=by
 have h1:At s i (w.take k++w.drop k):=by rw [List.take_append_drop];exact h
 rw [Z5,List.length_take,Nat.min_eq_left (by omega),List.drop_eq_getElem_cons hk]at h1
 exact h1.2.here
theorem At.cut {s:List UInt8} {i:Nat} {w:List UInt8} (h:At s i w) {k:Nat} (hk:k≤w.length):(s.drop i).take (i+k - i)=w.take k:=by
 unfold At at h
 rw [show i+k - i=k by omega,←h,List.take_take,Nat.min_eq_left hk]
theorem KEH:∀(m u:Nat) (p:List UInt8),u<m→p≠[]→p<+:decDigits u→∃u',u'≤u∧p=decDigits u':=by
 intro m
 induction m with
 |zero=>intro u p h;omega
 |succ m ih=>
  intro u p h hp hpre
  by_cases h10:u<10
  ·rw [decDigits,dif_pos h10]at hpre
   refine⟨u,Nat.le_refl _,?_⟩
   rw [decDigits,dif_pos h10]
   obtain⟨q,hq⟩:=hpre
   cases p with
   |nil=>exact absurd rfl hp
   |cons a r=>
    obtain⟨q1,q2⟩:=List.cons.inj hq
    rw [q1,(List.append_eq_nil_iff.1 q2).1]
  ·rw [decDigits,dif_neg h10]at hpre
   rcases List.prefix_concat_iff.1 hpre with he|hpre
   ·exact⟨u,Nat.le_refl _,by rw [he];conv=>rhs;rw [decDigits,dif_neg h10]⟩
   ·obtain⟨u',h1,h2⟩:=ih (u / 10) p (by omega) hp hpre
    exact⟨u',by omega,h2⟩
def sgn (n:Int):Nat:=if n<0 then 1 else 0
theorem KCG {n:Int} (hn:I64 n) {k:Nat} (h1:sgn n≤k) (h2:k<(itoa n).length):digB (itoa n)[k]=true∧∃m,numP ((itoa n).take (k+1))=(m,0):=by
 unfold I64 at hn
 unfold sgn at h1
 by_cases hneg:n<0
 ·have hT:itoa n=45::decDigits n.natAbs:=by unfold itoa;rw [if_pos hneg]
  obtain⟨a1,a2,a3,a4⟩:=NM _ n.natAbs (Nat.lt_succ_self _)
  rw [if_pos hneg]at h1
  obtain⟨k,rfl⟩:∃q,k=q+1:=⟨k - 1,by omega⟩
  simp only [hT]
  rw [hT,List.length_cons]at h2
  have hk:k<(decDigits n.natAbs).length:=by omega
  refine⟨?_,?_⟩
  ·rw [List.getElem_cons_succ]
   exact List.all_eq_true.1 a1 _ (List.getElem_mem hk)
  ·rw [List.take_succ_cons]
   have hne:(decDigits n.natAbs).take (k+1)≠[]:=by
    intro e
    have:=congrArg List.length e
    rw [List.length_take,List.length_nil]at this
    omega
   obtain⟨u',hu,hp⟩:=KEH _ n.natAbs _ (Nat.lt_succ_self _) hne (List.take_prefix _ _)
   have hu0:u'≠0:=fun e=>by
    subst e
    have hz:decDigits 0=[48]:=by rw [decDigits,dif_pos (by decide)];rfl
    rw [hz]at hp
    have:(decDigits n.natAbs).head?=some 48:=by
     have:=congrArg List.head? hp
     rw [List.head?_take]at this
     simpa using this
    have:=a4 this
    omega
   refine⟨-(u':Int),?_⟩
   rw [hp]
   have:=KDH (n:=-(u':Int)) ⟨by omega,by omega⟩
   rw [itoa,if_pos (by omega),show(-(u':Int)).natAbs=u' by omega]at this
   exact this
 ·have hT:itoa n=decDigits n.toNat:=by unfold itoa;rw [if_neg hneg]
  obtain⟨a1,a2,a3,a4⟩:=NM _ n.toNat (Nat.lt_succ_self _)
  simp only [hT]
  rw [hT]at h2
  refine⟨List.all_eq_true.1 a1 _ (List.getElem_mem h2),?_⟩
  have hne:(decDigits n.toNat).take (k+1)≠[]:=by
   intro e
   have:=congrArg List.length e
   rw [List.length_take,List.length_nil]at this
   omega
  obtain⟨u',hu,hp⟩:=KEH _ n.toNat _ (Nat.lt_succ_self _) hne (List.take_prefix _ _)
  refine⟨(u':Int),?_⟩
  rw [hp]
  have:=KDH (n:=(u':Int)) ⟨by omega,by omega⟩
  rw [itoa,if_neg (by omega),Int.toNat_natCast]at this
  exact this
theorem KGb {s:List UInt8} {fr:Nat} {N:Int} (hN:I64 N) (ha:At s fr (itoa N)) (hf:digB (KV s (fr+(itoa N).length))=false):∀(f k:Nat) (n:Int),sgn N≤k→k≤(itoa N).length→(itoa N).length≤k+f→(k=(itoa N).length→n=N)→numL s fr f (fr+k) n=.ok (N,fr+(itoa N).length)
 |0,k,n,h1,h2,h3,h4=>by
  have:k=(itoa N).length:=by omega
  rw [numL,h4 this,this]
 |f+1,k,n,h1,h2,h3,h4=>by
  rw [numL]
  by_cases hk:k=(itoa N).length
  ·rw [hk,if_neg (by rw [hf];decide),h4 hk]
  ·have hkl:k<(itoa N).length:=by omega
   obtain⟨hd,m,hm⟩:=KCG hN h1 hkl
   rw [ha.get hkl,if_pos hd,show fr+k+1 - fr=fr+(k+1) - fr by omega,ha.cut (k:=k+1) hkl,hm,if_neg (show ¬((0:Int)=7) by decide),if_neg (show ¬((0:Int)≠0) by decide)]
   refine KGb hN ha hf f (k+1) m (by omega) hkl (by omega) (fun he=>?_)
   rw [he,List.take_length,KDH hN]at hm
   cases hm
   rfl
theorem KHi (n:Int):itoa n≠[]:=by
 unfold itoa
 split
 ·simp
 ·exact(NM _ _ (Nat.lt_succ_self _)).2.2.1
theorem KIZ {s:List UInt8} {i:Nat} {n:Int} (hn:I64 n) (ha:At s i (itoa n)) (hf:digB (KV s (i+(itoa n).length))=false):numF s i=.ok (n,i+(itoa n).length):=by
 have hlen:=ha.len (KHi n)
 have hpos:0<(itoa n).length:=List.length_pos_iff.2 (KHi n)
 have h0:=ha.get hpos
 have hJ:numJ s i=i+sgn n:=by
  unfold numJ sgn
  rw [Nat.add_zero]at h0
  by_cases hneg:n<0
  ·have hT:itoa n=45::decDigits n.natAbs:=by unfold itoa;rw [if_pos hneg]
   have:KV s i=45:=by rw [h0];simp only [hT];rfl
   rw [if_pos this,if_pos hneg]
  ·have hT:itoa n=decDigits n.toNat:=by unfold itoa;rw [if_neg hneg]
   obtain⟨hd,_⟩:=KCG hn (k:=0) (by unfold sgn;rw [if_neg hneg];exact Nat.le_refl _) hpos
   have:KV s i≠45:=by
    rw [h0]
    intro e
    rw [e]at hd
    exact absurd hd (by decide)
   rw [if_neg this,if_neg hneg]
   rfl
 have hs:sgn n<(itoa n).length:=by
  unfold sgn
  split
  ·rename_i hneg
   have hT:itoa n=45::decDigits n.natAbs:=by unfold itoa;rw [if_pos hneg]
   have:=List.length_pos_iff.2 (NM _ n.natAbs (Nat.lt_succ_self _)).2.2.1
   rw [hT,List.length_cons]
   omega
  ·exact hpos
 obtain⟨hd,_⟩:=KCG hn (Nat.le_refl _) hs
 unfold numF
 rw [hJ,ha.get hs,if_neg]
 ·exact KGb hn ha hf _ _ _ (Nat.le_refl _) (by omega) (by omega) (fun he=>by omega)
 ·intro hh
  rcases hh with hh|⟨h1,h2⟩
  ·rw [hd]at hh;cases hh
  ·have hneg:n<0:=by
    unfold sgn at h1
    by_cases h:n<0
    ·exact h
    ·rw [if_neg h]at h1;omega
   have hT:itoa n=45::decDigits n.natAbs:=by unfold itoa;rw [if_pos hneg]
   have hs1:sgn n=1:=by unfold sgn;rw [if_pos hneg]
   simp only [hs1,hT,List.getElem_cons_succ]at h2
   obtain⟨_,_,a3,a4⟩:=NM _ n.natAbs (Nat.lt_succ_self _)
   have:(decDigits n.natAbs).head?=some 48:=by
    rw [List.head?_eq_getElem?,List.getElem?_eq_getElem (List.length_pos_iff.2 a3),h2]
   have:=a4 this
   omega
theorem KGc {s:List UInt8} {fr:Nat}:∀{f i:Nat} {n m:Int} {j:Nat},numL s fr f i n=.ok (m,j)→numP ((s.drop fr).take (i - fr))=(n,0)→numP ((s.drop fr).take (j - fr))=(m,0)
 |0,i,n,m,j,h,hp=>by cases h;exact hp
 |f+1,i,n,m,j,h,hp=>by
  rw [numL]at h
  split at h
  ·split at h
   ·cases h
   ·split at h
    ·cases h;exact hp
    ·rename_i h0
     refine KGc h ?_
     have h0:=Classical.not_not.1 h0
     rw [←h0]
  ·cases h;exact hp
theorem KIa {s:List UInt8} {i j:Nat} {n:Int} (h:numF s i=.ok (n,j)) (hi:i≤s.length):At s i (itoa n)∧j=i+(itoa n).length:=by
 have hok:=KC9 h hi
 have key:numP ((s.drop i).take (j - i))=(n,0):=by
  unfold numF at h
  split at h
  ·cases h
  ·rename_i hb
   have hd:digB (KV s (numJ s i))=true:=by
    cases hh:digB (KV s (numJ s i))with
    |true=>rfl
    |false=>exact absurd (.inl hh) hb
   have hil:=KIQ hd
   rw [show s.length - numJ s i=(s.length - (numJ s i+1))+1 by omega,numL,if_pos hd]at h
   split at h
   ·cases h
   ·split at h
    ·rename_i h7 h0
     exfalso
     cases h
     by_cases h45:KV s i=45
     ·have hJ:numJ s i=i+1:=by unfold numJ;rw [if_pos h45]
      rw [hJ]at hb hd hil h0
      have h2:(s.drop i).take (i+1+1 - i)=[45,KV s (i+1)]:=by
       rw [show i+1+1 - i=2 by omega,List.drop_eq_getElem_cons (by omega),List.drop_eq_getElem_cons hil]
       rw [GH hil,←h45,GH (by omega)]
       rfl
      rw [h2]at h0
      exact h0 ((qA hd).2 (fun e=>hb (.inr ⟨by omega,e⟩)))
     ·have hJ:numJ s i=i:=by unfold numJ;rw [if_neg h45]
      rw [hJ]at hd hil h0
      have h2:(s.drop i).take (i+1 - i)=[KV s i]:=by
       rw [show i+1 - i=1 by omega,List.drop_eq_getElem_cons hil,GH hil]
       rfl
      rw [h2]at h0
      exact h0 (qA hd).1
    ·rename_i h0
     have h0:=Classical.not_not.1 h0
     exact KGc h (by rw [←h0])
 have ht:=KLJ key
 have hl:=congrArg List.length ht
 rw [List.length_take,List.length_drop]at hl
 have hj:j=i+(itoa n).length:=by omega
 refine⟨?_,hj⟩
 unfold At
 rw [←ht]
 conv=>lhs;rw [List.length_take,List.length_drop,Nat.min_eq_left (by omega)]
end Gx
namespace Gx
open Go Go.Proofs Go.Shelf Go.RowKit Go.Lib
theorem KLL:∀k:Fin 16,hexN (hexc k.val)=(k.val:Int):=by decide+kernel
theorem KOD {k:Nat} (h:k<16):hexN (hexc k)=(k:Int):=KLL ⟨k,h⟩
theorem KM6:∀k:Fin 16,hexD[k.val]?=some (hexc k.val):=by decide+kernel
theorem KIb {c:UInt8} (h:0≤hexN c):c=hexc (hexN c).toNat:=by
 have hle:=KC8 c
 have h1:Lib.indexByte hexD c=(((hexN c).toNat:Nat):Int):=by rw [Int.toNat_of_nonneg h];rfl
 have h2:=(Lib.indexByte_some h1).1
 rw [KM6 ⟨(hexN c).toNat,by omega⟩]at h2
 exact(Option.some.inj h2).symm
theorem KJf {a b:UInt8}:a<b↔a.toNat<b.toNat:=UInt8.lt_iff_toNat_lt
theorem KIc {c:UInt8} (h:c.toNat<32∨126<c.toNat):qc c=[92,120,hexc (c.toNat / 16),hexc (c.toNat%16)]:=by
 unfold qc
 rw [if_pos (by rw [KJf,KJf];exact h)]
theorem KId {c:UInt8} (h:c=39∨c=92):qc c=[92,c]:=by
 unfold qc
 rw [if_neg (by rw [KJf,KJf];rcases h with rfl|rfl<;>decide),if_pos h]
theorem KPR {c:UInt8} (h:¬(c.toNat<32∨126<c.toNat)) (h2:¬(c=39∨c=92)):qc c=[c]:=by
 unfold qc
 rw [if_neg (by rw [KJf,KJf];exact h),if_neg h2]
theorem KM7 {s:List UInt8} {i:Nat} {c:UInt8} {w:List UInt8} (hq:qc c=92::w) (ha:At s i w) (hw:w≠[]) (hne:c.toNat<32∨126<c.toNat∨c=39∨c=92):escP s i=.ok (c,i+w.length):=by
 by_cases h:c.toNat<32∨126<c.toNat
 ·rw [KIc h]at hq
  cases hq
  have hlt:c.toNat<256:=c.toNat_lt
  have a0:=ha.get (k:=0) (by simp)
  have a1:=ha.get (k:=1) (by simp)
  have a2:=ha.get (k:=2) (by simp)
  simp only [Nat.add_zero,List.getElem_cons_zero,List.getElem_cons_succ]at a0 a1 a2
  have hm:GM s [120] i=.ok (i+1):=W5 (lit:=[120]) ((Z5 (a:=[120]) (b:=[hexc (c.toNat / 16),hexc (c.toNat%16)])).1 ha).1
  have e1:hexN (KV s (i+1))=((c.toNat / 16:Nat):Int):=by rw [a1,KOD (by omega)]
  have e2:hexN (KV s (i+1+1))=((c.toNat%16:Nat):Int):=by rw [show i+1+1=i+2 by omega,a2,KOD (by omega)]
  unfold escP
  rw [a0,if_neg (by decide),hm]
  dsimp only
  rw [e1,e2,if_neg (by omega),if_neg (by omega)]
  have:UInt8.ofNat ((((c.toNat / 16:Nat):Int)*16+((c.toNat%16:Nat):Int)).toNat)=c:=by
   rw [show(((c.toNat / 16:Nat):Int)*16+((c.toNat%16:Nat):Int)).toNat=c.toNat by omega,UInt8.ofNat_toNat]
  rw [this]
  rfl
 ·have h2:c=39∨c=92:=by
   rcases hne with h3|h3|h3|h3
   ·exact absurd (.inl h3) h
   ·exact absurd (.inr h3) h
   ·exact .inl h3
   ·exact .inr h3
  rw [KId h2]at hq
  cases hq
  unfold escP
  rw [ha.here,if_pos h2]
  rfl
theorem KGd {s:List UInt8}:∀(t:List UInt8) (f i:Nat) (acc:List UInt8),At s i (t.flatMap qc++[39])→t.length<f→strL s f i acc=.ok (acc++t,i+(t.flatMap qc).length+1)
 | [],f,i,acc,ha,hf=>by
  obtain⟨f,rfl⟩:∃g,f=g+1:=⟨f - 1,by omega⟩
  rw [List.flatMap_nil,List.nil_append]at ha
  rw [strL,if_pos ha.here]
  simp
 |c::t,f,i,acc,ha,hf=>by
  obtain⟨f,rfl⟩:∃g,f=g+1:=⟨f - 1,by omega⟩
  rw [List.length_cons]at hf
  rw [List.flatMap_cons,List.append_assoc]at ha
  have ha2:=Z5.1 ha
  have ih:=KGd t f (i+(qc c).length) (acc++[c]) ha2.2 (by omega)
  have hres:(Except.ok (acc++[c]++t,i+(qc c).length+(t.flatMap qc).length+1):Except Nat (List UInt8×Nat))=.ok (acc++c::t,i+((c::t).flatMap qc).length+1):=by
   rw [List.flatMap_cons,List.length_append,List.append_assoc,Nat.add_assoc i]
   rfl
  rw [hres]at ih
  rw [strL]
  by_cases h:(c.toNat<32∨126<c.toNat)∨(c=39∨c=92)
  ·have hw:∃w,qc c=92::w∧w≠[]:=by
    rcases h with h|h
    ·exact⟨_,KIc h,by simp⟩
    ·exact⟨_,KId h,by simp⟩
   obtain⟨w,hq,hwn⟩:=hw
   rw [hq]at ha2
   have h92:=ha2.1.here
   have hesc:=KM7 hq (KBT.1 ha2.1).2 hwn (by rcases h with(h|h)|(h|h)<;>simp [h])
   rw [h92,if_neg (by decide),if_neg (by decide),if_pos rfl,hesc]
   dsimp only
   rw [hq,List.length_cons]at ih
   rw [show i+1+w.length=i+(w.length+1) by omega]
   exact ih
  ·have h1:¬(c.toNat<32∨126<c.toNat):=fun hh=>h (.inl hh)
   have h2:¬(c=39∨c=92):=fun hh=>h (.inr hh)
   rw [KPR h1 h2]at ha2 ih
   have hh:=ha2.1.here
   rw [hh,if_neg (fun e=>h2 (.inl e)),if_neg h1,if_neg (fun e=>h2 (.inr e))]
   exact ih
theorem KQ4 (t:List UInt8):t.length≤(t.flatMap qc).length:=by
 induction t with
 |nil=>simp
 |cons c t ih=>
  rw [List.flatMap_cons,List.length_append,List.length_cons]
  have:1≤(qc c).length:=by unfold qc;split<;>(try split)<;>simp
  omega
theorem KM8 {s t:List UInt8} {i:Nat} (ha:At s i (Un t)):strP s i=.ok (t,i+(Un t).length):=by
 unfold Un at ha⊢
 have hl:=ha.len (by simp)
 have h1:At s i [39]∧At s (i+1) (t.flatMap qc++[39]):=by
  have:=(Z5 (a:=[39]) (b:=t.flatMap qc++[39]) (i:=i) (s:=s)).1 (by simpa using ha)
  exact this
 have hq:=KQ4 t
 simp only [List.length_cons,List.length_append,List.length_nil,List.cons_append]at hl
 unfold strP
 rw [W5 h1.1]
 dsimp only
 rw [List.length_singleton,KGd t _ (i+1) [] h1.2 (by omega)]
 simp only [List.nil_append,List.cons_append,List.length_cons,List.length_append,List.length_nil]
 congr 2
 omega
theorem KM9 {s:List UInt8} {i j:Nat} {c:UInt8} (h:escP s i=.ok (c,j)):∃w,qc c=92::w∧At s i w∧j=i+w.length:=by
 unfold escP at h
 split at h
 ·rename_i hc
  cases h
  refine⟨[KV s i],KId hc,W6 rfl (by rcases hc with h|h<;>(rw [h];decide)),rfl⟩
 ·split at h
  ·cases h
  ·rename_i j' hj
   obtain⟨a1,a2⟩:=Vd hj
   have a2:j'=i+1:=a2
   subst a2
   split at h
   ·cases h
   ·rename_i hb1
    split at h
    ·cases h
    ·rename_i hb2
     cases h
     have l1:=KC8 (KV s (i+1))
     have l2:=KC8 (KV s (i+1+1))
     have c1:0≤hexN (KV s (i+1)):=by omega
     have c2:0≤hexN (KV s (i+1+1)):=by omega
     generalize hx:hexN (KV s (i+1))=x at*
     generalize hy:hexN (KV s (i+1+1))=y at*
     have hv:(UInt8.ofNat ((x*16+y).toNat)).toNat=(x*16+y).toNat:=by
      rw [UInt8.toNat_ofNat']
      exact Nat.mod_eq_of_lt (by omega)
     refine⟨[120,KV s (i+1),KV s (i+1+1)],?_,?_,rfl⟩
     ·rw [KIc (by rw [hv];omega),hv]
      have e1:=KIb (c:=KV s (i+1)) (by rw [hx];exact c1)
      have e2:=KIb (c:=KV s (i+1+1)) (by rw [hy];exact c2)
      rw [hx]at e1
      rw [hy]at e2
      rw [e1,e2,show(x*16+y).toNat / 16=x.toNat by omega,show(x*16+y).toNat%16=y.toNat by omega]
     ·have hz1:KV s (i+1)≠0:=fun e=>by rw [e,KGT]at hx;omega
      have hz2:KV s (i+1+1)≠0:=fun e=>by rw [e,KGT]at hy;omega
      have b1:=W6 (s:=s) (i:=i+1) rfl hz1
      have b2:=W6 (s:=s) (i:=i+1+1) rfl hz2
      exact(Z5 (a:=[120]) (b:=[_,_])).2 ⟨a1,(Z5 (a:=[_]) (b:=[_])).2 ⟨b1,b2⟩⟩
theorem KDK {s:List UInt8}:∀{f i:Nat} {acc t:List UInt8} {j:Nat},strL s f i acc=.ok (t,j)→∃t',t=acc++t'∧At s i (t'.flatMap qc++[39])∧j=i+(t'.flatMap qc).length+1
 |0,i,acc,t,j,h=>by cases h
 |f+1,i,acc,t,j,h=>by
  rw [strL]at h
  split at h
  ·rename_i h39
   cases h
   exact⟨[],by simp,W6 h39 (by decide),rfl⟩
  ·rename_i h39
   split at h
   ·cases h
   ·rename_i hr
    split at h
    ·rename_i h92
     split at h
     ·cases h
     ·rename_i c j2 he
      obtain⟨w,hq,hw,hj⟩:=KM9 he
      obtain⟨t',h1,h2,h3⟩:=KDK h
      refine⟨c::t',by rw [h1];simp,?_,?_⟩
      ·rw [List.flatMap_cons,List.append_assoc,Z5,hq,List.length_cons]
       refine⟨(Z5 (a:=[92]) (b:=w)).2 ⟨W6 h92 (by decide),hw⟩,?_⟩
       rw [hj]at h2
       rw [show i+(w.length+1)=i+1+w.length by omega]
       exact h2
      ·rw [h3,hj,List.flatMap_cons,List.length_append,hq,List.length_cons]
       omega
    ·rename_i h92
     obtain⟨t',h1,h2,h3⟩:=KDK h
     have hq:=KPR (c:=KV s i) hr (fun hh=>hh.elim h39 h92)
     refine⟨KV s i::t',by rw [h1];simp,?_,?_⟩
     ·rw [List.flatMap_cons,List.append_assoc,Z5,hq]
      exact⟨W6 rfl (fun e=>hr (.inl (by rw [e];decide))),h2⟩
     ·rw [h3,List.flatMap_cons,List.length_append,hq]
      simp only [List.length_singleton]
      omega
theorem KNA {s t:List UInt8} {i j:Nat} (h:strP s i=.ok (t,j)):At s i (Un t)∧j=i+(Un t).length:=by
 unfold strP at h
 split at h
 ·cases h
 ·rename_i j1 hj
  obtain⟨a1,a2⟩:=Vd hj
  have a2:j1=i+1:=a2
  subst a2
  obtain⟨t',h1,h2,h3⟩:=KDK h
  rw [List.nil_append]at h1
  subst h1
  unfold Un
  refine⟨?_,by rw [h3];simp;omega⟩
  have:=(Z5 (a:=[39]) (b:=t.flatMap qc++[39]) (i:=i) (s:=s)).2 ⟨a1,h2⟩
  simpa using this
end Gx
namespace Gx
open Go Go.Proofs Go.Shelf Go.RowKit Go.Lib
def WfV:Nat→Vl→Prop
 |0,_=>True
 |d+1,.mk _ n _ l=>I64 n∧∀x∈l,WfV d x
def sepT (d:Nat) (l:List Vl):List UInt8:=l.flatMap (fun x=>[44,32]++txt d x)
def mapT (d:Nat):List Vl→List UInt8
 |a::b::r=>[44,32]++(txt d a++([58,32]++(txt d b++mapT d r)))
 |_=>[]
theorem KFS (d:Nat):∀(l:List Vl) (a:Vl),shw [44,32] [44,32] ((a::l).map (txt d))=txt d a++sepT d l
 | [],a=>by simp [shw,sepT]
 |b::l,a=>by
  have:=KFS d l b
  simp only [List.map_cons]at this⊢
  rw [shw,this]
  simp [sepT]
theorem KFT (d:Nat):∀(n:Nat) (l:List Vl) (a b:Vl),l.length=2*n→shw [58,32] [44,32] ((a::b::l).map (txt d))=txt d a++([58,32]++(txt d b++mapT d l))
 |0,l,a,b,h=>by
  obtain rfl:l=[]:=List.length_eq_zero_iff.1 h
  simp [shw,mapT]
 |n+1,l,a,b,h=>by
  match l,h with
  |x::y::r,h=>
   have:=KFT d n r x y (by simp only [List.length_cons]at h;omega)
   simp only [List.map_cons]at this⊢
   rw [shw,shw,this,mapT]
theorem KIe (d:Nat) (n:Int) (s:List UInt8) (l:List Vl):txt (d+1) (.mk 4 n s l)=[91]++(shw [44,32] [44,32] (l.map (txt d))++[93]):=by
 rw [txt]
 simp
theorem KLM (d:Nat) (n:Int) (s:List UInt8) (l:List Vl):txt (d+1) (.mk 5 n s l)=[123]++(shw [58,32] [44,32] (l.map (txt d))++[125]):=by
 rw [txt]
 simp
theorem KGe {s:List UInt8} {d i j:Nat} {v:Vl} (h:pval s d i=.ok (v,j)):KV s i≠93∧KV s i≠125∧i<s.length:=by
 cases d with
 |zero=>cases h
 |succ d=>
  refine⟨fun e=>?_,fun e=>?_,Vi (fun e=>?_)⟩<;>
  ·rw [pval,e,if_neg (by decide),if_neg (by decide),if_neg (by decide),if_neg (by decide),if_neg (by decide),if_neg (by decide),if_neg (by decide),if_neg (by decide)]at h
   cases h
def Rds (s:List UInt8) (d:Nat) (v:Vl):Prop:=∀i,At s i (txt d v)→digB (KV s (i+(txt d v).length))=false→pval s d i=.ok (v,i+(txt d v).length)
theorem KGf {s:List UInt8} {d:Nat}:∀(l2 l1:List Vl) (f i:Nat),l1≠[]→(∀x∈l2,Rds s d x)→At s i (sepT d l2++[93])→l2.length<f→WF (pval s d) 93 false s f l1 i=.ok (l1++l2,i+(sepT d l2).length+1)
 | [],l1,f,i,h1,hr,ha,hf=>by
  obtain⟨f,rfl⟩:∃g,f=g+1:=⟨f - 1,by omega⟩
  rw [WF,if_pos (At.here ha)]
  simp [sepT]
 |x::l2,l1,f,i,h1,hr,ha,hf=>by
  obtain⟨f,rfl⟩:∃g,f=g+1:=⟨f - 1,by omega⟩
  rw [List.length_cons]at hf
  have hst:sepT d (x::l2)++[93]=[44,32]++(txt d x++(sepT d l2++[93])):=by simp [sepT]
  rw [hst]at ha
  obtain⟨a1,a2⟩:=Z5.1 ha
  obtain⟨a3,a4⟩:=Z5.1 a2
  have hnext:KV s (i+2+(txt d x).length)=44∨KV s (i+2+(txt d x).length)=93:=by
   cases l2 with
   |nil=>exact .inr (At.here a4)
   |cons y l2=>
    rw [show sepT d (y::l2)++[93]=44::(32::(txt d y++(sepT d l2++[93]))) by simp [sepT]]at a4
    exact .inl (At.here a4)
  have hp:=hr x (by simp) (i+2) a3 (by rcases hnext with h|h<;>(rw [h];decide))
  have ih:=KGf l2 (l1++[x]) f (i+2+(txt d x).length) (by simp) (fun y hy=>hr y (by simp [hy])) a4 (by omega)
  have hl1:¬l1.length=0:=fun e=>h1 (List.length_eq_zero_iff.1 e)
  rw [WF,if_neg (by rw [At.here a1];decide)]
  unfold sepP
  rw [if_neg hl1,W5 a1]
  dsimp only
  unfold X8
  rw [show i+([44,32]:List UInt8).length=i+2 from rfl,hp]
  dsimp only
  rw [if_neg (by decide)]
  dsimp only
  rw [if_neg (by rcases hnext with h|h<;>(rw [h];decide)),ih]
  have:(sepT d (x::l2)).length=2+(txt d x).length+(sepT d l2).length:=by simp [sepT];omega
  rw [this,List.append_assoc]
  congr 2
  omega
theorem KIf {s:List UInt8} {d:Nat}:∀(n:Nat) (l2 l1:List Vl) (f i:Nat),l2.length=2*n→l1≠[]→(∀x∈l2,Rds s d x)→At s i (mapT d l2++[125])→l2.length<f→WF (pval s d) 125 true s f l1 i=.ok (l1++l2,i+(mapT d l2).length+1)
 |0,l2,l1,f,i,hn,h1,hr,ha,hf=>by
  obtain rfl:l2=[]:=List.length_eq_zero_iff.1 hn
  obtain⟨f,rfl⟩:∃g,f=g+1:=⟨f - 1,by omega⟩
  rw [WF,if_pos (At.here ha)]
  simp [mapT]
 |n+1,l2,l1,f,i,hn,h1,hr,ha,hf=>by
  match l2,hn with
  |x::y::l2,hn=>
   obtain⟨f,rfl⟩:∃g,f=g+1:=⟨f - 1,by omega⟩
   simp only [List.length_cons]at hf hn
   have hst:mapT d (x::y::l2)++[125]=[44,32]++(txt d x++([58,32]++(txt d y++(mapT d l2++[125])))):=by rw [mapT];simp
   rw [hst]at ha
   obtain⟨a1,a2⟩:=Z5.1 ha
   obtain⟨a3,a4⟩:=Z5.1 a2
   obtain⟨a5,a6⟩:=Z5.1 a4
   obtain⟨a7,a8⟩:=Z5.1 a6
   have hnext:KV s (i+2+(txt d x).length+2+(txt d y).length)=44∨KV s (i+2+(txt d x).length+2+(txt d y).length)=125:=by
    match l2,hn with
    | [],_=>exact .inr (At.here a8)
    |u::w::l2,_=>
     rw [show mapT d (u::w::l2)++[125]=44::(32::(txt d u++([58,32]++(txt d w++(mapT d l2++[125]))))) by rw [mapT];simp]at a8
     exact .inl (At.here a8)
    | [u],hn=>exact absurd hn (by simp;omega)
   have hp:=hr x (by simp) (i+2) a3 (by rw [show i+2+(txt d x).length=i+([44,32]:List UInt8).length+(txt d x).length from rfl,At.here a5];decide)
   have hp2:=hr y (by simp) (i+2+(txt d x).length+2) a7 (by rcases hnext with h|h<;>(rw [h];decide))
   have ih:=KIf n l2 (l1++[x,y]) f (i+2+(txt d x).length+2+(txt d y).length) (by omega) (by simp) (fun z hz=>hr z (by simp [hz])) a8 (by omega)
   have hl1:¬l1.length=0:=fun e=>h1 (List.length_eq_zero_iff.1 e)
   rw [WF,if_neg (by rw [At.here a1];decide)]
   unfold sepP
   rw [if_neg hl1,W5 a1]
   dsimp only
   unfold X8
   rw [show i+([44,32]:List UInt8).length=i+2 from rfl,hp]
   dsimp only
   have hm:=W5 a5
   rw [if_pos rfl,show i+2+(txt d x).length=i+([44,32]:List UInt8).length+(txt d x).length from rfl,hm]
   dsimp only
   rw [show i+([44,32]:List UInt8).length+(txt d x).length+([58,32]:List UInt8).length=i+2+(txt d x).length+2 from rfl,hp2]
   dsimp only
   rw [if_neg (by rcases hnext with h|h<;>(rw [h];decide)),ih]
   have:(mapT d (x::y::l2)).length=2+(txt d x).length+2+(txt d y).length+(mapT d l2).length:=by rw [mapT];simp;omega
   rw [this,List.append_assoc]
   congr 2
   omega
theorem KLN {s:List UInt8} {d:Nat} {l:List Vl} {i:Nat} (hr:∀x∈l,Rds s d x) (ha:At s i (shw [44,32] [44,32] (l.map (txt d))++[93])) (f:Nat) (hf:l.length<f):
  WF (pval s d) 93 false s f [] i=.ok (l,i+(shw [44,32] [44,32] (l.map (txt d))).length+1):=by
 obtain⟨f,rfl⟩:∃g,f=g+1:=⟨f - 1,by omega⟩
 cases l with
 |nil=>
  rw [WF,if_pos (At.here ha)]
  rfl
 |cons x l=>
  rw [KFS]at ha⊢
  rw [List.append_assoc]at ha
  obtain⟨a3,a4⟩:=Z5.1 ha
  have hnext:KV s (i+(txt d x).length)=44∨KV s (i+(txt d x).length)=93:=by
   cases l with
   |nil=>exact .inr (At.here a4)
   |cons y l=>
    rw [show sepT d (y::l)++[93]=44::(32::(txt d y++(sepT d l++[93]))) by simp [sepT]]at a4
    exact .inl (At.here a4)
  have hp:=hr x (by simp) i a3 (by rcases hnext with h|h<;>(rw [h];decide))
  have ih:=KGf l [x] f (i+(txt d x).length) (by simp) (fun y hy=>hr y (by simp [hy])) a4 (by simp only [List.length_cons]at hf;omega)
  rw [WF,if_neg (KGe hp).1]
  unfold sepP
  rw [if_pos (show([]:List Vl).length=0 from rfl)]
  dsimp only
  unfold X8
  rw [hp]
  dsimp only
  rw [if_neg (by decide)]
  dsimp only
  rw [if_neg (by rcases hnext with h|h<;>(rw [h];decide)),List.nil_append,ih,List.length_append]
  congr 2
  omega
theorem KNB {s:List UInt8} {d:Nat} {l:List Vl} {i:Nat} (he:l.length%2=0) (hr:∀x∈l,Rds s d x) (ha:At s i (shw [58,32] [44,32] (l.map (txt d))++[125])) (f:Nat) (hf:l.length<f):
  WF (pval s d) 125 true s f [] i=.ok (l,i+(shw [58,32] [44,32] (l.map (txt d))).length+1):=by
 obtain⟨f,rfl⟩:∃g,f=g+1:=⟨f - 1,by omega⟩
 match l,he with
 | [],_=>
  rw [WF,if_pos (At.here ha)]
  rfl
 | [u],he=>exact absurd he (by simp)
 |x::y::l,he=>
  simp only [List.length_cons]at he hf
  rw [KFT d (l.length / 2) l x y (by omega)]at ha⊢
  rw [show txt d x++([58,32]++(txt d y++mapT d l))++[125]=txt d x++([58,32]++(txt d y++(mapT d l++[125]))) by simp]at ha
  obtain⟨a3,a4⟩:=Z5.1 ha
  obtain⟨a5,a6⟩:=Z5.1 a4
  obtain⟨a7,a8⟩:=Z5.1 a6
  have hnext:KV s (i+(txt d x).length+2+(txt d y).length)=44∨KV s (i+(txt d x).length+2+(txt d y).length)=125:=by
   match l,he with
   | [],_=>exact .inr (At.here a8)
   |u::w::l2,_=>
    rw [show mapT d (u::w::l2)++[125]=44::(32::(txt d u++([58,32]++(txt d w++(mapT d l2++[125]))))) by rw [mapT];simp]at a8
    exact .inl (At.here a8)
   | [u],he=>exact absurd he (by simp)
  have hp:=hr x (by simp) i a3 (by rw [At.here a5];decide)
  have hp2:=hr y (by simp) (i+(txt d x).length+2) a7 (by rcases hnext with h|h<;>(rw [h];decide))
  have ih:=KIf (l.length / 2) l [x,y] f (i+(txt d x).length+2+(txt d y).length) (by omega) (by simp) (fun z hz=>hr z (by simp [hz])) a8 (by omega)
  rw [WF,if_neg (KGe hp).2.1]
  unfold sepP
  rw [if_pos (show([]:List Vl).length=0 from rfl)]
  dsimp only
  unfold X8
  rw [hp]
  dsimp only
  rw [if_pos rfl,W5 a5]
  dsimp only
  rw [show i+(txt d x).length+([58,32]:List UInt8).length=i+(txt d x).length+2 from rfl,hp2]
  dsimp only
  rw [if_neg (by rcases hnext with h|h<;>(rw [h];decide)),List.nil_append,ih]
  simp only [List.length_append,List.length_cons,List.length_nil]
  congr 2
  omega
theorem KFU {s:List UInt8} {l:List Vl} (h:KC1 s l=true):s=[]∧l=[]:=by
 unfold KC1 at h
 rw [Bool.and_eq_true,decide_eq_true_iff,List.isEmpty_iff]at h
 exact h
theorem KGg {s:List UInt8} {i:Nat} {k n:Int} {c:UInt8} (hn:I64 n) (ha:At s i ([c,91]++itoa n++[93])):KAp k s i=.ok (.mk k n [] [],i+([c,91]++itoa n++[93]).length):=by
 rw [List.append_assoc]at ha
 obtain⟨a1,a2⟩:=Z5.1 ha
 obtain⟨a3,a4⟩:=Z5.1 a2
 have a1':At s (i+1) [91]:=((Z5 (a:=[c]) (b:=[91])).1 a1).2
 have hnum:=KIZ (i:=i+2) hn a3 (by rw [show i+2+(itoa n).length=i+([c,91]:List UInt8).length+(itoa n).length from rfl,At.here a4];decide)
 unfold KAp
 rw [W5 a1']
 dsimp only
 rw [show i+1+([91]:List UInt8).length=i+2 from rfl,hnum]
 dsimp only
 have:=W5 a4
 rw [show i+2+(itoa n).length=i+([c,91]:List UInt8).length+(itoa n).length from rfl,this]
 simp only [List.length_append,List.length_cons,List.length_nil]
 congr 2
 omega
theorem KIg (s:List UInt8):∀(d:Nat) (v:Vl),mayV d v=true→WfV d v→Rds s d v
 |0,v,hm,_=>by cases v;cases hm
 |d+1,.mk k n t l,hm,hw=>by
  have ih:=KIg s d
  intro i ha hf
  rw [WfV]at hw
  rw [mayV]at hm
  by_cases h1:k=1
  ·subst h1
   rw [if_pos rfl]at hm
   obtain⟨rfl,rfl⟩:=KFU hm
   have ht:txt (d+1) (.mk 1 n [] [])=itoa n:=by rw [txt,if_pos rfl]
   rw [ht]at ha hf⊢
   have hnum:=KIZ hw.1 ha hf
   have hc:KV s i=45∨digB (KV s i)=true:=by
    have h0:=ha.get (k:=0) (List.length_pos_iff.2 (KHi n))
    rw [Nat.add_zero]at h0
    by_cases hneg:n<0
    ·left
     have hT:itoa n=45::decDigits n.natAbs:=by unfold itoa;rw [if_pos hneg]
     rw [h0]
     simp only [hT]
     rfl
    ·right
     rw [h0]
     exact(KCG hw.1 (k:=0) (by unfold sgn;rw [if_neg hneg];exact Nat.le_refl _) _).1
   rw [pval,if_pos hc,hnum]
  rw [if_neg h1]at hm
  by_cases h3:k=3
  ·subst h3
   rw [if_pos rfl,Bool.and_eq_true,Bool.or_eq_true,decide_eq_true_iff,decide_eq_true_iff]at hm
   obtain⟨hb,hn⟩:=hm
   obtain⟨rfl,rfl⟩:=KFU hb
   rcases hn with rfl|rfl
   ·have ht:txt (d+1) (.mk 3 0 [] [])=[102,97,108,115,101]:=by rw [txt];rfl
    rw [ht]at ha⊢
    rw [pval,At.here ha,if_neg (by decide),if_neg (by decide),if_neg (by decide),if_pos rfl,W5 ha]
   ·have ht:txt (d+1) (.mk 3 1 [] [])=[116,114,117,101]:=by rw [txt];rfl
    rw [ht]at ha⊢
    rw [pval,At.here ha,if_neg (by decide),if_neg (by decide),if_pos rfl,W5 ha]
  rw [if_neg h3]at hm
  by_cases h67:k=6∨k=7
  ·rw [if_pos h67,Bool.and_eq_true,Bool.and_eq_true,decide_eq_true_iff,decide_eq_true_iff]at hm
   obtain⟨⟨hb,hn1⟩,hn2⟩:=hm
   obtain⟨rfl,rfl⟩:=KFU hb
   rcases h67 with rfl|rfl
   ·have ht:txt (d+1) (.mk 6 n [] [])=[118,91]++itoa n++[93]:=by rw [txt];rfl
    rw [ht]at ha⊢
    have hh:KV s i=118:=by
     rw [List.append_assoc]at ha
     exact At.here (Z5.1 ha).1
    rw [pval,hh,if_neg (by decide),if_neg (by decide),if_neg (by decide),if_neg (by decide),if_pos rfl]
    exact KGg hw.1 ha
   ·have ht:txt (d+1) (.mk 7 n [] [])=[101,91]++itoa n++[93]:=by rw [txt];rfl
    rw [ht]at ha⊢
    have hh:KV s i=101:=by
     rw [List.append_assoc]at ha
     exact At.here (Z5.1 ha).1
    rw [pval,hh,if_neg (by decide),if_neg (by decide),if_neg (by decide),if_neg (by decide),if_neg (by decide),if_pos rfl]
    exact KGg hw.1 ha
  rw [if_neg h67]at hm
  by_cases h2:k=2
  ·subst h2
   rw [if_pos rfl,Bool.and_eq_true,Bool.and_eq_true,decide_eq_true_iff,List.isEmpty_iff,decide_eq_true_iff]at hm
   obtain⟨⟨rfl,rfl⟩,_⟩:=hm
   have ht:txt (d+1) (.mk 2 0 t [])=Un t:=by rw [txt];rfl
   rw [ht]at ha⊢
   have hh:KV s i=39:=by
    have:Un t=39::(t.flatMap qc++[39]):=rfl
    rw [this]at ha
    exact At.here ha
   rw [pval,hh,if_neg (by decide),if_pos rfl,KM8 ha]
  rw [if_neg h2]at hm
  by_cases h4:k=4
  ·subst h4
   rw [if_pos rfl,Bool.and_eq_true,Bool.and_eq_true,Bool.and_eq_true,decide_eq_true_iff,decide_eq_true_iff,decide_eq_true_iff,List.all_eq_true]at hm
   obtain⟨hl,⟨rfl,rfl⟩,hall⟩:=hm
   rw [KIe]at ha⊢
   obtain⟨a1,a2⟩:=Z5.1 ha
   have hlen:=a2.len (by simp)
   have hcount:l.length≤(shw [44,32] [44,32] (l.map (txt d))).length:=by
    cases l with
    |nil=>simp
    |cons x l=>
     rw [KFS,List.length_append,List.length_cons]
     have:=KFR d x
     have h5:l.length≤(sepT d l).length:=by
      clear hall hl ha a1 a2 hlen hf hw
      induction l with
      |nil=>simp
      |cons y l ih2=>simp only [sepT,List.flatMap_cons,List.length_append,List.length_cons,List.length_nil]at ih2⊢;omega
     omega
   rw [List.length_append,List.length_singleton]at hlen
   have hlist:=KLN (fun x hx=>ih x (hall x hx) (hw.2 x hx)) a2 (s.length - i) (by have:([91]:List UInt8).length=1:=rfl;omega)
   rw [pval,At.here a1,if_neg (by decide),if_neg (by decide),if_neg (by decide),if_neg (by decide),if_neg (by decide),if_neg (by decide),if_pos rfl]
   rw [show i+([91]:List UInt8).length=i+1 from rfl]at hlist
   rw [hlist]
   simp only [List.length_append,List.length_cons,List.length_nil]
   congr 2
   omega
  rw [if_neg h4]at hm
  by_cases h5:k=5
  ·subst h5
   rw [if_pos rfl,Bool.and_eq_true,Bool.and_eq_true,Bool.and_eq_true,Bool.and_eq_true,Bool.and_eq_true,decide_eq_true_iff,decide_eq_true_iff,decide_eq_true_iff,decide_eq_true_iff,List.all_eq_true]at hm
   obtain⟨⟨⟨hl,he⟩,_⟩,⟨rfl,rfl⟩,hall⟩:=hm
   rw [KLM]at ha⊢
   obtain⟨a1,a2⟩:=Z5.1 ha
   have hlen:=a2.len (by simp)
   have hcount:l.length≤(shw [58,32] [44,32] (l.map (txt d))).length:=by
    match l,he with
    | [],_=>simp
    | [u],he=>exact absurd he (by simp)
    |x::y::l,he=>
     simp only [List.length_cons]at he
     rw [KFT d (l.length / 2) l x y (by omega)]
     have h6:∀(n:Nat) (l:List Vl),l.length=2*n→l.length≤(mapT d l).length:=by
      intro n
      induction n with
      |zero=>intro l hl;omega
      |succ n ih2=>
       intro l hl
       match l,hl with
       |a::b::r,hl=>
        simp only [List.length_cons]at hl
        have:=ih2 r (by omega)
        rw [mapT]
        simp only [List.length_append,List.length_cons,List.length_nil]
        omega
     have:=h6 (l.length / 2) l (by omega)
     have:=KFR d x
     have:=KFR d y
     simp only [List.length_append,List.length_cons,List.length_nil]
     omega
   rw [List.length_append,List.length_singleton]at hlen
   have hlist:=KNB he (fun x hx=>ih x (hall x hx) (hw.2 x hx)) a2 (s.length - i) (by have:([123]:List UInt8).length=1:=rfl;omega)
   rw [pval,At.here a1,if_neg (by decide),if_neg (by decide),if_neg (by decide),if_neg (by decide),if_neg (by decide),if_neg (by decide),if_neg (by decide),if_pos rfl]
   rw [show i+([123]:List UInt8).length=i+1 from rfl]at hlist
   rw [hlist]
   simp only [List.length_append,List.length_cons,List.length_nil]
   congr 2
   omega
  rw [if_neg h5]at hm
  cases hm
end Gx
namespace Gx
open Go Go.Proofs Go.Shelf Go.RowKit Go.Lib
def Tx (s:List UInt8) (d:Nat) (pv:Nat→Except Nat (Vl×Nat)):Prop:=∀i v j,pv i=.ok (v,j)→At s i (txt d v)∧j=i+(txt d v).length
theorem KGh {s:List UInt8} {d:Nat} {pv:Nat→Except Nat (Vl×Nat)} (hp:Tx s d pv):∀{f i:Nat} {l1 t:List Vl} {j:Nat},l1≠[]→WF pv 93 false s f l1 i=.ok (t,j)→∃l2,t=l1++l2∧At s i (sepT d l2++[93])∧j=i+(sepT d l2).length+1
 |0,i,l1,t,j,h1,h=>by cases h
 |f+1,i,l1,t,j,h1,h=>by
  rw [WF]at h
  split at h
  ·rename_i hh
   cases h
   exact⟨[],by simp,W6 hh (by decide),rfl⟩
  ·have hl1:¬l1.length=0:=fun e=>h1 (List.length_eq_zero_iff.1 e)
   unfold sepP at h
   rw [if_neg hl1]at h
   split at h
   ·cases h
   ·rename_i i1 hi1
    obtain⟨a1,a2⟩:=Vd hi1
    split at h
    ·cases h
    ·rename_i vs i2 hv
     split at h
     ·cases h
     ·unfold X8 at hv
      split at hv
      ·cases hv
      ·rename_i v j1 hpv
       rw [if_neg (by decide)]at hv
       cases hv
       obtain⟨b1,b2⟩:=hp _ _ _ hpv
       obtain⟨l2,c1,c2,c3⟩:=KGh hp (by simp) h
       refine⟨v::l2,by rw [c1];simp,?_,?_⟩
       ·rw [show sepT d (v::l2)++[93]=[44,32]++(txt d v++(sepT d l2++[93])) by simp [sepT],Z5,Z5]
        subst a2
        rw [←b2]
        exact⟨a1,b1,c2⟩
       ·have:(sepT d (v::l2)).length=2+(txt d v).length+(sepT d l2).length:=by simp [sepT];omega
        have e2:([44,32]:List UInt8).length=2:=rfl
        omega
theorem KIh {s:List UInt8} {d:Nat} {pv:Nat→Except Nat (Vl×Nat)} (hp:Tx s d pv):∀{f i:Nat} {l1 t:List Vl} {j:Nat},l1≠[]→WF pv 125 true s f l1 i=.ok (t,j)→∃l2,l2.length%2=0∧t=l1++l2∧At s i (mapT d l2++[125])∧j=i+(mapT d l2).length+1
 |0,i,l1,t,j,h1,h=>by cases h
 |f+1,i,l1,t,j,h1,h=>by
  rw [WF]at h
  split at h
  ·rename_i hh
   cases h
   exact⟨[],rfl,by simp,W6 hh (by decide),rfl⟩
  ·have hl1:¬l1.length=0:=fun e=>h1 (List.length_eq_zero_iff.1 e)
   unfold sepP at h
   rw [if_neg hl1]at h
   split at h
   ·cases h
   ·rename_i i1 hi1
    obtain⟨a1,a2⟩:=Vd hi1
    split at h
    ·cases h
    ·rename_i vs i2 hv
     split at h
     ·cases h
     ·unfold X8 at hv
      split at hv
      ·cases hv
      ·rename_i v j1 hpv
       rw [if_pos rfl]at hv
       split at hv
       ·cases hv
       ·rename_i j2 hj2
        obtain⟨a3,a4⟩:=Vd hj2
        split at hv
        ·cases hv
        ·rename_i w j3 hpw
         cases hv
         obtain⟨b1,b2⟩:=hp _ _ _ hpv
         obtain⟨b3,b4⟩:=hp _ _ _ hpw
         obtain⟨l2,c0,c1,c2,c3⟩:=KIh hp (by simp) h
         refine⟨v::w::l2,by simp only [List.length_cons];omega,by rw [c1];simp,?_,?_⟩
         ·rw [show mapT d (v::w::l2)++[125]=[44,32]++(txt d v++([58,32]++(txt d w++(mapT d l2++[125])))) by rw [mapT];simp,Z5,Z5,Z5,Z5]
          subst a2
          rw [←b2,←a4,←b4]
          exact⟨a1,b1,a3,b3,c2⟩
         ·have:(mapT d (v::w::l2)).length=2+(txt d v).length+2+(txt d w).length+(mapT d l2).length:=by rw [mapT];simp;omega
          have e2:([44,32]:List UInt8).length=2:=rfl
          have e3:([58,32]:List UInt8).length=2:=rfl
          omega
theorem KLO {s:List UInt8} {d:Nat} {pv:Nat→Except Nat (Vl×Nat)} (hp:Tx s d pv) {f i:Nat} {t:List Vl} {j:Nat} (h:WF pv 93 false s f [] i=.ok (t,j)):
  At s i (shw [44,32] [44,32] (t.map (txt d))++[93])∧j=i+(shw [44,32] [44,32] (t.map (txt d))).length+1:=by
 cases f with
 |zero=>cases h
 |succ f=>
  rw [WF]at h
  split at h
  ·rename_i hh
   cases h
   exact⟨W6 hh (by decide),rfl⟩
  ·unfold sepP at h
   rw [if_pos (show([]:List Vl).length=0 from rfl)]at h
   dsimp only at h
   split at h
   ·cases h
   ·rename_i vs i2 hv
    split at h
    ·cases h
    ·unfold X8 at hv
     split at hv
     ·cases hv
     ·rename_i v j1 hpv
      rw [if_neg (by decide)]at hv
      cases hv
      obtain⟨b1,b2⟩:=hp _ _ _ hpv
      obtain⟨l2,c1,c2,c3⟩:=KGh hp (by simp) h
      rw [List.nil_append,List.singleton_append]at c1
      rw [c1,KFS,List.append_assoc,Z5,List.length_append]
      subst b2
      exact⟨⟨b1,c2⟩,by omega⟩
theorem KNC {s:List UInt8} {d:Nat} {pv:Nat→Except Nat (Vl×Nat)} (hp:Tx s d pv) {f i:Nat} {t:List Vl} {j:Nat} (h:WF pv 125 true s f [] i=.ok (t,j)):
  At s i (shw [58,32] [44,32] (t.map (txt d))++[125])∧j=i+(shw [58,32] [44,32] (t.map (txt d))).length+1:=by
 cases f with
 |zero=>cases h
 |succ f=>
  rw [WF]at h
  split at h
  ·rename_i hh
   cases h
   exact⟨W6 hh (by decide),rfl⟩
  ·unfold sepP at h
   rw [if_pos (show([]:List Vl).length=0 from rfl)]at h
   dsimp only at h
   split at h
   ·cases h
   ·rename_i vs i2 hv
    split at h
    ·cases h
    ·unfold X8 at hv
     split at hv
     ·cases hv
     ·rename_i v j1 hpv
      rw [if_pos rfl]at hv
      split at hv
      ·cases hv
      ·rename_i j2 hj2
       obtain⟨a3,a4⟩:=Vd hj2
       split at hv
       ·cases hv
       ·rename_i w j3 hpw
        cases hv
        obtain⟨b1,b2⟩:=hp _ _ _ hpv
        obtain⟨b3,b4⟩:=hp _ _ _ hpw
        obtain⟨l2,c0,c1,c2,c3⟩:=KIh hp (by simp) h
        rw [List.nil_append]at c1
        rw [c1,show [v,w]++l2=v::w::l2 from rfl,KFT d (l2.length / 2) l2 v w (by omega)]
        rw [show txt d v++([58,32]++(txt d w++mapT d l2))++[125]=txt d v++([58,32]++(txt d w++(mapT d l2++[125]))) by simp,Z5,Z5,Z5]
        subst b2
        subst a4
        subst b4
        refine⟨⟨b1,a3,b3,c2⟩,?_⟩
        simp only [List.length_append,List.length_cons,List.length_nil]at c3⊢
        omega
theorem KGi {s:List UInt8} {i j:Nat} {k:Int} {c:UInt8} {v:Vl} (hc:At s i [c]) (h:KAp k s i=.ok (v,j)):∃n,v=.mk k n [] []∧At s i ([c,91]++itoa n++[93])∧j=i+([c,91]++itoa n++[93]).length:=by
 unfold KAp at h
 split at h
 ·cases h
 ·rename_i j1 h1
  obtain⟨a1,a2⟩:=Vd h1
  split at h
  ·cases h
  ·rename_i n j2 h2
   have hle:=(Vm h1).2.1 (by simp)
   obtain⟨b1,b2⟩:=KIa h2 hle
   split at h
   ·cases h
   ·rename_i j3 h3
    obtain⟨c1,c2⟩:=Vd h3
    cases h
    have a2:j1=i+2:=a2
    subst a2
    subst b2
    refine⟨n,rfl,?_,?_⟩
    ·rw [show [c,91]++itoa n++[93]=[c]++([91]++(itoa n++[93])) by simp,Z5,Z5,Z5]
     exact⟨hc,a1,b1,c1⟩
    ·rw [c2]
     simp only [List.length_append,List.length_cons,List.length_nil]
     omega
theorem KIi (s:List UInt8):∀d,Tx s d (pval s d)
 |0=>fun i v j h=>by cases h
 |d+1=>fun i v j h=>by
  have ih:=KIi s d
  rw [pval]at h
  split at h
  ·rename_i hc
   have hi:i<s.length:=Vi (fun e=>by rw [e]at hc;exact absurd hc (by decide))
   split at h
   ·cases h
   ·rename_i n j1 h1
    cases h
    have ht:txt (d+1) (.mk 1 n [] [])=itoa n:=by rw [txt,if_pos rfl]
    rw [ht]
    exact KIa h1 (by omega)
  split at h
  ·split at h
   ·cases h
   ·rename_i t j1 h1
    cases h
    have ht:txt (d+1) (.mk 2 0 t [])=Un t:=by rw [txt];rfl
    rw [ht]
    exact KNA h1
  split at h
  ·split at h
   ·cases h
   ·rename_i j1 h1
    cases h
    have ht:txt (d+1) (.mk 3 1 [] [])=[116,114,117,101]:=by rw [txt];rfl
    rw [ht]
    exact Vd h1
  split at h
  ·split at h
   ·cases h
   ·rename_i j1 h1
    cases h
    have ht:txt (d+1) (.mk 3 0 [] [])=[102,97,108,115,101]:=by rw [txt];rfl
    rw [ht]
    exact Vd h1
  split at h
  ·rename_i hc
   obtain⟨n,rfl,h2,h3⟩:=KGi (W6 hc (by decide)) h
   have ht:txt (d+1) (.mk 6 n [] [])=[118,91]++itoa n++[93]:=by rw [txt];rfl
   rw [ht]
   exact⟨h2,h3⟩
  split at h
  ·rename_i hc
   obtain⟨n,rfl,h2,h3⟩:=KGi (W6 hc (by decide)) h
   have ht:txt (d+1) (.mk 7 n [] [])=[101,91]++itoa n++[93]:=by rw [txt];rfl
   rw [ht]
   exact⟨h2,h3⟩
  split at h
  ·rename_i hc
   split at h
   ·cases h
   ·rename_i l j1 h1
    cases h
    obtain⟨a1,a2⟩:=KLO ih h1
    rw [KIe,Z5]
    exact⟨⟨W6 hc (by decide),a1⟩,by rw [a2];simp only [List.length_append,List.length_cons,List.length_nil];omega⟩
  split at h
  ·rename_i hc
   split at h
   ·cases h
   ·rename_i l j1 h1
    cases h
    obtain⟨a1,a2⟩:=KNC ih h1
    rw [KLM,Z5]
    exact⟨⟨W6 hc (by decide),a1⟩,by rw [a2];simp only [List.length_append,List.length_cons,List.length_nil];omega⟩
  ·cases h
theorem KAt {v:Vl} (hm:mayV 8 v=true) (hw:WfV 8 v):J1 (txV v)=(v,0,0):=by
 have hAt:At (txV v) 0 (txt 8 v):=by
  unfold At
  rw [List.drop_zero]
  exact List.take_length
 have h:=KIg (txV v) 8 v hm hw 0 hAt (by
  have:KV (txV v) (0+(txt 8 v).length)=0:=by
   unfold KV
   rw [List.getElem?_eq_none (by show(txt 8 v).length≤_;omega)]
   rfl
  rw [this]
  decide)
 have hr:KBP (txV v)=.ok v:=by
  unfold KBP
  rw [h]
  dsimp only
  rw [if_neg (by show ¬(0+(txt 8 v).length<(txt 8 v).length);omega)]
 unfold J1
 rw [hr]
 dsimp only
 rw [if_pos hm]
theorem KFV {s:List UInt8} {v:Vl} (h:KBP s=.ok v):txV v=s:=by
 unfold KBP at h
 split at h
 ·cases h
 ·rename_i w j hp
  split at h
  ·cases h
  ·rename_i hj
   cases h
   obtain⟨a1,a2⟩:=KIi s 8 0 _ _ hp
   have hle:=(KHX s 8 0 _ _ hp).2
   unfold At at a1
   rw [List.drop_zero,List.take_of_length_le (by omega)]at a1
   exact a1.symm
theorem KLP {h:Heap}:∀(d:Nat) (v:Vl) (cs:Array Value),VRep h v cs→WfV d v
 |0,v,_,_=>by cases v;trivial
 |d+1,.mk k n s l,cs,hv=>by
  rw [VRep.eq]at hv
  obtain⟨x,_,_,hn,_,hx⟩:=hv
  rw [WfV]
  refine⟨hn,fun y hy=>?_⟩
  obtain⟨i,hi,rfl⟩:=List.getElem_of_mem hy
  obtain⟨a,c,_,_,_,hvi⟩:=hx.get hi
  exact KLP d _ c hvi
end Gx
namespace Gx
open Go Go.Proofs Go.Shelf Go.RowKit Go.Lib
theorem KLQ {s:List UInt8} (h:(J1 s).2.2=0):KBP s=.ok (J1 s).1∧mayV 8 (J1 s).1=true:=by
 unfold J1 at h⊢
 cases hr:KBP s with
 |error e=>
  rw [hr]at h
  have h:(22:Int)=0:=h
  exact absurd h (by decide)
 |ok v=>
  rw [hr]at h
  dsimp only at h⊢
  by_cases hm:mayV 8 v=true
  ·rw [if_pos hm]
   exact⟨rfl,hm⟩
  ·rw [if_neg hm]at h
   have h:(20:Int)=0:=h
   exact absurd h (by decide)
end Gx
