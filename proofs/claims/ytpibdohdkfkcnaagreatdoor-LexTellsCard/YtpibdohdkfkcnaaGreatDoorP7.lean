/- Own proofs: what those Lean programs compute. No condition. -/
import Derived.Test.YtpibdohdkfkcnaaGreatDoorP0
import Derived.Test.YtpibdohdkfkcnaaGreatDoorP1
import Derived.Test.YtpibdohdkfkcnaaGreatDoorP2
import Derived.Test.YtpibdohdkfkcnaaGreatDoorP3
import Derived.Test.YtpibdohdkfkcnaaGreatDoorP4
import Derived.Test.YtpibdohdkfkcnaaGreatDoorP5
import Derived.Test.YtpibdohdkfkcnaaGreatDoorP6
set_option linter.unusedVariables false
set_option linter.unusedSimpArgs false
namespace Gx
open Go Go.Proofs Go.Shelf Go.RowKit Go.Lib
set_option linter.unusedVariables false
set_option linter.unusedSimpArgs false
set_option maxRecDepth 100000
theorem Rd.upd {h h':Heap} {b g:Nat} {s:List UInt8} {i:Nat} (R:Rd h b s i) (u:Upd g h h') (hg:b≠g):Rd h' b s i:=⟨(u.ne b hg).trans R.blk,R.le,R.small⟩
theorem KBo (s:List UInt8):∀ d,d≤8→KLp s d
 | 0,_=>fun i h Q b R he hb H1 H2=>by
  unfold Jb
  refine Zo (fun h1 e1 hs1 g1=>iteT (by rfl) (XO (VX (R.ext e1) (H2 i h1 rfl (Km.ext e1)))))
 | d+1,hd=>fun i h Q b R he hb H1 H2=>by
  have IH:=KBo s d (by omega)
  unfold Jb
  refine Zo (fun h1 e1 hs1 g1=>iteF (decide_eq_false (by omega)) ?_)
  have R1:=R.ext e1
  have hbl:=R.lt
  have he1:=he.ext e1
  have K1:Kb b h h1:=Km.ext e1
  have fin:∀ (v:Vl) (cs:Array Value) (j:Nat) (h2:Heap),pval s (d+1) i=.ok (v,j)→Kb b h1 h2→Rd h2 b s j→Zp (fun k=>h1.size≤k∧k < h2.size) h2 v cs →
    (M.need (cs.size=4)>>=fun _=>stG ⟨h.size,0,none⟩ cs>>=fun _=>ldG 4 ⟨h.size,0,none⟩>>=fun r=>(M.pure (.inr r):M (Value ⊕ Array Value))).wp h2 Q:=by
   intro v cs j h2 hv K2 R2 V2
   have g2:=K2.blk g1 (show ¬ h.size=b by omega)
   refine KJP g2 rfl V2.size V2.to.one (fun h3 u3=>H1 v j h3 cs hv ?_ (R2.upd u3 (by omega)) ?_)
   ·have:=K1.trans K2
    exact ⟨by rw [u3.size]; exact this.size,fun q hq hqb=>(u3.ne q (by omega)).trans (this.same q hq hqb)⟩
   ·have hu:=u3.size
    exact (V2.same (fun k hk=>u3.ne k (by omega))).mono (fun k hk=>⟨by omega,by omega⟩)
  have scal:∀ {k n:Int} {t:List UInt8} {S:Nat→Prop} {h2:Heap},I64 k→I64 n→t.length≤1099511627776→Zp S h2 (.mk k n t []) (ZW k n t Sl.nil):=fun hk hn ht=>KCo _ _ hk hn (by omega)
  have hle:=R.le
  have hsm:=R.small
  rw [pval] at H1 H2 fin
  unfold JW
  refine KJ (Um R1 ?_)
  refine or_b (c:=digB (KI s i)) (fun _ Q' hq=>KJ (zc (KC hq))) ?_
  rw [u8_c (d:=45) (n:=45) rfl]
  refine KX (fun hc=>?_) (fun hc=>?_)
  ·have hc:KI s i=45∨digB (KI s i)=true:=by rwa [Bool.or_eq_true,decide_eq_true_iff] at hc
   rw [if_pos hc] at H1 H2 fin
   refine XO (KAy R1 he1 hb (fun n j h2 hn K2 R2=>?_) (fun e h2 hn K2=>H2 e h2 (by rw [hn]) (K1.trans K2)))
   refine KLn (fun h3 e3=>fin (.mk 1 n [] []) _ j h3 (by rw [hn]) (K2.trans (Km.ext e3)) (R2.ext e3) (scal ⟨by decide,by decide⟩ (zd hn hle).1 (by decide)))
  have hc:¬ (KI s i=45∨digB (KI s i)=true):=fun hh=>by
   rw [← decide_eq_true_iff (p:=KI s i=45),← Bool.or_eq_true,hc] at hh
   cases hh
  rw [if_neg hc] at H1 H2 fin
  rw [u8_c (d:=39) (n:=39) rfl]
  refine KX (fun hc=>?_) (fun hc=>?_)
  ·rw [if_pos (of_decide_eq_true hc)] at H1 H2 fin
   refine XO (KId R1 (fun t j h2 ht K2 R2=>?_) (fun e h2 ht K2=>H2 e h2 (by rw [ht]) (K1.trans K2)))
   refine KLo (fun h3 e3=>fin (.mk 2 0 t []) _ j h3 (by rw [ht]) (K2.trans (Km.ext e3)) (R2.ext e3) (scal ⟨by decide,by decide⟩ ⟨by decide,by decide⟩ (by have:=(KCl ht).2.2; omega)))
  rw [if_neg (of_decide_eq_false hc)] at H1 H2 fin
  rw [u8_c (d:=116) (n:=116) rfl]
  refine KX (fun hc=>?_) (fun hc=>?_)
  ·rw [if_pos (of_decide_eq_true hc)] at H1 H2 fin
   refine XO (Wf (lit:=[116,114,117,101]) R1 (by decide) (fun j h2 hj K2 R2=>?_) (fun e h2 hj K2=>H2 e h2 (by rw [hj]) (K1.trans K2)))
   refine KHI (fun h3 e3=>fin (.mk 3 1 [] []) _ j h3 (by rw [hj]) (K2.trans (Km.ext e3)) (R2.ext e3) (scal ⟨by decide,by decide⟩ ⟨by decide,by decide⟩ (by decide)))
  rw [if_neg (of_decide_eq_false hc)] at H1 H2 fin
  rw [u8_c (d:=102) (n:=102) rfl]
  refine KX (fun hc=>?_) (fun hc=>?_)
  ·rw [if_pos (of_decide_eq_true hc)] at H1 H2 fin
   refine XO (Wf (lit:=[102,97,108,115,101]) R1 (by decide) (fun j h2 hj K2 R2=>?_) (fun e h2 hj K2=>H2 e h2 (by rw [hj]) (K1.trans K2)))
   refine KHI (fun h3 e3=>fin (.mk 3 0 [] []) _ j h3 (by rw [hj]) (K2.trans (Km.ext e3)) (R2.ext e3) (scal ⟨by decide,by decide⟩ ⟨by decide,by decide⟩ (by decide)))
  rw [if_neg (of_decide_eq_false hc)] at H1 H2 fin
  rw [u8_c (d:=118) (n:=118) rfl]
  refine KX (fun hc=>?_) (fun hc=>?_)
  ·have hcc:=of_decide_eq_true hc
   rw [if_pos hcc] at H1 H2 fin
   refine XO (KDm (k:=6) R1 (Z5 (by rw [hcc]; decide)) he1 hb (fun n j h2 hn K2 R2=>fin _ _ j h2 hn K2 R2 ?_) (fun e h2 hn K2=>H2 e h2 hn (K1.trans K2)))
   obtain ⟨n',hv,hn',_⟩:=KAF hn
   cases hv
   exact scal ⟨by decide,by decide⟩ hn' (by decide)
  rw [if_neg (of_decide_eq_false hc)] at H1 H2 fin
  rw [u8_c (d:=101) (n:=101) rfl]
  refine KX (fun hc=>?_) (fun hc=>?_)
  ·have hcc:=of_decide_eq_true hc
   rw [if_pos hcc] at H1 H2 fin
   refine XO (KDm (k:=7) R1 (Z5 (by rw [hcc]; decide)) he1 hb (fun n j h2 hn K2 R2=>fin _ _ j h2 hn K2 R2 ?_) (fun e h2 hn K2=>H2 e h2 hn (K1.trans K2)))
   obtain ⟨n',hv,hn',_⟩:=KAF hn
   cases hv
   exact scal ⟨by decide,by decide⟩ hn' (by decide)
  rw [if_neg (of_decide_eq_false hc)] at H1 H2 fin
  rw [u8_c (d:=91) (n:=91) rfl,show ((9 - (d+1):Nat):Int)=((8 - d:Nat):Int) by omega]
  refine KX (fun hc=>?_) (fun hc=>?_)
  ·have hcc:=of_decide_eq_true hc
   rw [if_pos hcc] at H1 H2 fin
   refine XO (KBx (YN _ _ _ _) (KDn (two:=false) (en:=93) (by omega) IH (by decide) R1 (Z5 (by rw [hcc]; decide)) he1 hb (fun l j h2 r hl K2 R2 V2=>?_) (fun e h2 hl K2=>H2 e h2 (by rw [hl]) (K1.trans K2))))
   exact fin (.mk 4 0 [] l) _ j h2 (by rw [hl]) K2 R2 (KAG ⟨by decide,by decide⟩ ⟨by decide,by decide⟩ V2)
  rw [if_neg (of_decide_eq_false hc)] at H1 H2 fin
  rw [u8_c (d:=123) (n:=123) rfl]
  refine KX (fun hc=>?_) (fun hc=>?_)
  ·have hcc:=of_decide_eq_true hc
   rw [if_pos hcc] at H1 H2 fin
   refine XO (KBx (YN _ _ _ _) (KDn (two:=true) (en:=125) (by omega) IH (by decide) R1 (Z5 (by rw [hcc]; decide)) he1 hb (fun l j h2 r hl K2 R2 V2=>?_) (fun e h2 hl K2=>H2 e h2 (by rw [hl]) (K1.trans K2))))
   exact fin (.mk 5 0 [] l) _ j h2 (by rw [hl]) K2 R2 (KAG ⟨by decide,by decide⟩ ⟨by decide,by decide⟩ V2)
  rw [if_neg (of_decide_eq_false hc)] at H1 H2 fin
  exact XO (VX R1 (H2 i h1 rfl K1))
def NE (s:List UInt8):Except Nat Vl:=match pval s 8 0 with | .error e=>.error e | .ok (v,j)=>if j < s.length then .error j else .ok v
theorem KBp {h:Heap} {Q:Array Value × Int × Bool→Heap→Prop} {b2 b3 b4 e:Nat} {z2:Array Value} {v3 v4:Value} (g2:h[b2]?=some (.cells z2 KF (0,0))) (hz:z2.size=4) (g3:h[b3]?=some (.cells #[v3] YD (0,0))) (g4:h[b4]?=some (.cells #[v4] KAe (0,0))) (h23:b2≠b3) (h24:b2≠b4) (h34:b3≠b4)
  (H:∀ h',h.size≤h'.size→(∀ i,i < h.size→i≠b2→i≠b3→i≠b4→h'[i]?=h[i]?)→Q (vz,(e:Int),false) h'):(XH ⟨b2,0,none⟩ ⟨b3,0,none⟩ ⟨b4,0,none⟩ (GL e)>>=fun _=>XZ ⟨b2,0,none⟩ ⟨b3,0,none⟩ ⟨b4,0,none⟩).wp h Q:=by
 have l2:=Vm g2
 have l3:=Vm g3
 have l4:=Vm g4
 unfold XH
 refine ⟨(e:Int),rfl,?_⟩
 refine KJ (Zo (fun h1 e1 hs1 g1=>JY rfl (stR g1 (Nat.le_refl 1) (by intro v hv; simp at hv; subst hv; rfl) (fun h2' u2 g2'=>?_))))
 rw [ZH (cs:=#[.int .i64 0]) (vs:=(#[.int .i64 (e:Int)]:Array Value).toList) rfl] at g2'
 unfold KFJ
 refine Zl (n:=(e:Int)) (by rw [Kp,KU g2']; rfl) (JY rfl ?_)
 have k2:h2'[b2]?=some (.cells z2 KF (0,0)):=(u2.ne b2 (by omega)).trans (e1.blk g2)
 refine stR k2 (by rw [hz]; exact Nat.le_refl 4) (JB 0 0 [] Sl.nil) (fun h3 u3 g3'=>?_)
 rw [ZH (cs:=z2) (vs:=(vz:Array Value).toList) (by rw [hz]; rfl)] at g3'
 have kq:h3[h.size]?=some (.cells #[.int .i64 (e:Int)] Zz (0,0)):=(u3.ne h.size (by omega)).trans g2'
 refine KAa (by rw [Kp,KU kq]; rfl) ?_
 have k3:h3[b3]?=some (.cells #[v3] YD (0,0)):=(u3.ne b3 (by omega)).trans ((u2.ne b3 (by omega)).trans (e1.blk g3))
 refine qC (x:=v3) (by rw [KU k3]; rfl) (ZX k3) rfl ?_
 have g5:=VJ (o:=0) (v:=.int .i64 (e:Int)) k3
 have u5:=Upd.hset h3 b3 0 (.int .i64 (e:Int))
 generalize hset h3 ⟨b3,0,none⟩ (.int .i64 (e:Int))=h5 at g5 u5 ⊢
 have k4:h5[b4]?=some (.cells #[v4] KAe (0,0)):=(u5.ne b4 (by omega)).trans ((u3.ne b4 (by omega)).trans ((u2.ne b4 (by omega)).trans (e1.blk g4)))
 refine qC (x:=v4) (by rw [KU k4]; rfl) (ZX k4) rfl ?_
 have g6:=VJ (o:=0) (v:=.bool false) k4
 have u6:=Upd.hset h5 b4 0 (.bool false)
 generalize hset h5 ⟨b4,0,none⟩ (.bool false)=h6 at g6 u6 ⊢
 refine KC ?_
 unfold XZ
 have m2:h6[b2]?=some (.cells vz KF (0,0)):=(u6.ne b2 (by omega)).trans ((u5.ne b2 (by omega)).trans g3')
 have m3:h6[b3]?=some (.cells (#[v3].setIfInBounds 0 (.int .i64 (e:Int))) YD (0,0)):=(u6.ne b3 (by omega)).trans g5
 refine ldR m2 rfl (Zl (n:=(e:Int)) (by rw [KU m3]; rfl) (KLI (n:=false) (by rw [KU g6]; rfl) (KC (H _ ?_ ?_))))
 ·have a1:=u6.size; have a2:=u5.size; have a3:=u3.size; have a4:=u2.size; omega
 ·intro i hi n2 n3 n4
  rw [u6.ne i n4,u5.ne i n3,u3.ne i n2,u2.ne i (by omega)]
  exact e1.same i hi
theorem KHJ {s:List UInt8} {h:Heap} {Q:Array Value × Int × Bool→Heap→Prop} (hs:s.length≤1099511627776) (he:ErrV h)
  (H1:∀ v h' c,NE s=.ok v→Ext h h'→Zp (h.size≤·) h' v c→Q (c,0,true) h') (H2:∀ e h',NE s=.error e→Ext h h'→Q (vz,(e:Int),false) h'):(KKM (bs s)).wp h Q:=by
 unfold KKM
 refine Zo (fun h1 e1 s1 g1=>Zo (fun h2 e2 s2 g2=>Zo (fun h3 e3 s3 g3=>Zo (fun h4 e4 s4 g4=>?_))))
 obtain ⟨t5,p5,hc5⟩:=id he
 have h5:gER < h.size:=Ym hc5
 have R4:Rd h4 h3.size s 0:=⟨g4,Nat.zero_le _,hs⟩
 have E4:Ext h h4:=((e1.trans e2).trans e3).trans e4
 have b1:h4[h.size]?=some (.cells vz KF (0,0)):=((e2.trans e3).trans e4).blk g1
 have b2:h4[h1.size]?=some (.cells #[.int .i64 0] YD (0,0)):=(e3.trans e4).blk g2
 have b3:h4[h2.size]?=some (.cells #[.bool false] KAe (0,0)):=e4.blk g3
 refine KJ (KBo s 8 (Nat.le_refl _) 0 h4 _ h3.size R4 (he.ext E4) (by omega) (fun v j h6 c hv K6 R6 V6=>?_) (fun e h6 hv K6=>?_))
 ·have c1:=K6.blk b1 (show ¬ h.size=h3.size by omega)
  have c2:=K6.blk b2 (show ¬ h1.size=h3.size by omega)
  have c3:=K6.blk b3 (show ¬ h2.size=h3.size by omega)
  have hs6:=K6.size
  refine JY V6.size (stR c1 (by rw [V6.size]; exact Nat.le_refl 4) V6.to.one (fun h7 u7 g7=>?_))
  rw [ZH (cs:=vz) (vs:=c.toList) (by rw [Array.length_toList,V6.size]; rfl)] at g7
  have hs7:=u7.size
  have R7:=R6.upd u7 (show h3.size≠h.size by omega)
  refine z6 R7 ?_
  rw [Ko]
  refine KX (fun hlt=>?_) (fun hge=>?_)
  ·have hlt:j < s.length:=by have:=of_decide_eq_true hlt; omega
   refine KJ (VX R7 ?_)
   refine KBp g7 V6.size ((u7.ne _ (by omega)).trans c2) ((u7.ne _ (by omega)).trans c3) (by omega) (by omega) (by omega) (fun h8 s8 same8=>H2 j h8 ?_ ⟨by omega,fun i hi=>?_⟩)
   ·unfold NE; rw [hv]; dsimp only; rw [if_pos hlt]
   ·rw [same8 i (by omega) (by omega) (by omega) (by omega),u7.ne i (by omega),K6.same i (by omega) (by omega)]
    exact E4.same i hi
  ·have hge:¬ j < s.length:=by have:=of_decide_eq_false hge; omega
   unfold KCj
   refine ldR g7 V6.size (JY V6.size (stR g7 (by rw [V6.size]; exact Nat.le_refl 4) V6.to.one (fun h8 u8 g8=>?_)))
   rw [ZH (cs:=c) (vs:=c.toList) (by rw [Array.length_toList])] at g8
   have d2:h8[h1.size]?=some (.cells #[.int .i64 0] YD (0,0)):=(u8.ne _ (by omega)).trans ((u7.ne _ (by omega)).trans c2)
   refine qC (x:=.int .i64 0) (by rw [KU d2]; rfl) (ZX d2) rfl ?_
   have g9:=VJ (o:=0) (v:=.int .i64 0) d2
   have u9:=Upd.hset h8 h1.size 0 (.int .i64 0)
   generalize hset h8 ⟨h1.size,0,none⟩ (.int .i64 0)=h9 at g9 u9 ⊢
   have d3:h9[h2.size]?=some (.cells #[.bool false] KAe (0,0)):=(u9.ne _ (by omega)).trans ((u8.ne _ (by omega)).trans ((u7.ne _ (by omega)).trans c3))
   refine qC (x:=.bool false) (by rw [KU d3]; rfl) (ZX d3) rfl ?_
   have g10:=VJ (o:=0) (v:=.bool true) d3
   have u10:=Upd.hset h9 h2.size 0 (.bool true)
   generalize hset h9 ⟨h2.size,0,none⟩ (.bool true)=h10 at g10 u10 ⊢
   unfold XZ
   have m1:h10[h.size]?=some (.cells c KF (0,0)):=(u10.ne _ (by omega)).trans ((u9.ne _ (by omega)).trans g8)
   have m2:=(u10.ne h1.size (by omega)).trans g9
   refine ldR m1 V6.size (Zl (n:=0) (by rw [KU m2]; rfl) (KLI (n:=true) (by rw [KU g10]; rfl) (KC (H1 v _ c ?_ ⟨?_,fun i hi=>?_⟩ ?_))))
   ·unfold NE; rw [hv]; dsimp only; rw [if_neg hge]
   ·have a1:=u10.size; have a2:=u9.size; have a3:=u8.size; omega
   ·rw [u10.ne i (by omega),u9.ne i (by omega),u8.ne i (by omega),u7.ne i (by omega),K6.same i (by omega) (by omega)]
    exact E4.same i hi
   ·refine (V6.same (fun k hk=>?_)).mono (fun k hk=>by have:=hk.1; omega)
    have:=hk.1
    rw [u10.ne k (by omega),u9.ne k (by omega),u8.ne k (by omega),u7.ne k (by omega)]
 ·have c1:=K6.blk b1 (show ¬ h.size=h3.size by omega)
  have c2:=K6.blk b2 (show ¬ h1.size=h3.size by omega)
  have c3:=K6.blk b3 (show ¬ h2.size=h3.size by omega)
  have hs6:=K6.size
  refine KBp c1 rfl c2 c3 (by omega) (by omega) (by omega) (fun h8 s8 same8=>H2 e h8 ?_ ⟨by omega,fun i hi=>?_⟩)
  ·unfold NE; rw [hv]
  ·rw [same8 i (by omega) (by omega) (by omega) (by omega),K6.same i (by omega) (by omega)]
   exact E4.same i hi
def ZS (s:List UInt8):Vl × Nat × Int:=match NE s with | .error e=>(vl0,e,22) | .ok v=>if mayV 8 v=true then (v,0,0) else (vl0,0,20)
theorem KAz {s:List UInt8} {h:Heap} {Q:Array Value × Int × Int→Heap→Prop} (hs:s.length≤1099511627776) (he:ErrV h)
  (H:∀ h' c,Ext h h'→Zp (h.size≤·) h' (ZS s).1 c→Q (c,((ZS s).2.1:Int),(ZS s).2.2) h'):(WQ (bs s)).wp h Q:=by
 unfold WQ
 refine Zo (fun h1 e1 s1 g1=>?_)
 refine KJ (Xj (KLm _) (KHJ hs (he.ext e1) (fun v h2 c hv e2 V2=>?_) (fun e h2 hv e2=>?_)))
 ·refine Zo (fun h3 e3 s3 g3=>JY V2.size (stR g3 (by rw [V2.size]; exact Nat.le_refl 4) V2.to.one (fun h4 u4 g4=>?_)))
  rw [ZH (cs:=vz) (vs:=c.toList) (by rw [Array.length_toList,V2.size]; rfl)] at g4
  have E4:Ext h h4:=((e1.trans e2).trans e3).upd u4 (by have:=e1.size; have:=e2.size; omega)
  have V4:Zp (fun k=>h1.size≤k∧k < h2.size) h4 v c:=((V2.lt2).same (fun k hk=>(u4.ne k (by omega)).trans (e3.same k hk.2)))
  refine iteF rfl (ldR g4 V2.size (KJ (KEX V4.to (fun h5 e5=>?_))))
  have g5:h5[h.size]?=some (.cells vz KF (0,0)):=e5.blk ((u4.ne _ (by have:=e2.size; omega)).trans ((e2.trans e3).blk g1))
  have gc5:=e5.blk g4
  unfold KBl
  by_cases hm:mayV 8 v=true
  ·rw [if_pos hm]
   have hP:ZS s=(v,0,0):=by unfold ZS; rw [hv]; dsimp only; rw [if_pos hm]
   rw [hP] at H
   refine iteF rfl (ldR gc5 V2.size (JY V2.size (stR g5 (by rw [V2.size]; exact Nat.le_refl 4) V2.to.one (fun h6 u6 g6=>?_))))
   rw [ZH (cs:=vz) (vs:=c.toList) (by rw [Array.length_toList,V2.size]; rfl)] at g6
   refine ldR g6 V2.size (KC (H h6 c ((E4.trans e5).upd u6 (Nat.le_refl _)) ?_))
   have hs2:=e2.size
   have hs3:=e3.size
   have hu4:=u4.size
   exact (V4.same (fun k hk=>(u6.ne k (by omega)).trans (e5.same k (by omega)))).mono (fun k hk=>by have:=hk.1; omega)
  ·rw [if_neg hm]
   have hP:ZS s=(vl0,0,20):=by unfold ZS; rw [hv]; dsimp only; rw [if_neg hm]
   rw [hP] at H
   refine iteT rfl (JY rfl (stR g5 (Nat.le_refl 4) (JB 0 0 [] Sl.nil) (fun h6 u6 g6=>?_)))
   rw [ZH (cs:=vz) (vs:=(vz:Array Value).toList) rfl] at g6
   exact ldR g6 rfl (KC (H h6 _ ((E4.trans e5).upd u6 (Nat.le_refl _)) (KCk _ _)))
 ·have hP:ZS s=(vl0,e,22):=by unfold ZS; rw [hv]
  rw [hP] at H
  refine Zo (fun h3 e3 s3 g3=>JY rfl (stR g3 (Nat.le_refl 4) (JB 0 0 [] Sl.nil) (fun h4 u4 g4=>?_)))
  have E4:Ext h h4:=((e1.trans e2).trans e3).upd u4 (by have:=e1.size; have:=e2.size; omega)
  have g5:h4[h.size]?=some (.cells vz KF (0,0)):=(u4.ne _ (by have:=e2.size; omega)).trans ((e2.trans e3).blk g1)
  refine iteT rfl (JY rfl (stR g5 (Nat.le_refl 4) (JB 0 0 [] Sl.nil) (fun h6 u6 g6=>?_)))
  rw [ZH (cs:=vz) (vs:=(vz:Array Value).toList) rfl] at g6
  exact ldR g6 rfl (KC (H h6 _ (E4.upd u6 (Nat.le_refl _)) (KCk _ _)))
end Gx
namespace Gx
open Go
set_option linter.unusedVariables false
set_option linter.unusedSimpArgs false
def KT (h:Heap) (r:Sl) (e:TypeId):Prop:=∀ g,r.base=some ⟨g,0,none⟩→∃ c z,h[g]?=some (.cells c e z)
theorem KT.same {h h':Heap} {r:Sl} {e:TypeId} (k:KT h r e) (hs:∀ i,Sl.on r i→h'[i]?=h[i]?):KT h' r e:=fun g hg=>by
 obtain ⟨c,z,hh⟩:=k g hg
 exact ⟨c,z,(hs g ⟨_,hg,rfl⟩).trans hh⟩
structure Bld (lo:Nat) (h:Heap) (b:Nat) (r:Sl) (l:List UInt8):Prop where
 low:lo≤b
 ptr:∃ p,h[b]?=some (.cells #[p,r.v] qO (0,0))∧(p=.pointer none∨p=.pointer (some ⟨b,0,none⟩))
 row:Gw lo h r 1 (l.map bv)
 off:¬ Sl.on r b
 nz:r.cap=0→r=Sl.nil
 kt:KT h r Zs
theorem Bld.len {lo:Nat} {h:Heap} {b:Nat} {r:Sl} {l:List UInt8} (B:Bld lo h b r l):r.len=l.length:=by
 have:=B.row.len
 simp at this
 exact this.symm
theorem Bld.lt {lo:Nat} {h:Heap} {b:Nat} {r:Sl} {l:List UInt8} (B:Bld lo h b r l):b < h.size:=by
 obtain ⟨p,h1,_⟩:=B.ptr
 exact Vm h1
theorem Bld.ext {lo:Nat} {h h':Heap} {b:Nat} {r:Sl} {l:List UInt8} (B:Bld lo h b r l) (e:Ext h h'):Bld lo h' b r l:=by
 obtain ⟨p,h1,h2⟩:=B.ptr
 exact ⟨B.low,⟨p,e.blk h1,h2⟩,B.row.ext e,B.off,B.nz,B.kt.same (fun i hi=>e.same i (B.row.lt hi).1)⟩
structure BKeep (b:Nat) (r r':Sl) (h h':Heap):Prop where
 size:h.size≤h'.size
 same:∀ i,i < h.size→i≠b→¬ Sl.on r i→h'[i]?=h[i]?
 on_:∀ i,Sl.on r' i→Sl.on r i∨h.size≤i
theorem BKeep.refl (b:Nat) (r:Sl) (h:Heap):BKeep b r r h h:=⟨Nat.le_refl _,fun _ _ _ _=>rfl,fun _ h=>.inl h⟩
theorem BKeep.trans {b:Nat} {r r' r'':Sl} {h h' h'':Heap} (k:BKeep b r r' h h') (k':BKeep b r' r'' h' h'') (hb:b < h.size):BKeep b r r'' h h'' :=
 ⟨Nat.le_trans k.size k'.size,fun i hi hne hno=>(k'.same i (Nat.lt_of_lt_of_le hi k.size) hne (fun ho=>(k.on_ i ho).elim hno (fun h=>by omega))).trans (k.same i hi hne hno),
  fun i hi=>(k'.on_ i hi).elim (fun h=>k.on_ i h) (fun h=>.inr (Nat.le_trans k.size h))⟩
theorem BKeep.ext {lo:Nat} {b:Nat} {r r':Sl} {h0 h h':Heap} {l:List UInt8} (e:Ext h0 h) (B:Bld lo h b r l) (hl:h0.size≤lo) (k:BKeep b r r' h h'):Ext h0 h' :=
 ⟨Nat.le_trans e.size k.size,fun i hi=>(k.same i (Nat.lt_of_lt_of_le hi e.size) (by have:=B.low; omega) (fun ho=>by have:=(B.row.lt ho).2; omega)).trans (e.same i hi)⟩
theorem BKeep.push {b:Nat} {r r':Sl} {h h' h'':Heap} (k:BKeep b r r' h h') (e:Ext h' h''):BKeep b r r' h h'' :=
 ⟨Nat.le_trans k.size e.size,fun i hi h1 h2=>(e.same i (Nat.lt_of_lt_of_le hi k.size)).trans (k.same i hi h1 h2),k.on_⟩
end Gx
namespace Gx
open Go Go.Proofs Go.Shelf Go.RowKit Go.Lib
set_option linter.unusedVariables false
set_option linter.unusedSimpArgs false
set_option maxRecDepth 100000
theorem KJQ {β:Type} {c d:Prop} [Decidable c] [Decidable d] {h:Heap} {Q:β→Heap→Prop} {f:Bool→M β} (H:(f (decide (c∧d))).wp h Q):(M.ite (decide c) (M.pure (decide d)) (M.pure false)>>=f).wp h Q:=by
 refine KFo (fun hc=>Kw ?_) (fun hc=>Kw ?_)
 ·have hc:=of_decide_eq_true hc
  rwa [show decide d=decide (c∧d) from decide_eq_decide.2 ⟨fun hd=>⟨hc,hd⟩,fun h=>h.2⟩]
 ·have hc:=of_decide_eq_false hc
  rwa [show false=decide (c∧d) from (decide_eq_false (fun h=>hc h.1)).symm]
theorem KLq {β:Type} {c d:Prop} [Decidable c] [Decidable d] {h:Heap} {Q:β→Heap→Prop} {f:Bool→M β} (H:(f (decide (c∨d))).wp h Q):(M.ite (decide c) (M.pure true) (M.pure (decide d))>>=f).wp h Q:=by
 refine KFo (fun hc=>Kw ?_) (fun hc=>Kw ?_)
 ·have hc:=of_decide_eq_true hc
  rwa [show true=decide (c∨d) from (decide_eq_true (Or.inl hc)).symm]
 ·have hc:=of_decide_eq_false hc
  rwa [show decide d=decide (c∨d) from decide_eq_decide.2 ⟨Or.inr,fun h=>h.resolve_left hc⟩]
def NCS:List UInt8:=[97,98,99,100,101,102,103,104,105,106,107,108,109,110,111,112,113,114,115,116,117,118,119,120,121,122,65,66,67,68,69,70,71,72,73,74,75,76,77,78,79,80,81,82,83,84,85,86,87,88,89,90,48,49,50,51,52,53,54,55,56,57,95]
def isLt (n:Nat):Bool:=decide ((n=95∨(97≤n∧n≤122))∨(65≤n∧n≤90))
def isDg (n:Nat):Bool:=decide (48≤n∧n≤57)
def KEd:List UInt8→Bool
 | []=>false
 | c::r=>decide ((c::r).length≤24) && isLt c.toNat && (c::r).all (fun d=>isLt d.toNat || isDg d.toNat)
theorem ze (c:UInt8) (r:List UInt8):KEd (c::r)=(decide ((c::r).length≤24) && isLt c.toNat && (c::r).all (fun d=>isLt d.toNat || isDg d.toNat)):=rfl
theorem KHK:∀ c:UInt8,NCS.contains c=(isLt c.toNat || isDg c.toNat):=by
 intro c
 have hk:∀ n,n < 256→NCS.contains (UInt8.ofNat n)=(isLt n || isDg n):=by decide +kernel
 have:=hk c.toNat c.toNat_lt
 rwa [UInt8.ofNat_toNat] at this
theorem KJR {p:UInt8→Bool}:∀ {l:List UInt8},(∀ x ∈ l.dropWhile p,p x=true)→∀ x ∈ l,p x=true
 | [],_,x,hx=>by cases hx
 | a::l,h,x,hx=>by
  by_cases ha:p a=true
  ·rw [List.dropWhile_cons_of_pos ha] at h
   rcases List.mem_cons.1 hx with rfl | hx
   ·exact ha
   ·exact KJR h x hx
  ·rw [List.dropWhile_cons_of_neg ha] at h
   exact absurd (h a List.mem_cons_self) ha
theorem KLr {p:UInt8→Bool} {l:List UInt8}:(l.dropWhile p=[]↔∀ x ∈ l,p x=true):=by
 induction l with
 | nil=>simp
 | cons a l ih =>
  by_cases ha:p a=true
  ·rw [List.dropWhile_cons_of_pos ha,ih]
   constructor
   ·intro h x hx
    rcases List.mem_cons.1 hx with rfl | hx
    ·exact ha
    ·exact h x hx
   ·intro h x hx
    exact h x (List.mem_cons_of_mem _ hx)
  ·rw [List.dropWhile_cons_of_neg ha]
   constructor
   ·intro h; cases h
   ·intro h
    exact absurd (h a List.mem_cons_self) ha
theorem KIg (l cs:List UInt8):(Lib.trimS l cs=[]↔∀ x ∈ l,cs.contains x=true):=by
 unfold Lib.trimS Lib.trimLeftS Lib.trimRightS
 rw [KLr]
 constructor
 ·intro h x hx
  exact KJR (l:=l.reverse) (p:=(cs.contains ·)) (fun y hy=>h y (List.mem_reverse.2 hy)) x (List.mem_reverse.2 hx)
 ·intro h x hx
  have h1:=List.mem_reverse.1 hx
  exact h x (List.mem_reverse.1 ((List.dropWhile_sublist _).mem h1))
theorem KKQ {s:List UInt8} {h:Heap} {Q:Bool→Heap→Prop} (h0:0 < s.length) (h1:s.length≤24) (H:∀ h',Ext h h'→Q (s.all (fun d=>isLt d.toNat || isDg d.toNat)) h') :
  (Vn (bs s) (⟨#[97,98,99,100,101,102,103,104,105,106,107,108,109,110,111,112,113,114,115,116,117,118,119,120,121,122,65,66,67,68,69,70,71,72,73,74,75,76,77,78,79,80,81,82,83,84,85,86,87,88,89,90,48,49,50,51,52,53,54,55,56,57,95]⟩:ByteArray)>>=fun x=>(M.pure (sEq x ByteArray.empty):M Bool)).wp h Q:=by
 refine KJ (show (Vn _ _).wp h _ from ⟨by decide,by decide,by rw [Ko]; exact h0,by rw [Ko]; omega,?_,fun h' a b=>KC ?_⟩)
 ·exact ascii_of_all (l:=NCS) (by decide +kernel)
 ·have hs:(bs s).data.toList=s:=by simp [bs]
  have hc:((⟨#[97,98,99,100,101,102,103,104,105,106,107,108,109,110,111,112,113,114,115,116,117,118,119,120,121,122,65,66,67,68,69,70,71,72,73,74,75,76,77,78,79,80,81,82,83,84,85,86,87,88,89,90,48,49,50,51,52,53,54,55,56,57,95]⟩:ByteArray)).data.toList=NCS:=rfl
  rw [hs,hc]
  have:=H h' ⟨a,b⟩
  rw [show (⟨(Lib.trimS s NCS).toArray⟩:ByteArray)=bs (Lib.trimS s NCS) from rfl,sEq0]
  have e:decide (Lib.trimS s NCS=[])=s.all (fun d=>isLt d.toNat || isDg d.toNat):=by
   rw [Bool.eq_iff_iff,decide_eq_true_iff,KIg,List.all_eq_true]
   exact ⟨fun h x hx=>by rw [← KHK]; exact h x hx,fun h x hx=>by rw [KHK]; exact h x hx⟩
  rw [e]; exact this
theorem KF7 {s:List UInt8} {h:Heap} {Q:Bool→Heap→Prop} (H:∀ h',Ext h h'→Q (KEd s) h'):(XA (bs s)).wp h Q:=by
 unfold XA
 rw [sEq0,Ko]
 refine KLq ?_
 cases s with
 | nil =>
  rw [decide_eq_true (show ([]:List UInt8)=[]∨((([]:List UInt8).length:Int) > 24) from .inl rfl)]
  exact Vk rfl (Kw (iteT rfl (KC (H _ (Ext.refl _)))))
 | cons c r =>
  by_cases hl:(c::r).length≤24
  ·rw [decide_eq_false (show ¬ (c::r=[]∨(((c::r).length:Int) > 24)) from fun h=>by rcases h with h | h; cases h; omega)]
   refine Wp rfl (Kf (UX (i:=0) rfl (by simp) ?_))
   rw [show (c::r)[0]=c from rfl]
   have key:∀ b:Bool,b=isDg c.toNat→((M.ite b (M.pure false) (Vn (bs (c::r)) (⟨#[97,98,99,100,101,102,103,104,105,106,107,108,109,110,111,112,113,114,115,116,117,118,119,120,121,122,65,66,67,68,69,70,71,72,73,74,75,76,77,78,79,80,81,82,83,84,85,86,87,88,89,90,48,49,50,51,52,53,54,55,56,57,95]⟩:ByteArray)>>=fun x=>M.pure (sEq x ByteArray.empty)):M Bool)).wp h Q:=by
    intro b hb
    simp only [ze] at H
    rw [decide_eq_true hl] at H
    simp only [Bool.true_and] at H
    by_cases hd:isDg c.toNat=true
    ·refine iteT (hb.trans hd) (KC ?_)
     have:=H h (Ext.refl _)
     rw [show isLt c.toNat=false by unfold isDg at hd; unfold isLt; have:=of_decide_eq_true hd; exact decide_eq_false (by omega),Bool.false_and] at this
     exact this
    ·refine iteF (hb.trans (by simpa using hd)) (KKQ (by simp) hl (fun h' e=>?_))
     have:=H h' e
     by_cases hlt:isLt c.toNat=true
     ·rw [hlt,Bool.true_and] at this; exact this
     ·have h1:isLt c.toNat=false:=by simpa using hlt
      have h2:isDg c.toNat=false:=by simpa using hd
      rw [h1,Bool.false_and] at this
      rw [List.all_cons,h1,h2,Bool.or_false,Bool.false_and]
      exact this
   by_cases hge:(c.toNat:Int) ≥ 48
   ·refine Kf (Vk (decide_eq_true hge) (Kf (UX (i:=0) rfl (by simp) (Kw (Kw (key _ ?_))))))
    rw [show (c::r)[0]=c from rfl]
    unfold isDg
    exact decide_eq_decide.2 (by omega)
   ·refine Kf (Wp (decide_eq_false hge) (Kw (Kw (key _ ?_))))
    unfold isDg
    exact (decide_eq_false (by omega)).symm
  ·rw [decide_eq_true (show (c::r=[]∨(((c::r).length:Int) > 24)) from .inr (by omega))]
   refine Vk rfl (Kw (iteT rfl (KC ?_)))
   have:=H _ (Ext.refl _)
   rw [ze,decide_eq_false hl] at this
   exact this
theorem KFQ {n:Nat} {h:Heap} {Q:Bool→Heap→Prop} (H:Q (isLt n) h):(JZ (n:Int)).wp h Q:=by
 unfold JZ
 rw [eqI]
 have key:∀ b:Bool,b=decide (n=95∨(97≤n∧n≤122))→((M.ite b (M.pure true) (M.ite (decide ((n:Int) ≥ 65)) (M.pure (decide ((n:Int)≤90))) (M.pure false)>>=fun x=>M.pure x)>>=fun x=>M.pure x:M Bool)).wp h Q:=by
  intro b hb
  unfold isLt at H
  by_cases h1:n=95∨(97≤n∧n≤122)
  ·rw [decide_eq_true (Or.inl h1)] at H
   exact Vk (hb.trans (decide_eq_true h1)) (Kw (KC H))
  ·refine Wp (hb.trans (decide_eq_false h1)) (Kf (KJQ (Kw (KC ?_))))
   rw [show decide ((n:Int) ≥ 65∧(n:Int)≤90)=decide ((n=95∨(97≤n∧n≤122))∨(65≤n∧n≤90)) from decide_eq_decide.2 (by omega)]
   exact H
 by_cases h95:(n:Int)=95
 ·exact Vk (decide_eq_true h95) (Kw (key _ (decide_eq_true (Or.inl (by omega))).symm))
 ·refine Wp (decide_eq_false h95) (Kf (KJQ (Kw (key _ ?_))))
  exact decide_eq_decide.2 (by omega)
theorem KF8 {s:List UInt8} {h:Heap} {Q:Bool→Heap→Prop} (H:Q (KEd s) h):(Ui (bs s)).wp h Q:=by
 unfold Ui
 rw [sEq0,Ko]
 refine KLq ?_
 cases s with
 | nil =>
  rw [decide_eq_true (show ([]:List UInt8)=[]∨((([]:List UInt8).length:Int) > 24) from .inl rfl)]
  exact Vk rfl (Kw (iteT rfl (KC H)))
 | cons c r =>
  rw [ze] at H
  by_cases hl:(c::r).length≤24
  ·rw [decide_eq_true hl,Bool.true_and] at H
   rw [decide_eq_false (show ¬ (c::r=[]∨(((c::r).length:Int) > 24)) from fun h=>by rcases h with h | h; cases h; omega)]
   refine Wp rfl (Kf (UX (i:=0) rfl (by simp) ?_))
   rw [show (c::r)[0]=c from rfl]
   refine Kf (KJ (KFQ (Kw ?_)))
   by_cases hlt:isLt c.toNat=true
   ·rw [hlt,Bool.true_and] at H
    refine iteF (by rw [hlt]; rfl) ?_
    refine M.loop_inv (fun (t:Int) hh=>hh=h∧∃ i:Nat,t=(i:Int)∧i≤(c::r).length∧((c::r).drop i).all (fun d=>isLt d.toNat || isDg d.toNat)=(c::r).all (fun d=>isLt d.toNat || isDg d.toNat)) (fun t _=>(((c::r).length:Int) - t).toNat) ?_ ⟨rfl,0,rfl,Nat.zero_le _,rfl⟩
    rintro t hh ⟨rfl,i,rfl,hi,hall⟩ self hself
    unfold Vd
    rw [Ko]
    refine KX (fun hc=>?_) (fun hc=>?_)
    ·have hic:i < (c::r).length:=by have:=of_decide_eq_true hc; omega
     rw [List.drop_eq_getElem_cons hic,List.all_cons] at hall
     obtain ⟨d,hd⟩:∃ d,d=(c::r)[i]:=⟨_,rfl⟩
     refine UX rfl hic (KJ (KFQ ?_))
     rw [← hd] at hall ⊢
     have stop:isLt d.toNat=false→isDg d.toNat=false→Q false hh:=fun h1 h2=>by
      rw [h1,h2,Bool.or_false,Bool.false_and] at hall
      rw [← hall] at H; exact H
     have go:(isLt d.toNat || isDg d.toNat)=true→(self (IntKind.wrap .i64 ((i:Int)+1))).wp hh Q:=fun h1=>by
      rw [h1,Bool.true_and] at hall
      rw [w64 (by omega) (by omega)]
      exact hself _ _ ⟨rfl,i+1,by simp,by omega,hall⟩ (by omega)
     by_cases hld:isLt d.toNat=true
     ·exact Wp (by rw [hld]; rfl) (Kw (iteF rfl (go (by rw [hld]; rfl))))
     ·have h1:isLt d.toNat=false:=by simpa using hld
      refine Vk (by rw [h1]; rfl) (Kf (UX rfl hic ?_))
      rw [← hd]
      by_cases h48:(d.toNat:Int) < 48
      ·exact Kf (Vk (decide_eq_true h48) (Kw (Kw (iteT rfl (KC (stop h1 (by unfold isDg; exact decide_eq_false (by omega))))))))
      ·refine Kf (Wp (decide_eq_false h48) (Kf (UX rfl hic ?_)))
       rw [← hd]
       refine Kw (Kw ?_)
       by_cases h57:(d.toNat:Int) > 57
       ·exact iteT (decide_eq_true h57) (KC (stop h1 (by unfold isDg; exact decide_eq_false (by omega))))
       ·exact iteF (decide_eq_false h57) (go (by rw [h1,Bool.false_or]; unfold isDg; exact decide_eq_true (by omega)))
    ·have hic:i=(c::r).length:=by have:=of_decide_eq_false hc; omega
     rw [List.drop_of_length_le (by omega)] at hall
     refine KC ?_
     rw [← hall] at H; exact H
   ·have h1:isLt c.toNat=false:=by simpa using hlt
    rw [h1,Bool.false_and] at H
    exact iteT (by rw [h1]; rfl) (KC H)
  ·rw [decide_eq_true (show (c::r=[]∨(((c::r).length:Int) > 24)) from .inr (by omega))]
   rw [decide_eq_false hl] at H
   exact Vk rfl (Kw (iteT rfl (KC H)))
end Gx
namespace Gx
open Go
set_option linter.unusedVariables false
set_option linter.unusedSimpArgs false
theorem KLs {s:List UInt8} {a b:Nat}:(bs s).extract a b=bs ((s.drop a).take (b - a)):=by
 apply ByteArray.ext
 simp [bs,ByteArray.extract,ByteArray.copySlice]
theorem KA0 {β:Type} {h:Heap} {Q:β→Heap→Prop} {s:List UInt8} {a b:Nat} {lo hi:Int} {f:ByteArray→M β} (hl:lo=(a:Int)) (hh:hi=(b:Int)) (h1:a≤b) (h2:b≤s.length) (H:(f (bs ((s.drop a).take (b - a)))).wp h Q):(slS (bs s) lo hi>>=f).wp h Q:=by
 subst hl; subst hh
 exact ⟨bs ((s.drop a).take (b - a)),⟨by omega,by omega,by rw [Ko]; omega,by rw [show ((a:Int)).toNat=a from rfl,show ((b:Int)).toNat=b from rfl,KLs]⟩,H⟩
end Gx
namespace Gx
open Go
set_option linter.unusedVariables false
set_option linter.unusedSimpArgs false
set_option maxRecDepth 100000
def KDo:List UInt8:=[46,40,41,44,91,93,123,125,58,61,59]
def KCp (c:UInt8):Bool:=KDo.contains c
def letB (c:UInt8):Bool:=isLt c.toNat
def KEe (c:UInt8):Bool:=isLt c.toNat || isDg c.toNat
def JX (s:List UInt8):Nat:=(s.takeWhile KEe).length
theorem XI (s:List UInt8):JX s≤s.length:=List.Sublist.length_le (List.takeWhile_sublist _)
theorem N2 (c:UInt8) (s:List UInt8):JX (c::s)=if KEe c=true then JX s+1 else 0:=by
 unfold JX
 by_cases h:KEe c=true
 ·rw [List.takeWhile_cons_of_pos h,if_pos h,List.length_cons]
 ·rw [List.takeWhile_cons_of_neg h,if_neg h]; rfl
def Xa (s:List UInt8):Nat→Nat→Nat
 | 0,_=>0
 | f+1,i=>if i < s.length then (if KI s i=92 then Xa s f (i+2) else if KI s i=39 then i+1 else Xa s f (i+1)) else 0
def VA (s:List UInt8):Nat:=Xa s (s.length+1) 1
theorem XJ (s:List UInt8):∀ f i,Xa s f i≤s.length
 | 0,_=>Nat.zero_le _
 | f+1,i=>by
  rw [Xa]
  split
  ·split
   ·exact XJ s f _
   ·split
    ·omega
    ·exact XJ s f _
  ·exact Nat.zero_le _
theorem KHL {s:List UInt8} {i:Nat} (hi:i < s.length):KI s i=s[i]:=by
 unfold KI; rw [List.getElem?_eq_getElem hi]; rfl
theorem KIh:∀ c:UInt8,decide (Lib.indexByte KDo c ≥ 0)=KCp c:=by
 intro c
 have hk:∀ n,n < 256→decide (Lib.indexByte KDo (UInt8.ofNat n) ≥ 0)=KCp (UInt8.ofNat n):=by decide +kernel
 have:=hk c.toNat c.toNat_lt
 rwa [UInt8.ofNat_toNat] at this
theorem KA1 {c:UInt8} {h:Heap} {Q:Bool→Heap→Prop} (H:Q (KCp c) h):(YB (c.toNat:Int)).wp h Q:=by
 unfold YB Zt ZM
 refine KJ (KC (KC ?_))
 rw [show ((c.toNat:Int)).toNat.toUInt8=c by simp,show (⟨#[46,40,41,44,91,93,123,125,58,61,59]⟩:ByteArray).data.toList=KDo from rfl,KIh]
 exact H
theorem qw {c:UInt8} {h:Heap} {Q:Bool→Heap→Prop} (H:Q (letB c) h):(Vo (c.toNat:Int)).wp h Q:=by
 unfold Vo
 refine Jt (c:=decide ((c.toNat:Int)≤122)) (fun _ Q' hq=>KC hq) ?_
 refine or_b (c:=decide ((c.toNat:Int) ≥ 65) && decide ((c.toNat:Int)≤90)) (fun _ Q' hq=>Jt (c:=decide ((c.toNat:Int)≤90)) (fun _ Q'' hq2=>KC hq2) (KC hq)) ?_
 refine or_b (c:=decide ((c.toNat:Int)=95)) (fun _ Q' hq=>KC (by rw [eqI]; exact hq)) (KC ?_)
 have:(decide ((c.toNat:Int) ≥ 97) && decide ((c.toNat:Int)≤122) || (decide ((c.toNat:Int) ≥ 65) && decide ((c.toNat:Int)≤90)) || decide ((c.toNat:Int)=95))=letB c:=by
  unfold letB isLt
  rw [← Bool.decide_and,← Bool.decide_and,← Bool.decide_or,← Bool.decide_or]
  exact decide_eq_decide.2 (by omega)
 rw [this]
 exact H
theorem KEf {c:UInt8} {h:Heap} {Q:Bool→Heap→Prop} (H:Q (KEe c) h):(XC (c.toNat:Int)).wp h Q:=by
 unfold XC
 refine KJ (qw ?_)
 refine or_b (c:=decide ((c.toNat:Int) ≥ 48) && decide ((c.toNat:Int)≤57)) (fun _ Q' hq=>Jt (c:=decide ((c.toNat:Int)≤57)) (fun _ Q'' hq2=>KC hq2) (KC hq)) (KC ?_)
 have:(letB c || (decide ((c.toNat:Int) ≥ 48) && decide ((c.toNat:Int)≤57)))=KEe c:=by
  unfold letB KEe isDg
  rw [← Bool.decide_and]
  congr 1
  exact decide_eq_decide.2 (by omega)
 rw [this]
 exact H
theorem zf {s:List UInt8} {a:Nat} {t:Int} {h:Heap} {Q:Int→Heap→Prop} (ht:t=(a:Int)) (ha:a≤s.length) (hs:s.length≤1099511627776) (H:Q (JX (s.drop a):Int) h):(YJ (bs s) t).wp h Q:=by
 subst ht
 unfold YJ
 refine M.loop_inv (fun (z:Int) hh=>∃ i:Nat,z=(i:Int)∧hh=h∧a≤i∧i≤s.length∧JX (s.drop a)=(i - a)+JX (s.drop i)) (fun z _=>((s.length:Int) - z).toNat) ?_ ⟨a,rfl,rfl,Nat.le_refl _,ha,by omega⟩
 rintro z hh ⟨i,rfl,rfl,hai,hi,hw⟩ self hself
 unfold GG
 rw [Ko]
 by_cases hlt:i < s.length
 ·refine Vk (decide_eq_true (by omega)) (Kf (UX (i:=i) rfl hlt (Kf (KJ (KEf (Kw ?_))))))
  rw [List.drop_eq_getElem_cons hlt,N2] at hw
  refine KX (fun hc=>?_) (fun hc=>KC ?_)
  ·rw [if_pos hc] at hw
   rw [w64 (by omega) (by omega)]
   exact hself _ _ ⟨i+1,by simp,rfl,by omega,hlt,by omega⟩ (by omega)
  ·rw [if_neg (by rw [hc]; decide)] at hw
   rw [w64 (by omega) (by omega),show (i:Int) - (a:Int)=(JX (s.drop a):Int) by omega]
   exact H
 ·refine Wp (decide_eq_false (by omega)) (Kw (iteF rfl (KC ?_)))
  have hi':i=s.length:=by omega
  subst hi'
  rw [List.drop_length] at hw
  have hw:JX (s.drop a)=(s.length - a):=hw
  rw [w64 (by omega) (by omega),show (s.length:Int) - (a:Int)=(JX (s.drop a):Int) by omega]
  exact H
theorem KEg {s:List UInt8} {h:Heap} {Q:Int→Heap→Prop} (hs:s.length≤1099511627776) (H:Q (VA s:Int) h):(XD (bs s)).wp h Q:=by
 unfold XD
 refine M.loop_inv (fun (z:Int) hh=>∃ i f:Nat,z=(i:Int)∧hh=h∧i≤s.length+2∧s.length≤f+i∧VA s=Xa s (f+1) i) (fun z _=>((s.length:Int)+3 - z).toNat) ?_ ⟨1,s.length,rfl,rfl,by omega,by omega,rfl⟩
 rintro z hh ⟨i,f,rfl,rfl,hi,hf,hc⟩ self hself
 unfold XX
 dsimp only
 rw [Ko]
 rw [Xa] at hc
 refine KX (fun hlt=>?_) (fun hge=>KC ?_)
 ·have hlt:i < s.length:=by have:=of_decide_eq_true hlt; omega
  rw [if_pos hlt,KHL hlt] at hc
  obtain ⟨f,rfl⟩:∃ g,f=g+1:=⟨f - 1,by omega⟩
  refine UX (i:=i) rfl hlt ?_
  rw [u8_c (d:=92) (n:=92) rfl,u8_c (d:=39) (n:=39) rfl]
  unfold W8
  refine KX (fun h1=>?_) (fun h1=>KX (fun h2=>KC ?_) (fun h2=>?_))
  ·rw [if_pos (of_decide_eq_true h1)] at hc
   rw [show IntKind.wrap .i64 ((i:Int)+1)=(i:Int)+1 from w64 (by omega) (by omega),w64 (by omega) (by omega)]
   exact hself _ _ ⟨i+2,f,by push_cast; omega,rfl,by omega,by omega,hc⟩ (by omega)
  ·rw [if_neg (of_decide_eq_false h1),if_pos (of_decide_eq_true h2)] at hc
   rw [w64 (by omega) (by omega),show (i:Int)+1=(VA s:Int) by rw [hc]; rfl]
   exact H
  ·rw [if_neg (of_decide_eq_false h1),if_neg (of_decide_eq_false h2)] at hc
   rw [w64 (by omega) (by omega)]
   exact hself _ _ ⟨i+1,f,by simp,rfl,by omega,by omega,hc⟩ (by omega)
 ·rw [if_neg (by have:=of_decide_eq_false hge; omega)] at hc
  rw [hc] at H
  exact H
structure Tkn where
 k:Int
 s:List UInt8
 n:Int
 a:Int
def Tkn.cells (t:Tkn):Array Value:=#[.int .i64 t.k,.string (bs t.s),.int .i64 t.n,.int .i64 t.a]
def tkn0:Tkn:=⟨0,[],0,0⟩
def oneW (er kk k:Int) (t:Tkn) (n:Nat):Tkn × Nat:=if er≠0∨kk≠k then (tkn0,0) else (t,n)
def oneV (k:Int) (s:List UInt8) (n:Nat) (t:Vl→Tkn):Tkn × Nat:=oneW (ZS (s.take n)).2.2 (ZS (s.take n)).1.k k (t (ZS (s.take n)).1) n
def oneP:List UInt8→Tkn × Nat
 | []=>(tkn0,0)
 | c::r =>
  if KCp c=true then (⟨4,[c],0,0⟩,1) else if letB c=true then (⟨1,(c::r).take (JX (c::r)),0,0⟩,JX (c::r))
  else if c=39 then oneV 2 (c::r) (VA (c::r)) (fun v=>⟨3,v.s,0,0⟩)
  else oneV 1 (c::r) (if c=45 then 1+JX r else JX (c::r)) (fun v=>⟨2,[],v.n,0⟩)
theorem qy (c:UInt8) (r:List UInt8):oneP (c::r)=(if KCp c=true then (⟨4,[c],0,0⟩,1) else if letB c=true then (⟨1,(c::r).take (JX (c::r)),0,0⟩,JX (c::r))
  else if c=39 then oneV 2 (c::r) (VA (c::r)) (fun v=>⟨3,v.s,0,0⟩)
  else oneV 1 (c::r) (if c=45 then 1+JX r else JX (c::r)) (fun v=>⟨2,[],v.n,0⟩)):=rfl
end Gx
namespace Gx
open Go
set_option linter.unusedVariables false
set_option linter.unusedSimpArgs false
set_option maxRecDepth 100000
theorem Yn (t:Tkn):∀ u ∈ t.cells.toList,one u=true:=by
 intro u hu
 simp only [Tkn.cells,List.mem_cons,List.not_mem_nil,or_false] at hu
 rcases hu with rfl | rfl | rfl | rfl <;> rfl
theorem YO {β:Type} {h:Heap} {Q:β→Heap→Prop} {b:Nat} {t0 t:Tkn} {ty:TypeId} {f:Array Value→M β} (g:h[b]?=some (.cells t0.cells ty (0,0)))
  (H:∀ h',Upd b h h'→(f t.cells).wp h' Q):(M.need (t.cells.size=4)>>=fun _=>stG ⟨b,0,none⟩ t.cells>>=fun _=>ldG 4 ⟨b,0,none⟩>>=f).wp h Q:=by
 refine JY rfl (stR g (Nat.le_refl 4) (Yn t) (fun h' u g'=>?_))
 rw [ZH (cs:=t0.cells) (vs:=t.cells.toList) rfl,Array.toArray_toList] at g'
 exact ldR g' rfl (H h' u)
theorem KDp {s:List UInt8} {n:Nat} {b:Nat} {h h0:Heap} {Q:Array Value × Int→Heap→Prop} {t:Int} (ht:t=(n:Int)) (hn:n≤s.length) (hs:s.length≤1099511627776) (he:ErrV h) (E:Ext h0 h) (hb0:h0.size≤b) (g:h[b]?=some (.cells tkn0.cells KM (0,0)))
  (H:∀ h',Ext h0 h'→Q ((oneV 1 s n (fun v=>⟨2,[],v.n,0⟩)).1.cells,((oneV 1 s n (fun v=>⟨2,[],v.n,0⟩)).2:Int)) h'):(XE (bs s) ⟨b,0,none⟩ t).wp h Q:=by
 subst ht
 unfold XE
 refine KA0 (a:=0) (b:=n) rfl rfl (Nat.zero_le _) hn ?_
 rw [List.drop_zero,Nat.sub_zero]
 refine KJ (KAz (by rw [List.length_take]; omega) he (fun h2 c e2 V2=>?_))
 dsimp only
 refine Zo (fun h3 e3 s3 g3=>JY V2.size (stR g3 (by rw [V2.size]; exact Nat.le_refl 4) V2.to.one (fun h4 u4 g4=>?_)))
 rw [ZH (cs:=vz) (vs:=c.toList) (by rw [Array.length_toList,V2.size]; rfl),Array.toArray_toList] at g4
 have e4:Ext h h4:=(e2.trans e3).upd u4 e2.size
 obtain ⟨v,hv⟩:∃ v,v=(ZS (s.take n)).1:=⟨_,rfl⟩
 obtain ⟨er,her⟩:∃ er,er=(ZS (s.take n)).2.2:=⟨_,rfl⟩
 unfold oneV at H
 rw [← hv] at V2 H
 rw [← her] at H ⊢
 obtain ⟨k,nn,ss,l⟩:=v
 dsimp only [Vl.k,Vl.n,Vl.s] at H
 unfold oneW at H
 obtain ⟨x,rfl,_⟩:=Zp.eq.1 V2
 refine or_b (c:=decide (k≠1)) (fun _ Q' hq=>Zl (n:=k) (by rw [Kp,KU g4]; rfl) (KC (by rw [bne,eqI,← decide_not]; exact hq))) ?_
 rw [show (er != 0 || decide (k≠1))=decide (er≠0∨k≠1) by rw [bne,eqI,← decide_not,← Bool.decide_or]]
 have gb:=e4.blk g
 have E4:=E.trans e4
 refine KX (fun hc=>?_) (fun hc=>?_)
 ·rw [if_pos (of_decide_eq_true hc)] at H
  exact YO (t0:=tkn0) (t:=tkn0) gb (fun h5 u5=>KC (H _ (E4.upd u5 hb0)))
 ·rw [if_neg (of_decide_eq_false hc)] at H
  refine Zl (n:=nn) (by rw [Kp,KU g4]; rfl) ?_
  exact YO (t0:=tkn0) (t:=⟨2,[],nn,0⟩) gb (fun h5 u5=>KC (H _ (E4.upd u5 hb0)))
theorem KFR {s:List UInt8} {h:Heap} {Q:Array Value × Int→Heap→Prop} (h0:s≠[]) (hs:s.length≤1099511627776) (he:ErrV h)
  (H:∀ h',Ext h h'→Q ((oneP s).1.cells,((oneP s).2:Int)) h'):(KAo (bs s)).wp h Q:=by
 obtain ⟨c,r,rfl⟩:=List.exists_cons_of_ne_nil h0
 unfold KAo
 refine Zo (fun h1 e1 s1 g1=>?_)
 have hl:=XI (c::r)
 refine UX (i:=0) rfl (by simp) ?_
 rw [show (c::r)[0]=c from rfl]
 refine KJ (KA1 ?_)
 rw [qy] at H
 refine KX (fun hm=>?_) (fun hm=>?_)
 ·rw [if_pos hm] at H
  refine KA0 (a:=0) (b:=1) rfl rfl (Nat.zero_le _) (by simp) ?_
  exact YO (t0:=tkn0) (t:=⟨4,[c],0,0⟩) g1 (fun h5 u5=>KC (H _ (e1.upd u5 (Nat.le_refl _))))
 rw [if_neg (by rw [hm]; decide)] at H
 refine KJ (qw ?_)
 refine KX (fun hlt=>?_) (fun hlt=>?_)
 ·rw [if_pos hlt] at H
  refine KJ (zf (a:=0) rfl (Nat.zero_le _) hs ?_)
  rw [List.drop_zero]
  refine KA0 (a:=0) (b:=JX (c::r)) rfl rfl (Nat.zero_le _) hl ?_
  rw [List.drop_zero,Nat.sub_zero]
  exact YO (t0:=tkn0) (t:=⟨1,(c::r).take (JX (c::r)),0,0⟩) g1 (fun h5 u5=>KC (H _ (e1.upd u5 (Nat.le_refl _))))
 rw [if_neg (by rw [hlt]; decide)] at H
 rw [u8_c (d:=39) (n:=39) rfl]
 refine KX (fun h39=>?_) (fun h39=>?_)
 ·rw [if_pos (of_decide_eq_true h39)] at H
  have hcl:VA (c::r)≤(c::r).length:=XJ _ _ _
  refine KJ (KEg hs ?_)
  refine KA0 (a:=0) (b:=VA (c::r)) rfl rfl (Nat.zero_le _) hcl ?_
  rw [List.drop_zero,Nat.sub_zero]
  generalize VA (c::r)=n at hcl H ⊢
  refine KJ (KAz (by rw [List.length_take]; omega) (he.ext e1) (fun h2 c2 e2 V2=>?_))
  dsimp only
  refine Zo (fun h3 e3 s3 g3=>JY V2.size (stR g3 (by rw [V2.size]; exact Nat.le_refl 4) V2.to.one (fun h4 u4 g4=>?_)))
  rw [ZH (cs:=vz) (vs:=c2.toList) (by rw [Array.length_toList,V2.size]; rfl),Array.toArray_toList] at g4
  have e4:Ext h1 h4:=(e2.trans e3).upd u4 e2.size
  obtain ⟨v,hv⟩:∃ v,v=(ZS ((c::r).take n)).1:=⟨_,rfl⟩
  obtain ⟨er,her⟩:∃ er,er=(ZS ((c::r).take n)).2.2:=⟨_,rfl⟩
  unfold oneV at H
  rw [← hv] at V2 H
  rw [← her] at H ⊢
  obtain ⟨k,nn,ss,l⟩:=v
  dsimp only [Vl.k,Vl.n,Vl.s] at H
  unfold oneW at H
  obtain ⟨x,rfl,_⟩:=Zp.eq.1 V2
  refine or_b (c:=decide (k≠2)) (fun _ Q' hq=>Zl (n:=k) (by rw [Kp,KU g4]; rfl) (KC (by rw [bne,eqI,← decide_not]; exact hq))) ?_
  rw [show (er != 0 || decide (k≠2))=decide (er≠0∨k≠2) by rw [bne,eqI,← decide_not,← Bool.decide_or]]
  have gb:=e4.blk g1
  have E4:=e1.trans e4
  refine KX (fun hc=>?_) (fun hc=>?_)
  ·rw [if_pos (of_decide_eq_true hc)] at H
   exact YO (t0:=tkn0) (t:=tkn0) gb (fun h5 u5=>KC (H _ (E4.upd u5 (Nat.le_refl _))))
  ·rw [if_neg (of_decide_eq_false hc)] at H
   refine Vp (n:=bs ss) (by rw [Kp,KU g4]; rfl) ?_
   exact YO (t0:=tkn0) (t:=⟨3,ss,0,0⟩) gb (fun h5 u5=>KC (H _ (E4.upd u5 (Nat.le_refl _))))
 ·rw [if_neg (of_decide_eq_false h39)] at H
  refine KJ (zf (a:=0) rfl (Nat.zero_le _) hs ?_)
  rw [List.drop_zero]
  refine UX (i:=0) rfl (by simp) ?_
  rw [show (c::r)[0]=c from rfl,u8_c (d:=45) (n:=45) rfl]
  have hr:=XI r
  have hlc:(c::r).length=r.length+1:=rfl
  refine KX (fun h45=>?_) (fun h45=>?_)
  ·rw [if_pos (of_decide_eq_true h45)] at H
   refine KJ (zf (a:=1) rfl (by simp) hs ?_)
   rw [show (c::r).drop 1=r from rfl,w64 (by omega) (by omega)]
   exact KDp (n:=1+JX r) (by push_cast; rfl) (by omega) hs (he.ext e1) e1 (Nat.le_refl _) g1 H
  ·rw [if_neg (of_decide_eq_false h45)] at H
   exact KDp rfl hl hs (he.ext e1) e1 (Nat.le_refl _) g1 H
def KDq:List UInt8→Bool
 | [c]=>KCp c
 | _=>false
def tokB (t:Tkn):Bool:=!(decide (t.a < 0) || (decide (t.n≠0) && decide (t.k≠2))) && (if t.k=1 then KEd t.s else if t.k=2 then decide (t.s=[]) else if t.k=3 then decide (t.s.length≤128) else if t.k=4 then KDq t.s else false)
def tokE (t:Tkn):Int:=if tokB t=true then 0 else 150
theorem KEh {t:Tkn} {h:Heap} {Q:Int→Heap→Prop} (H:∀ h',Ext h h'→Q (tokE t) h'):(GD t.cells).wp h Q:=by
 unfold GD
 refine Zo (fun h1 e1 s1 g1=>?_)
 obtain ⟨k,s,n,a⟩:=t
 have cA:KV h1 ((⟨h.size,0,none⟩:Addr).add 3)=some (.int .i64 a):=by rw [Kp,KU g1]; rfl
 have cN:KV h1 ((⟨h.size,0,none⟩:Addr).add 2)=some (.int .i64 n):=by rw [Kp,KU g1]; rfl
 have cS:KV h1 ((⟨h.size,0,none⟩:Addr).add 1)=some (.string (bs s)):=by rw [Kp,KU g1]; rfl
 have cK:KV h1 ((⟨h.size,0,none⟩:Addr).add 0)=some (.int .i64 k):=by rw [add_zero,KU g1]; rfl
 refine Zl cA ?_
 refine or_b (c:=decide (n≠0) && decide (k≠2)) (fun _ Q' hq=>Zl cN (by
  rw [bne,eqI,← decide_not]
  exact Jt (c:=decide (k≠2)) (fun _ Q2 hq2=>Zl cK (KC (by rw [bne,eqI,← decide_not]; exact hq2))) (KC hq))) ?_
 have bad:∀ {h2:Heap},Ext h h2→tokB ⟨k,s,n,a⟩=false→Q 150 h2:=fun {h2} e2 hf=>by
  have:=H _ e2
  unfold tokE at this
  rw [hf] at this
  exact this
 refine KX (fun hc=>KC (bad e1 ?_)) (fun hc=>?_)
 ·unfold tokB
  dsimp only
  rw [hc]; rfl
 have fin:∀ {b:Bool} {h2:Heap},Ext h h2→tokB ⟨k,s,n,a⟩=b→(Ua b).wp h2 Q:=fun {b h2} e2 hb=>by
  unfold Ua
  cases b with
  | true =>
   refine iteF rfl (KC ?_)
   have:=H _ e2
   unfold tokE at this
   rw [hb] at this
   exact this
  | false=>exact iteT rfl (KC (bad e2 hb))
 have hT:tokB ⟨k,s,n,a⟩=(if k=1 then KEd s else if k=2 then decide (s=[]) else if k=3 then decide (s.length≤128) else if k=4 then KDq s else false):=by
  unfold tokB
  dsimp only
  rw [hc]; rfl
 refine Zl cK ?_
 rw [eqI,eqI,eqI,eqI]
 refine KX (fun k1=>?_) (fun k1=>?_)
 ·rw [if_pos (of_decide_eq_true k1)] at hT
  exact Vp cS (KJ (KF7 (fun h2 e2=>fin (e1.trans e2) hT)))
 rw [if_neg (of_decide_eq_false k1)] at hT
 refine KX (fun k2=>?_) (fun k2=>?_)
 ·rw [if_pos (of_decide_eq_true k2)] at hT
  refine Vp cS ?_
  rw [sEq0]
  exact fin e1 hT
 rw [if_neg (of_decide_eq_false k2)] at hT
 refine KX (fun k3=>?_) (fun k3=>?_)
 ·rw [if_pos (of_decide_eq_true k3)] at hT
  refine Vp cS (fin e1 ?_)
  rw [hT,Ko]
  exact decide_eq_decide.2 (by omega)
 rw [if_neg (of_decide_eq_false k3)] at hT
 refine KX (fun k4=>?_) (fun k4=>?_)
 ·rw [if_pos (of_decide_eq_true k4)] at hT
  refine Vp cS ?_
  rw [Ko]
  match s,hT with
  | [],hT=>exact Wp rfl (Kw (fin e1 hT))
  | [c],hT =>
   refine Vk rfl (Kf (Vp cS (Kf (UX (i:=0) rfl (by simp) (Kf (KJ (KA1 (Kw (fin e1 hT)))))))))
  | c::d::r,hT =>
   refine Wp ?_ (Kw (fin e1 hT))
   rw [eqI]
   exact decide_eq_false (by simp only [List.length_cons]; omega)
 ·rw [if_neg (of_decide_eq_false k4)] at hT
  exact fin e1 hT
end Gx
namespace Gx
open Go
set_option linter.unusedVariables false
set_option linter.unusedSimpArgs false
set_option maxRecDepth 100000
def Wg (c:UInt8):Bool:=decide (c=32∨c=10)
def JN (s:List UInt8) (a:Nat):Nat:=a+((s.drop a).takeWhile Wg).length
theorem q5 {s:List UInt8} {a:Nat} (ha:a≤s.length):a≤JN s a∧JN s a≤s.length:=by
 have:((s.drop a).takeWhile Wg).length≤(s.drop a).length:=List.Sublist.length_le (List.takeWhile_sublist _)
 rw [List.length_drop] at this
 unfold JN
 omega
theorem KDr {s:List UInt8} {a:Nat} (ha:s.length≤a):JN s a=a:=by
 unfold JN
 rw [List.drop_eq_nil_iff.2 ha]; rfl
theorem GS {s:List UInt8} {a:Nat} (ha:a < s.length):JN s a=if Wg s[a]=true then JN s (a+1) else a:=by
 unfold JN
 rw [List.drop_eq_getElem_cons ha]
 by_cases h:Wg s[a]=true
 ·rw [List.takeWhile_cons_of_pos h,if_pos h,List.length_cons]; omega
 ·rw [List.takeWhile_cons_of_neg h,if_neg h]; rfl
def WS (s:List UInt8) (a:Nat):Obj:=.cells #[.string (bs s),.int .i64 (a:Int)] Ys (0,0)
def scN:Option Value→Nat
 | some (.int _ n)=>n.toNat
 | _=>0
def scAt (b:Nat) (h:Heap):Nat:=scN (KV h ⟨b,1,none⟩)
theorem KCq {h:Heap} {b a:Nat} {s:List UInt8} (g:h[b]?=some (WS s a)):scAt b h=a:=by
 unfold WS at g
 unfold scAt; rw [KU g]; rfl
theorem KA2 {h:Heap} {b a:Nat} {s:List UInt8} (g:h[b]?=some (WS s a)):KV h ((⟨b,0,none⟩:Addr).add 0)=some (.string (bs s)):=by
 rw [add_zero]; unfold WS at g; rw [KU g]; rfl
theorem z7 {h:Heap} {b a:Nat} {s:List UInt8} (g:h[b]?=some (WS s a)):KV h ((⟨b,0,none⟩:Addr).add 1)=some (.int .i64 (a:Int)):=by
 rw [Kp]; unfold WS at g; rw [KU g]; rfl
theorem KJS {h:Heap} {b a c:Nat} {s:List UInt8} (g:h[b]?=some (WS s a)):(hset h ⟨b,0+1,none⟩ (.int .i64 (c:Int)))[b]?=some (WS s c):=by
 unfold WS at g ⊢
 rw [VJ (h:=h) g]
 rfl
theorem KA3 {s:List UInt8} {b a:Nat} {h:Heap} {Q:Bool→Heap→Prop} (g:h[b]?=some (WS s a)) (ha:a≤s.length) (hs:s.length≤1099511627776)
  (H:∀ h',Upd b h h'→h'[b]?=some (WS s (JN s a))→Q (decide (JN s a < s.length)) h'):(J7 (some ⟨b,0,none⟩)).wp h Q:=by
 unfold J7
 refine M.loop_inv (fun (_:Unit) hh=>∃ i:Nat,a≤i∧i≤s.length∧JN s a=JN s i∧(Upd b h hh∨hh=h)∧hh[b]?=some (WS s i)) (fun _ hh=>s.length - scAt b hh) ?_ ⟨a,Nat.le_refl _,ha,rfl,.inr rfl,g⟩
 rintro ⟨⟩ hh ⟨i,hai,hi,hsk,hu,gi⟩ self hself
 have upd:∀ h',Upd b hh h'→Upd b h h':=fun h' u=>by
  rcases hu with hu | rfl
  ·exact ⟨by rw [u.size,hu.size],fun k hk=>(u.ne k hk).trans (hu.ne k hk)⟩
  ·exact u
 have hud:Upd b h hh:=by
  rcases hu with hu | rfl
  ·exact hu
  ·exact ⟨rfl,fun _ _=>rfl⟩
 unfold U4
 refine Kx (Kx (Zl (z7 gi) (Vp (KA2 gi) ?_)))
 rw [Ko]
 have fin:JN s i=i→(JU (some ⟨b,0,none⟩)).wp hh Q:=fun he=>by
  unfold JU
  refine Kx (Kx (Zl (z7 gi) (Vp (KA2 gi) (KC ?_))))
  have:=H hh hud (by rw [hsk,he]; exact gi)
  rw [hsk,he] at this
  rw [Ko,show decide ((i:Int) < (s.length:Int))=decide (i < s.length) from decide_eq_decide.2 (by omega)]
  exact this
 refine KX (fun hlt=>?_) (fun hge=>fin (KDr (by have:=of_decide_eq_false hge; omega)))
 have hlt:i < s.length:=by have:=of_decide_eq_true hlt; omega
 refine Kx (Kx (Vp (KA2 gi) (Zl (z7 gi) (UX (i:=i) rfl hlt ?_))))
 have hst:=GS hlt
 rw [u8_c (d:=32) (n:=32) rfl,u8_c (d:=10) (n:=10) rfl]
 have j2:∀ t:Bool,t=Wg s[i]→(JV self (some ⟨b,0,none⟩) t).wp hh Q:=fun t ht=>by
  unfold JV
  refine KX (fun hc=>?_) (fun hc=>fin ?_)
  ·rw [← ht,hc,if_pos rfl] at hst
   refine Kx (Zl (z7 gi) (Kx (qC (z7 gi) (by rw [Kp]; unfold WS at gi; exact ZX gi) rfl ?_)))
   rw [w64 (by omega) (by omega),Kp,show (i:Int)+1=((i+1:Nat):Int) by simp]
   have u:=Upd.hset hh b (0+1) (.int .i64 ((i+1:Nat):Int))
   have g':=KJS (c:=i+1) gi
   refine hself _ _ ⟨i+1,by omega,hlt,by rw [hsk,hst],.inl (upd _ u),g'⟩ ?_
   rw [KCq g',KCq gi]
   omega
  ·rw [← ht,hc,if_neg (by decide)] at hst
   exact hst
 refine KX (fun hc=>j2 _ ?_) (fun hc=>j2 _ ?_)
 ·rw [hc]; unfold Wg; exact (decide_eq_true (.inl (of_decide_eq_true hc))).symm
 ·unfold Wg
  exact decide_eq_decide.2 ⟨.inr,fun h=>h.resolve_left (of_decide_eq_false hc)⟩
end Gx
namespace Gx
open Go
set_option linter.unusedVariables false
set_option linter.unusedSimpArgs false
set_option maxRecDepth 100000
theorem KHM {k:Int} {s:List UInt8} {n:Nat} {t:Vl→Tkn} (hn:n≤s.length):(oneV k s n t).2≤s.length:=by
 unfold oneV oneW
 split
 ·exact Nat.zero_le _
 ·exact hn
theorem KCr:∀ s:List UInt8,(oneP s).2≤s.length
 | []=>Nat.le_refl _
 | c::r=>by
  rw [qy]
  have h1:=XI (c::r)
  have h2:=XI r
  have h3:(c::r).length=r.length+1:=rfl
  split
  ·show 1≤_; omega
  split
  ·exact h1
  split
  ·exact KHM (XJ _ _ _)
  ·exact KHM (by split <;> omega)
def XK (s:List UInt8) (a:Nat):Option (Tkn × Nat) :=
 if JN s a < s.length then
  (if (oneP (s.drop (JN s a))).2=0∨tokB { (oneP (s.drop (JN s a))).1 with a:=(JN s a:Int) }=false then none
   else some ({ (oneP (s.drop (JN s a))).1 with a:=(JN s a:Int) },JN s a+(oneP (s.drop (JN s a))).2))
 else none
theorem KHN (t:Tkn):(tokE t != 0)=!tokB t:=by
 unfold tokE
 cases tokB t <;> rfl
theorem KHO {s:List UInt8} {b a:Nat} {h:Heap} {Q:Array Value × Bool→Heap→Prop} (g:h[b]?=some (WS s a)) (ha:a≤s.length) (hs:s.length≤1099511627776) (he:ErrV h) (hb:b≠gER)
  (H1:∀ h',XK s a=none→Kb b h h'→h'[b]?=some (WS s (JN s a))→Q (tkn0.cells,false) h')
  (H2:∀ h' t a',XK s a=some (t,a')→a < a'→a'≤s.length→Kb b h h'→h'[b]?=some (WS s a')→Q (t.cells,true) h'):(J3 (some ⟨b,0,none⟩)).wp h Q:=by
 unfold J3
 have hbl:=Vm g
 have hsk:=q5 ha
 refine Zo (fun h1 e1 s1 g1=>?_)
 refine KJ (KA3 (e1.blk g) ha hs (fun h2 u2 g2=>?_))
 have g1':h2[h.size]?=some (.cells tkn0.cells KM (0,0)):=(u2.ne _ (by omega)).trans g1
 have K2:Kb b h h2:=(Km.ext e1).trans (Km.upd u2 rfl)
 obtain ⟨p,hp⟩:∃ p,p=JN s a:=⟨_,rfl⟩
 unfold XK at H1 H2
 rw [← hp] at H1 H2 g2 hsk ⊢
 refine KX (fun hc=>?_) (fun hc=>?_)
 ·have hc:¬ p < s.length:=by simpa using hc
  rw [if_neg hc] at H1
  exact YO (t0:=tkn0) (t:=tkn0) g1' (fun h3 u3=>KC (H1 _ rfl (K2.own u3 (Nat.le_refl _)) ((u3.ne b (by omega)).trans g2)))
 ·have hc:p < s.length:=by simpa using hc
  rw [if_pos hc] at H1 H2
  refine Kx (Kx (Vp (KA2 g2) (Zl (z7 g2) (KA0 (a:=p) (b:=s.length) rfl (by rw [Ko]) (by omega) (Nat.le_refl _) ?_))))
  rw [List.take_of_length_le (by rw [List.length_drop]; omega)]
  have hne:s.drop p≠[]:=fun e=>by have:=congrArg List.length e; rw [List.length_drop] at this; simp at this; omega
  have hdl:(s.drop p).length≤1099511627776:=by rw [List.length_drop]; omega
  have hol:=KCr (s.drop p)
  rw [List.length_drop] at hol
  have he2:ErrV h2:=he.km K2 hb
  obtain ⟨o,ho⟩:∃ o,o=oneP (s.drop p):=⟨_,rfl⟩
  rw [← ho] at H1 H2 hol
  have rest:∀ {h3:Heap} {q:Nat},Ext h2 h3→h2.size≤q→h3[q]?=some (.cells tkn0.cells KM (0,0))→(do
    M.need (o.1.cells.size=4)
    stG ⟨q,0,none⟩ o.1.cells
    let Xx22←nilP (some ⟨b,0,none⟩)
    let Xx23←ldI .i64 ((Xx22).add 1)
    stV ((⟨q,0,none⟩:Addr).add 3) (.int .i64 Xx23)
    let Xx27←M.ite ((o.2:Int) == 0) (do
     M.pure true
     ) (do
     let Xx28←ldG 4 ⟨q,0,none⟩
     let Xx29←GD Xx28
     M.pure (Xx29 != 0)
     )
    M.ite Xx27 (do
     M.need ((#[.int .i64 0,.string ByteArray.empty,.int .i64 0,.int .i64 0]:Array Value).size=4)
     stG ⟨h.size,0,none⟩ (#[.int .i64 0,.string ByteArray.empty,.int .i64 0,.int .i64 0]:Array Value)
     let Rr32←ldG 4 ⟨h.size,0,none⟩
     M.pure (Rr32,false)
     ) (do
     let Xx34←nilP (some ⟨b,0,none⟩)
     let Xx35←ldI .i64 ((Xx34).add 1)
     let Xx36←nilP (some ⟨b,0,none⟩)
     stV ((Xx36).add 1) (.int .i64 (IntKind.wrap .i64 (Xx35+(o.2:Int))))
     let Xx39←ldG 4 ⟨q,0,none⟩
     M.need (Xx39.size=4)
     stG ⟨h.size,0,none⟩ Xx39
     let Rr41←ldG 4 ⟨h.size,0,none⟩
     M.pure (Rr41,true)
     ):M (Array Value × Bool)).wp h3 Q:=fun {h3 q} e3 hq g3=>by
   have hs3:=e3.size
   have hz2:=K2.size
   have hz1:=u2.size
   refine JY rfl (stR g3 (Nat.le_refl 4) (Yn _) (fun h4 u4 g4=>?_))
   rw [ZH (cs:=tkn0.cells) (vs:=o.1.cells.toList) rfl,Array.toArray_toList] at g4
   have gb4:h4[b]?=some (WS s p):=(u4.ne b (by omega)).trans (e3.blk g2)
   refine Kx (Zl (z7 gb4) (qC (x:=.int .i64 o.1.a) (by rw [Kp,KU g4]; rfl) (by rw [Kp]; exact ZX g4) rfl ?_))
   rw [Kp]
   have u5:=Upd.hset h4 q (0+3) (.int .i64 (p:Int))
   have g5:(hset h4 ⟨q,0+3,none⟩ (.int .i64 (p:Int)))[q]?=some (.cells (Tkn.cells { o.1 with a:=(p:Int) }) KM (0,0)):=by rw [VJ g4]; rfl
   generalize hset h4 ⟨q,0+3,none⟩ (.int .i64 (p:Int))=h5 at u5 g5 ⊢
   generalize ht:({ o.1 with a:=(p:Int) }:Tkn)=t at g5 H1 H2
   have gb5:h5[b]?=some (WS s p):=(u5.ne b (by omega)).trans gb4
   have gz5:h5[h.size]?=some (.cells tkn0.cells KM (0,0)):=(u5.ne _ (by omega)).trans ((u4.ne _ (by omega)).trans (e3.blk g1'))
   have K5:Kb b h h5:=((K2.trans (Km.ext e3)).own u4 (by omega)).own u5 (by omega)
   have fin:∀ {h6:Heap} {c:Bool},Ext h5 h6→c=decide (o.2=0∨tokB t=false)→(M.ite c (do
     M.need ((#[.int .i64 0,.string ByteArray.empty,.int .i64 0,.int .i64 0]:Array Value).size=4)
     stG ⟨h.size,0,none⟩ (#[.int .i64 0,.string ByteArray.empty,.int .i64 0,.int .i64 0]:Array Value)
     let Rr32←ldG 4 ⟨h.size,0,none⟩
     M.pure (Rr32,false)
     ) (do
     let Xx34←nilP (some ⟨b,0,none⟩)
     let Xx35←ldI .i64 ((Xx34).add 1)
     let Xx36←nilP (some ⟨b,0,none⟩)
     stV ((Xx36).add 1) (.int .i64 (IntKind.wrap .i64 (Xx35+(o.2:Int))))
     let Xx39←ldG 4 ⟨q,0,none⟩
     M.need (Xx39.size=4)
     stG ⟨h.size,0,none⟩ Xx39
     let Rr41←ldG 4 ⟨h.size,0,none⟩
     M.pure (Rr41,true)
     ):M (Array Value × Bool)).wp h6 Q:=fun {h6 c} e6 hcc=>by
    have gb6:=e6.blk gb5
    have gz6:=e6.blk gz5
    have K6:Kb b h h6:=K5.trans (Km.ext e6)
    refine KX (fun h0=>?_) (fun h0=>?_)
    ·rw [if_pos (of_decide_eq_true (hcc.symm.trans h0))] at H1
     exact YO (t0:=tkn0) (t:=tkn0) gz6 (fun h7 u7=>KC (H1 _ rfl (K6.own u7 (Nat.le_refl _)) ((u7.ne b (by omega)).trans gb6)))
    ·have hno:=of_decide_eq_false (hcc.symm.trans h0)
     rw [if_neg hno] at H2
     have ho0:o.2≠0:=fun e=>hno (.inl e)
     refine Kx (Zl (z7 gb6) (Kx (qC (z7 gb6) (by rw [Kp]; unfold WS at gb6; exact ZX gb6) rfl ?_)))
     rw [w64 (by omega) (by omega),Kp,show (p:Int)+(o.2:Int)=((p+o.2:Nat):Int) by push_cast; rfl]
     have u7:=Upd.hset h6 b (0+1) (.int .i64 ((p+o.2:Nat):Int))
     have g7:=KJS (c:=p+o.2) gb6
     generalize hset h6 ⟨b,0+1,none⟩ (.int .i64 ((p+o.2:Nat):Int))=h7 at u7 g7 ⊢
     have gq7:=(u7.ne q (by omega)).trans (e6.blk g5)
     refine ldR gq7 rfl ?_
     exact YO (t0:=tkn0) (t:=t) ((u7.ne _ (by omega)).trans gz6) (fun h8 u8=>KC (H2 _ t _ rfl (by omega) (by omega) ((K6.trans (Km.upd u7 rfl)).own u8 (Nat.le_refl _)) ((u8.ne b (by omega)).trans g7)))
   refine KJ (KX (fun h0=>KC (fin (Ext.refl _) ?_)) (fun h0=>ldR g5 rfl (KJ (KEh (fun h6 e6=>KC (fin e6 ?_))))))
   ·rw [eqI] at h0
    have:=of_decide_eq_true h0
    exact (decide_eq_true (.inl (by omega))).symm
   ·rw [eqI] at h0
    have:=of_decide_eq_false h0
    have h1:¬ o.2=0:=by omega
    rw [KHN]
    cases tokB t with
    | true=>exact (decide_eq_false (fun h=>h.elim h1 (fun h=>by cases h))).symm
    | false=>exact (decide_eq_true (.inr rfl)).symm
  have ck:∀ {h':Heap},Ext h2 h'→KV h' ((⟨b,0,none⟩:Addr).add 0)=some (.string (bs s))∧KV h' ((⟨b,0,none⟩:Addr).add 1)=some (.int .i64 (p:Int)):=fun {h'} e=>⟨KA2 (e.blk g2),z7 (e.blk g2)⟩
  refine KLH (KJ (KJ (KFR hne hdl he2 (fun h3 e3=>KAa (ck e3) (Zo (fun h4 e4 s4 g4=>KAa (ck (e3.trans e4)) (KC ?_))))))) (KJ (Zo (fun h3 e3 s3 g3=>KAa (ck e3) (KJ (KFR hne hdl (he2.ext e3) (fun h4 e4=>KC ?_))))))
  ·rw [← ho]
   exact rest (e3.trans e4) (by exact e3.size) g4
  ·rw [← ho]
   exact rest (e3.trans e4) (Nat.le_refl _) (e4.blk g3)
end Gx
namespace Gx
open Go
set_option linter.unusedVariables false
set_option linter.unusedSimpArgs false
theorem q7 {s:List UInt8} {a a':Nat} {t:Tkn} (ha:a≤s.length) (h:XK s a=some (t,a')):a < a'∧a'≤s.length:=by
 have hsk:=q5 ha
 have hol:=KCr (s.drop (JN s a))
 rw [List.length_drop] at hol
 unfold XK at h
 split at h
 ·split at h
  ·cases h
  ·rename_i h1
   cases h
   have:(oneP (s.drop (JN s a))).2≠0:=fun e=>h1 (.inl e)
   omega
 ·cases h
def allF (s:List UInt8):Nat→Nat→List Tkn × Nat
 | 0,a=>([],JN s a)
 | f+1,a=>match XK s a with
  | none=>([],JN s a)
  | some (t,a')=>(t::(allF s f a').1,(allF s f a').2)
theorem KDs {s:List UInt8}:∀ (f g a:Nat),a≤s.length→s.length - a < f→s.length - a < g→allF s f a=allF s g a
 | 0,_,_,_,h,_=>by omega
 | _,0,_,_,_,h=>by omega
 | f+1,g+1,a,ha,h1,h2=>by
  rw [allF,allF]
  cases hn:XK s a with
  | none=>rfl
  | some p =>
   obtain ⟨t,a'⟩:=p
   have:=q7 ha hn
   dsimp only
   rw [KDs f g a' this.2 (by omega) (by omega)]
def allT (s:List UInt8) (a:Nat):List Tkn × Nat:=allF s (s.length - a+1) a
theorem XL {s:List UInt8} {a:Nat} (h:XK s a=none):allT s a=([],JN s a):=by
 unfold allT
 rw [allF,h]
theorem XM {s:List UInt8} {a a':Nat} {t:Tkn} (ha:a≤s.length) (h:XK s a=some (t,a')):allT s a=(t::(allT s a').1,(allT s a').2):=by
 have:=q7 ha h
 unfold allT
 rw [allF,h]
 dsimp only
 rw [KDs (s.length - a) (s.length - a'+1) a' this.2 (by omega) (by omega)]
end Gx
namespace Gx
open Go
set_option linter.unusedVariables false
set_option linter.unusedSimpArgs false
set_option maxRecDepth 100000
theorem KMg {s:List UInt8} {b c a l:Nat} {Inv:Nat→Heap→Prop} {Stop:Heap→Prop} {h:Heap} (ha:a≤s.length) (hs:s.length≤1099511627776) (hb:b≠gER) (hU:∀ i h1 h2,Inv i h1→Kb b h1 h2→Inv i h2)
  (hC:∀ i h1,Inv i h1→ErrV h1∧h1[c]?=some (.cells #[.pointer (some ⟨b,0,none⟩)] VZ (0,0))) (g:h[b]?=some (WS s a)) (h0:Inv 0 h)
  (hround:∀ i (hi:i < (allT s a).1.length) h1,Inv i h1→(Vu Go.Proofs.Tryz.prog (fun r:Bool=>.bool r) (yV l) [.agg (allT s a).1[i].cells]).wp h1 (fun r h2=>h2[b]?=h1[b]?∧(if r=true then Inv (i+1) h2 else Stop h2))) :
  (Vu Go.Proofs.Tryz.prog (fun _:Unit=>.tuple #[]) (.func (.func VK) #[] #[.pointer (some ⟨c,0,none⟩)]) [yV l]).wp h (fun _ h1=>(Inv (allT s a).1.length h1∧h1[b]?=some (WS s (allT s a).2))∨Stop h1):=by
 refine KAX Gi (Nz (yV l) ⟨c,0,none⟩) ?_
 unfold XF
 refine M.loop_inv (fun (_:Unit) hh=>∃ i a':Nat,a'≤s.length∧i≤(allT s a).1.length∧(allT s a).1.drop i=(allT s a').1∧(allT s a).2=(allT s a').2∧Inv i hh∧hh[b]?=some (WS s a')) (fun _ hh=>s.length - scAt b hh) ?_ ⟨0,a,ha,Nat.zero_le _,rfl,rfl,h0,g⟩
 rintro ⟨⟩ hh ⟨i,a',ha',hi,hd,h2e,hI,gb⟩ self hself
 unfold VS
 obtain ⟨he,hc⟩:=hC i hh hI
 refine KMP (n:=some ⟨b,0,none⟩) (by rw [KU hc]; rfl) (KJ (KHO gb ha' hs he hb (fun h2 hn K2 g2=>?_) (fun h2 t a2 hn hlt hle K2 g2=>?_)))
 ·refine Zo (fun h3 e3 s3 g3=>JY rfl (stR g3 (Nat.le_refl 4) (Yn tkn0) (fun h4 u4 g4=>Vk rfl (Kw (iteT rfl (KC (.inl ?_)))))))
  rw [XL hn] at hd h2e
  have hlen:i=(allT s a).1.length:=by
   have:=congrArg List.length hd
   rw [List.length_drop] at this
   simp only [List.length_nil] at this
   omega
  have K4:Kb b h2 h4:=(Km.ext e3).own u4 (Nat.le_refl _)
  rw [← hlen,h2e]
  exact ⟨hU _ _ _ hI (K2.trans K4),(u4.ne b (by have:=Vm g2; omega)).trans (e3.blk g2)⟩
 ·refine Zo (fun h3 e3 s3 g3=>JY rfl (stR g3 (Nat.le_refl 4) (Yn t) (fun h4 u4 g4=>Wp rfl ?_)))
  have g4:h4[h2.size]?=some (.cells t.cells KM (0,0)):=by
   have e:lay tkn0.cells 0 t.cells.toList=t.cells:=by rw [ZH (cs:=tkn0.cells) (vs:=t.cells.toList) rfl,Array.toArray_toList]
   rw [← e]; exact g4
  rw [XM ha' hn] at hd h2e
  have hlt2:i < (allT s a).1.length:=by
   rcases Nat.lt_or_ge i (allT s a).1.length with h | h
   ·exact h
   ·rw [List.drop_eq_nil_iff.2 h] at hd; cases hd
  rw [List.drop_eq_getElem_cons hlt2] at hd
  obtain ⟨hd1,hd2⟩:=List.cons.inj hd
  have K4:Kb b h2 h4:=(Km.ext e3).own u4 (Nat.le_refl _)
  have gb4:h4[b]?=some (WS s a2):=(u4.ne b (by have:=Vm g2; omega)).trans (e3.blk g2)
  have hr:=hround i hlt2 h4 (hU _ _ _ hI (K2.trans K4))
  rw [hd1] at hr
  refine Kf (ldR g4 rfl (Kf (KJ ((Vu _ _ _ _).mono ?_ hr))))
  rintro r h5 ⟨hk,hr5⟩
  refine Kw ?_
  cases r with
  | true =>
   rw [if_pos rfl] at hr5
   refine iteF rfl (hself _ _ ⟨i+1,a2,hle,hlt2,hd2,h2e,hr5,hk.trans gb4⟩ ?_)
   rw [KCq (hk.trans gb4),KCq gb]
   omega
  | false =>
   rw [if_neg (by decide)] at hr5
   exact iteT rfl (KC (.inr hr5))
end Gx
namespace Gx
open Go
set_option linter.unusedVariables false
set_option linter.unusedSimpArgs false
set_option maxRecDepth 100000
abbrev tokV (t:Tkn):List Value:=[.agg t.cells]
def SeqT (P:Program) (ts:List Tkn) (g:Value) (b:Nat) (C:Heap→Prop) (o:Obj) (End:Heap→Prop):Prop :=
 ∀ (l:Nat) (Inv:Nat→Heap→Prop) (Stop:Heap→Prop) (h:Heap),(∀ i h1 h2,Inv i h1→Kb b h1 h2→Inv i h2)→(∀ i h1,Inv i h1→C h1)→h[b]?=some o→Inv 0 h →
  (∀ i (hi:i < ts.length) h1,Inv i h1→(Vu P (fun b:Bool=>.bool b) (yV l) (tokV ts[i])).wp h1 (fun r h2=>h2[b]?=h1[b]?∧(if r=true then Inv (i+1) h2 else Stop h2))) →
  (Vu P (fun _:Unit=>.tuple #[]) g [yV l]).wp h (fun _ h1=>(Inv ts.length h1∧End h1)∨Stop h1)
theorem KDt {P:Program} {js:List Code} {Y:Nat→Array Value→M Nat} {Yb:Addr→M Nat} {r:Loop} {l:Nat} {t:Tkn}
  (hY:Y l t.cells=(mkB KM (#[.int .i64 0,.string ByteArray.empty,.int .i64 0,.int .i64 0]:Array Value)>>=fun a=>M.need (t.cells.size=4)>>=fun _=>stG a t.cells>>=fun _=>beg l>>=fun _=>Yb a))
  (hr:KE3 P (fun x:Array Value=>[.agg x]) js Y r l) {c:Code} (hjs:js=[c]) {J J' E:Heap→Prop}
  (hJ:∀ h1 h2,J h1→Upd l h1 h2→J h2) (hJx:∀ h1 h2,J h1→Ext h1 h2→J h2) (hJ':∀ h1 h2,J' h1→Upd l h1 h2→J' h2) (hE:∀ h1 h2,E h1→Upd l h1 h2→E h2)
  (hbody:∀ h1 o n,J h1→h1[n]?=some (.cells t.cells KM (0,0))→h1[l]?=some o→l < n→(Yb ⟨n,0,none⟩).wp h1 (fun j h2=>h2[l]?=some o∧(j=0∧J' h2∨j=1∧E h2))) {h1:Heap} (h0:J h1) (hrec:h1[l]?=some (WV r .ready none)) :
  (Vu P (fun b:Bool=>.bool b) (yV l) (tokV t)).wp h1 (fun b h2=>if b=true then (J' h2∧h2[l]?=some (WV r .ready none)) else (E h2∧h2[l]?=some (WV r .done (some c)))):=by
 refine hr t.cells h1 _ .ready none hrec ?_
 rw [hY]
 refine Zo (fun h2 e2 s2 g2=>JY rfl (stR g2 (Nat.le_refl 4) (Yn t) (fun h3 u3 g3=>?_)))
 have g3:h3[h1.size]?=some (.cells t.cells KM (0,0)):=by
  have e:lay tkn0.cells 0 t.cells.toList=t.cells:=by rw [ZH (cs:=tkn0.cells) (vs:=t.cells.toList) rfl,Array.toArray_toList]
  rw [← e]; exact g3
 have e3:Ext h1 h3:=e2.upd u3 (Nat.le_refl _)
 have hl:=Vm hrec
 have hrec3:=e3.blk hrec
 refine ⟨{ r with state:=.ready,pending:=none },hrec3,rfl,?_⟩
 have hb:=KCH (o':=WV r .busy none) hrec3
 refine (Yb ⟨h1.size,0,none⟩).mono ?_ (hbody _ _ h1.size (hJ _ _ (hJx _ _ h0 e3) (Upd.set_ h3 l (WV r .busy none))) (((Upd.set_ h3 l (WV r .busy none)).ne _ (by omega)).trans g3) hb (by omega))
 rintro j h4 ⟨h5,h6⟩
 refine ⟨.busy,none,h5,?_⟩
 rcases h6 with ⟨rfl,h6⟩ | ⟨rfl,h6⟩
 ·show if true=true then _ else _
  rw [if_pos rfl]
  exact ⟨hJ' _ _ h6 (Upd.set_ _ _ _),KCH h5⟩
 ·subst hjs
  show if false=true then _ else _
  rw [if_neg (by simp)]
  exact ⟨hE _ _ h6 (Upd.set_ _ _ _),KCH h5⟩
theorem KLt {P:Program} {js:List Code} {Y:Nat→Array Value→M Nat} {Yb:Addr→M Nat}
  (hY:∀ l (x:Array Value),Y l x=(mkB KM (#[.int .i64 0,.string ByteArray.empty,.int .i64 0,.int .i64 0]:Array Value)>>=fun a=>M.need (x.size=4)>>=fun _=>stG a x>>=fun _=>beg l>>=fun _=>Yb a))
  {c:Code} (hjs:js=[c]) {g:Value} (hg:∀ l,g≠.func (.yield l) #[] #[]) {h:Heap} {Q:Nat × Nat→Heap→Prop} {ts:List Tkn} {b:Nat} {o0:Obj} {C End:Heap→Prop}
  (J:Nat→Heap→Prop) (E:Heap→Prop) (hJ:∀ i h1 h2,J i h1→Upd (h.size+1) h1 h2→J i h2) (hE:∀ h1 h2,E h1→Upd (h.size+1) h1 h2→E h2) (hEnd:∀ h1 h2,End h1→Upd (h.size+1) h1 h2→End h2) (hJb:∀ i h1 h2,J i h1→h.size+2≤h1.size→Kb b h1 h2→J i h2) (hC:∀ i h1,J i h1→C h1)
  (hb:h[b]?=some o0) (hseq:SeqT P ts g b C o0 End) (h0:∀ r:Loop,J 0 ((h.push (.deferred (some []))).push (WV r .ready none)))
  (hbody:∀ i (hi:i < ts.length) h1 o n,J i h1→h1[n]?=some (.cells (ts[i]).cells KM (0,0))→h.size+2≤n→h1[h.size+1]?=some o→(Yb ⟨n,0,none⟩).wp h1 (fun j h2=>h2[h.size+1]?=some o∧h2[b]?=h1[b]?∧(j=0∧J (i+1) h2∨j=1∧E h2)))
  (hq0:∀ h1,J ts.length h1→End h1→Q (0,h.size) h1) (hq1:∀ h1,E h1→Q (1,h.size) h1):(rgF P (fun x:Array Value=>[.agg x]) js Y g).wp h Q:=by
 refine ⟨hg,fun r hr=>?_⟩
 have hbl:=Vm hb
 have hrec:((h.push (.deferred (some []))).push (WV r .ready none))[h.size+1]?=some (WV r .ready none):=by
  have:h.size+1=(h.push (.deferred (some []))).size:=by simp
  rw [this]; exact Z2
 refine (Vu P _ _ _).mono ?_ (hseq (h.size+1) (fun i h1=>J i h1∧h1[h.size+1]?=some (WV r .ready none)) (fun h1=>E h1∧h1[h.size+1]?=some (WV r .done (some c))) _ (fun i h1 h2 hh u=>⟨hJb i h1 h2 hh.1 (Vm hh.2) u,(u.blk hh.2 (by omega))⟩) (fun i h1 hh=>hC i h1 hh.1)
  (by rw [Vb (by simp; omega),Vb hbl]; exact hb) ⟨h0 r,hrec⟩ (fun i hi h1 hh=>?_))
 ·rintro _ h1 (⟨⟨h2,h3⟩,h4⟩ | ⟨h2,h3⟩)
  ·exact ⟨.ready,0,by decide,h3,hq0 _ (hJ _ _ _ h2 (Upd.set_ _ _ _)) (hEnd _ _ h4 (Upd.set_ _ _ _))⟩
  ·subst hjs
   exact ⟨.done,1,by decide,h3,hq1 _ (hE _ _ h2 (Upd.set_ _ _ _))⟩
 ·have hz:=Vm hh.2
  have hbo:∃ o,h1[b]?=some o:=⟨_,Array.getElem?_eq_getElem (by omega)⟩
  obtain ⟨ob,hob⟩:=hbo
  refine (Vu P _ _ _).mono ?_ (KDt (hY _ _) hr hjs (J:=fun h2=>J i h2∧h2[b]?=some ob∧h.size+2≤h2.size) (J':=fun h2=>J (i+1) h2∧h2[b]?=some ob) (E:=fun h2=>E h2∧h2[b]?=some ob) (fun h2 h3 hj u=>⟨hJ _ _ _ hj.1 u,(u.ne _ (by omega)).trans hj.2.1,by rw [u.size]; exact hj.2.2⟩) (fun h2 h3 hj e=>⟨hJb _ _ _ hj.1 hj.2.2 (Km.ext e),e.blk hj.2.1,by have:=e.size; omega⟩) (fun h2 h3 hj u=>⟨hJ _ _ _ hj.1 u,(u.ne _ (by omega)).trans hj.2⟩) (fun h2 h3 hj u=>⟨hE _ _ hj.1 u,(u.ne _ (by omega)).trans hj.2⟩) (fun h2 o n hj hn ho hnl=>?_) ⟨hh.1,hob,hz⟩ hh.2)
  ·rintro r' h2 hr'
   rw [hob]
   split at hr'
   ·rename_i hT; subst hT; exact ⟨hr'.1.2,by rw [if_pos rfl]; exact ⟨hr'.1.1,hr'.2⟩⟩
   ·rename_i hF; exact ⟨hr'.1.2,by rw [if_neg hF]; exact ⟨hr'.1.1,hr'.2⟩⟩
  ·refine (Yb _).mono ?_ (hbody i hi h2 o n hj.1 hn (by omega) ho)
   rintro j h3 ⟨h4,h5,h6⟩
   exact ⟨h4,h6.imp (fun h6=>⟨h6.1,h6.2,h5.trans hj.2.1⟩) (fun h6=>⟨h6.1,h6.2,h5.trans hj.2.1⟩)⟩
theorem oneC {h:Heap} {b:Nat} {v:Value} {t:TypeId} {z:Nat × Nat} (hb:h[b]?=some (.cells #[v] t z)):KV h ⟨b,0,none⟩=some v:=by rw [KU hb]; rfl
theorem stO {β:Type} {h:Heap} {Q:β→Heap→Prop} {b:Nat} {v u:Value} {t:TypeId} {f:Unit→M β} (g:h[b]?=some (.cells #[v] t (0,0))) (h1:one u=true)
  (H:∀ h',Upd b h h'→h'[b]?=some (.cells #[u] t (0,0))→(f ()).wp h' Q):(stV ⟨b,0,none⟩ u>>=f).wp h Q :=
 qC (oneC g) (ZX g) h1 (H _ (Upd.hset _ _ _ _) (by rw [VJ g]; rfl))
def tks (ts:List Tkn):List (Array Value):=ts.map Tkn.cells
theorem KHP (ts:List Tkn):W4 (tks ts):=fun c hc=>by
 obtain ⟨t,_,rfl⟩:=List.mem_map.1 hc
 exact ⟨rfl,Yn t⟩
theorem zg (ts:List Tkn):(tks ts).length=ts.length:=List.length_map _
theorem KHQ (a b:List Tkn):tks (a++b)=tks a++tks b:=List.map_append
def TkR (h:Heap) (x:Sl) (ts:List Tkn):Prop:=x.len=ts.length∧Xo h x.base (VW (tks ts))
theorem TkR.ext {h h':Heap} {x:Sl} {ts:List Tkn} (H:TkR h x ts) (e:Ext h h'):TkR h' x ts:=⟨H.1,e.reads H.2⟩
theorem TkR.nil (h:Heap):TkR h Sl.nil []:=⟨rfl,.inl rfl⟩
theorem Gw.tkR {lo:Nat} {h:Heap} {r:Sl} {ts:List Tkn} (G:Gw lo h r 4 (VW (tks ts))):TkR h r ts:=⟨by have:=G.len; rw [We (KHP ts),zg] at this; omega,G.reads⟩
theorem TkR.at {h:Heap} {x:Sl} {ts:List Tkn} (H:TkR h x ts) {i:Nat} (hi:i < ts.length):∃ a,x.base=some a∧∀ j,j < 4→KV h ((a.add (i * 4)).add j)=(ts[i]).cells[j]?:=by
 rcases H.2 with h0 | ⟨a,ha,hr⟩
 ·have:=congrArg List.length h0
  rw [We (KHP ts),zg] at this; simp at this; omega
 ·refine ⟨a,ha,fun j hj=>?_⟩
  rw [Addr.add_add]
  have h1:=KAv (KHP ts) i j hj
  rw [List.getElem?_eq_getElem (l:=tks ts) (i:=i) (by rw [zg]; exact hi),Option.bind_some] at h1
  have h2:(tks ts)[i]'(by rw [zg]; exact hi)=(ts[i]).cells:=by simp [tks]
  rw [h2] at h1
  have h3:j < (ts[i]).cells.size:=hj
  rw [Array.getElem?_eq_getElem h3] at h1 ⊢
  exact hr _ _ h1
end Gx
namespace Gx
open Go Go.Proofs Go.Shelf Go.RowKit Go.Lib
set_option linter.unusedVariables false
set_option linter.unusedSimpArgs false
set_option maxRecDepth 100000
def dcv (acc:Nat) (l:List UInt8):Nat:=l.foldl (fun a c=>a * 10+(c.toNat - 48)) acc
theorem KHR (acc:Nat):dcv acc []=acc:=rfl
theorem KCs (acc:Nat) (c:UInt8) (r:List UInt8):dcv acc (c::r)=dcv (acc * 10+(c.toNat - 48)) r:=List.foldl_cons ..
theorem KCt (l:List UInt8) (acc:Nat) (c:UInt8):dcv acc (l++[c])=dcv acc l * 10+(c.toNat - 48):=by
 unfold dcv
 rw [List.foldl_append,List.foldl_cons,List.foldl_nil]
theorem KHS:∀ (l:List UInt8) (acc:Nat),acc≤dcv acc l
 | [],acc=>Nat.le_refl _
 | c::l,acc=>by rw [KCs]; have:=KHS l (acc * 10+(c.toNat - 48)); omega
theorem KFS {a b:List UInt8} (h:a≠[]):(a++b).head?=a.head?:=by cases a with | nil=>exact absurd rfl h | cons c r=>rfl
theorem N3:∀ (m u:Nat),u < m→(decDigits u).all digB=true∧dcv 0 (decDigits u)=u∧decDigits u≠[]∧((decDigits u).head?=some 48→u=0):=by
 intro m
 induction m with
 | zero=>intro u h; omega
 | succ m ih =>
  intro u h
  have hd:∀ k,k < 10→digB (UInt8.ofNat (48+k))=true∧(UInt8.ofNat (48+k)).toNat=48+k:=fun k hk=>by
   have h1:(UInt8.ofNat (48+k)).toNat=48+k:=by
    rw [UInt8.toNat_ofNat']
    exact Nat.mod_eq_of_lt (by omega)
   exact ⟨by unfold digB; rw [h1,decide_eq_true (by omega),decide_eq_true (by omega)]; rfl,h1⟩
  rw [decDigits]
  by_cases h10:u < 10
  ·rw [dif_pos h10]
   obtain ⟨a,b⟩:=hd u h10
   refine ⟨by rw [List.all_cons,a]; rfl,?_,by simp,fun hh=>?_⟩
   ·rw [KCs,KHR,b]; omega
   ·have:UInt8.ofNat (48+u)=48:=by simpa using hh
    have h2:=congrArg UInt8.toNat this
    rw [b] at h2
    have:(48:UInt8).toNat=48:=rfl
    omega
  ·rw [dif_neg h10]
   obtain ⟨a1,a2,a3,a4⟩:=ih (u / 10) (by omega)
   obtain ⟨b1,b2⟩:=hd (u % 10) (Nat.mod_lt _ (by decide))
   refine ⟨by rw [List.all_append,a1,List.all_cons,b1]; rfl,?_,by simp,fun hh=>?_⟩
   ·rw [KCt,a2,b2]
    omega
   ·rw [KFS a3] at hh
    have:=a4 hh
    omega
theorem KHT:∀ (m:Nat) (l:List UInt8),l.length≤m→l≠[]→l.all digB=true→(l.head?=some 48→l=[48])→l=decDigits (dcv 0 l):=by
 intro m
 induction m with
 | zero=>intro l h hne; exact absurd (List.length_eq_zero_iff.1 (by omega)) hne
 | succ m ih =>
  intro l hl hne hd hz
  obtain ⟨a,c,rfl⟩:∃ a c,l=a++[c]:=⟨l.dropLast,l.getLast hne,(List.dropLast_concat_getLast hne).symm⟩
  rw [List.all_append,Bool.and_eq_true] at hd
  have hc:digB c=true:=by simpa using hd.2
  unfold digB at hc
  rw [Bool.and_eq_true,decide_eq_true_iff,decide_eq_true_iff] at hc
  have hcc:UInt8.ofNat (48+(c.toNat - 48))=c:=by
   rw [show 48+(c.toNat - 48)=c.toNat by omega,UInt8.ofNat_toNat]
  rw [KCt]
  by_cases ha:a=[]
  ·subst ha
   rw [KHR]
   rw [decDigits,dif_pos (by omega),Nat.zero_mul,Nat.zero_add,hcc]
   rfl
  ·rw [List.length_append,List.length_singleton] at hl
   have hh:a.head?=some 48→a=[48]:=fun h=>by
    have:=hz (by rw [KFS ha]; exact h)
    have hlen:=congrArg List.length this
    rw [List.length_append] at hlen
    simp at hlen
    exact absurd hlen ha
   have h1:=ih a (by omega) ha hd.1 hh
   have hpos:1≤dcv 0 a:=by
    by_cases h0:dcv 0 a=0
    ·rw [h0] at h1
     exfalso
     have hz0:decDigits 0=[48]:=by rw [decDigits,dif_pos (by decide)]; rfl
     rw [hz0] at h1
     have:=hz (by rw [h1]; rfl)
     rw [h1] at this
     simp at this
    ·omega
   rw [decDigits,dif_neg (by omega),show (dcv 0 a * 10+(c.toNat - 48)) / 10=dcv 0 a by omega,show (dcv 0 a * 10+(c.toNat - 48)) % 10=c.toNat - 48 by omega,hcc,← h1]
theorem GT (M:Nat):∀ (l:List UInt8) (acc u:Nat),parseUintM M acc l=.ok u→u=dcv acc l∧(acc≤M→u≤M)
 | [],acc,u,h=>by rw [parseUintM] at h; cases h; exact ⟨rfl,id⟩
 | c::r,acc,u,h=>by
  rw [parseUintM] at h
  split at h
  ·split at h
   ·cases h
   ·split at h
    ·cases h
    ·have:=GT M r _ _ h
     exact ⟨this.1,fun _=>this.2 (by omega)⟩
  ·cases h
theorem q8 (M:Nat) (hM:M < 18446744073709551616):∀ (l:List UInt8) (acc:Nat),l.all digB=true→dcv acc l≤M→parseUintM M acc l=.ok (dcv acc l)
 | [],acc,_,_=>by rw [parseUintM]; rfl
 | c::r,acc,h,hv=>by
  rw [List.all_cons,Bool.and_eq_true] at h
  have hc:=h.1
  unfold digB at hc
  rw [Bool.and_eq_true,decide_eq_true_iff,decide_eq_true_iff] at hc
  rw [KCs] at hv
  have hge:=KHS r (acc * 10+(c.toNat - 48))
  rw [parseUintM,if_pos hc,if_neg (by omega),if_neg (by omega),q8 M hM r _ h.2 hv]
  rfl
theorem KIi {l:List UInt8} (h:l.all digB=true):numD l=l:=by
 unfold numD
 rw [if_neg]
 intro hh
 cases l with
 | nil=>cases hh
 | cons c r =>
  rw [List.all_cons,Bool.and_eq_true] at h
  have:c=45:=by simpa using hh
  subst this
  exact absurd h.1 (by decide)
theorem KA4 {n:Int} (hn:I64 n):numP (itoa n)=(n,0):=by
 unfold I64 at hn
 have e63:(2:Nat) ^ (64 - 1)=9223372036854775808:=by decide
 have e64:(2:Nat) ^ 64 - 1=18446744073709551615:=by decide
 unfold itoa
 split
 ·rename_i hneg
  obtain ⟨a1,a2,a3,a4⟩:=N3 _ n.natAbs (Nat.lt_succ_self _)
  have hD:numD (45::decDigits n.natAbs)=decDigits n.natAbs:=rfl
  unfold numP
  rw [hD,if_neg a3,if_neg (by rw [a1]; decide),if_neg (fun hh=>by have:=a4 hh.1; omega)]
  have hp:parseIntB 64 (45::decDigits n.natAbs)=.ok n:=by
   unfold parseIntB
   dsimp only
   rw [if_pos (by right; rfl)]
   unfold parseUintB
   rw [if_neg a3,e64,q8 _ (by decide) _ _ a1 (by rw [a2]; omega),a2,e63]
   have h45:(45:UInt8).toNat=45:=rfl
   dsimp only
   rw [if_neg (fun hh=>hh.1 h45),if_neg (fun hh=>by have:=hh.2; omega),if_pos h45]
   congr 1
   omega
  rw [hp]
 ·rename_i hpos
  obtain ⟨a1,a2,a3,a4⟩:=N3 _ n.toNat (Nat.lt_succ_self _)
  unfold numP
  rw [KIi a1,if_neg a3,if_neg (by rw [a1]; decide),if_neg (fun hh=>by
   have h0:=a4 hh.1
   rw [h0] at hh
   exact hh.2 (by rw [decDigits,dif_pos (by decide)]; rfl))]
  have hp:parseIntB 64 (decDigits n.toNat)=.ok n:=by
   cases hdd:decDigits n.toNat with
   | nil=>exact absurd hdd a3
   | cons c r =>
    rw [hdd] at a1 a2 a3
    have hc:digB c=true:=by rw [List.all_cons,Bool.and_eq_true] at a1; exact a1.1
    unfold digB at hc
    rw [Bool.and_eq_true,decide_eq_true_iff,decide_eq_true_iff] at hc
    unfold parseIntB
    dsimp only
    rw [if_neg (by omega)]
    unfold parseUintB
    rw [if_neg a3,e64,q8 _ (by decide) _ _ a1 (by rw [a2]; omega),a2,e63]
    dsimp only
    rw [if_neg (fun hh=>by have:=hh.2; omega),if_neg (fun hh=>by have:=hh.1; omega),if_neg (by omega)]
    congr 1
    omega
  rw [hp]
theorem KHU {t:List UInt8} {n:Int} (h:numP t=(n,0)):t=itoa n:=by
 have e63:(2:Nat) ^ (64 - 1)=9223372036854775808:=by decide
 unfold numP at h
 split at h
 ·cases h
 rename_i h1
 split at h
 ·cases h
 rename_i h2
 split at h
 ·cases h
 rename_i h3
 have h2:(numD t).all digB=true:=by
  cases hh:(numD t).all digB with
  | true=>rfl
  | false=>exact absurd hh h2
 split at h
 ·rename_i m hm
  cases h
  cases t with
  | nil=>exact absurd rfl h1
  | cons c r =>
   unfold parseIntB at hm
   dsimp only at hm
   by_cases h45:c=45
   ·subst h45
    have hD:numD (45::r)=r:=rfl
    rw [hD] at h1 h2 h3
    rw [if_pos (by right; rfl)] at hm
    unfold parseUintB at hm
    rw [if_neg h1] at hm
    split at hm
    ·cases hm
    ·cases hm
    ·rename_i u hu
     have hv:=(GT _ _ _ _ hu).1
     have hr:r=decDigits u:=by
      rw [hv]
      exact KHT _ r (Nat.le_refl _) h1 h2 (fun hh=>absurd ⟨hh,by simp⟩ h3)
     have h45':(45:UInt8).toNat=45:=rfl
     rw [if_neg (fun hh=>hh.1 h45'),e63] at hm
     split at hm
     ·cases hm
     ·cases hm
      have hu0:u≠0:=fun e=>by
       subst e
       have hz:r=[48]:=by rw [hr,decDigits,dif_pos (by decide)]; rfl
       exact h3 ⟨by rw [hz]; rfl,by simp⟩
      unfold itoa
      rw [if_pos (by omega),show (-(u:Int)).natAbs=u by omega,← hr]
   ·have hD:numD (c::r)=c::r:=by unfold numD; rw [List.head?_cons,if_neg (by simpa using h45)]
    rw [hD] at h1 h2 h3
    have hc:digB c=true:=by rw [List.all_cons,Bool.and_eq_true] at h2; exact h2.1
    unfold digB at hc
    rw [Bool.and_eq_true,decide_eq_true_iff,decide_eq_true_iff] at hc
    rw [if_neg (by omega)] at hm
    unfold parseUintB at hm
    rw [if_neg h1] at hm
    split at hm
    ·cases hm
    ·cases hm
    ·rename_i u hu
     have hv:=(GT _ _ _ _ hu).1
     have hr:c::r=decDigits u:=by
      rw [hv]
      refine KHT _ _ (Nat.le_refl _) h1 h2 (fun hh=>?_)
      by_cases he:c::r=[48]
      ·exact he
      ·exact absurd ⟨hh,he⟩ h3
     split at hm
     ·cases hm
     ·split at hm
      ·cases hm
      ·rw [if_neg (by omega)] at hm
       cases hm
       unfold itoa
       rw [if_neg (by omega),Int.toNat_natCast,← hr]
 ·cases h
end Gx
namespace Gx
open Go
set_option linter.unusedVariables false
set_option linter.unusedSimpArgs false
def hexc (n:Nat):UInt8:=if n < 10 then UInt8.ofNat (48+n) else UInt8.ofNat (87+n)
theorem KGr.ext {h h':Heap} (H:KGr h) (e:Ext h h'):KGr h':=by
 obtain ⟨cs,ty,fz,h1,h2⟩:=H
 exact ⟨cs,ty,fz,e.blk h1,h2⟩
theorem KDT.ext {h h':Heap} (H:KDT h) (e:Ext h h'):KDT h':=by
 obtain ⟨fz,ty,h1⟩:=H
 exact ⟨fz,ty,e.blk h1⟩
end Gx
namespace Gx
open Go
set_option linter.unusedVariables false
set_option linter.unusedSimpArgs false
def qc (c:UInt8):List UInt8:=if c < 32∨126 < c then [92,120,hexc (c.toNat / 16),hexc (c.toNat % 16)] else if c=39∨c=92 then [92,c] else [c]
def Yo (s:List UInt8):List UInt8:=39::s.flatMap qc++[39]
end Gx
namespace Gx
open Go
set_option linter.unusedVariables false
set_option linter.unusedSimpArgs false
end Gx
namespace Gx
open Go
set_option linter.unusedVariables false
set_option linter.unusedSimpArgs false
end Gx
namespace Gx
open Go
set_option linter.unusedVariables false
set_option linter.unusedSimpArgs false
def sv (s:List UInt8):Value:=.string (bs s)
def SsAt (h:Heap) (x:Sl) (ps:List (List UInt8)):Prop:=x.len=ps.length∧x.len≤x.cap∧Xo h x.base (ps.map sv)
theorem SsAt.ext {h h':Heap} {x:Sl} {ps:List (List UInt8)} (S:SsAt h x ps) (e:Ext h h'):SsAt h' x ps:=⟨S.1,S.2.1,e.reads S.2.2⟩
theorem SsAt.get {h:Heap} {x:Sl} {ps:List (List UInt8)} (S:SsAt h x ps) {i:Nat} (hi:i < ps.length):∃ a,x.base=some a∧KV h (a.add i)=some (.string (bs ps[i])):=by
 obtain ⟨_,_,R | ⟨a,ha,R⟩⟩:=S
 ·have:ps=[]:=by simpa using R
  subst this; simp at hi
 ·exact ⟨a,ha,R i _ (by simp [hi,sv])⟩
end Gx
namespace Gx
open Go
set_option linter.unusedVariables false
set_option linter.unusedSimpArgs false
def shw (ev od:List UInt8):List (List UInt8)→List UInt8
 | []=>[]
 | [a]=>a
 | a::b::r=>a++(ev++shw od ev (b::r))
def txt:Nat→Vl→List UInt8
 | 0,_=>[63]
 | d+1,.mk k n s l =>
  if k=1 then Lib.itoa n else if k=2 then Yo s else if k=3 then (if n=1 then [116,114,117,101] else [102,97,108,115,101])
  else if k=6 then [118,91]++Lib.itoa n++[93] else if k=7 then [101,91]++Lib.itoa n++[93]
  else if k=4 then [91]++shw [44,32] [44,32] (l.map (txt d))++[93] else if k=5 then [123]++shw [58,32] [44,32] (l.map (txt d))++[125] else [63]
theorem KIj (n:Int):1≤(Lib.itoa n).length:=by
 have:∀ u,1≤(Lib.decDigits u).length:=fun u=>by unfold Lib.decDigits; split <;> simp
 unfold Lib.itoa
 split
 ·simp
 ·exact this _
theorem KEi:∀ (d:Nat) (v:Vl),1≤(txt d v).length
 | 0,_=>by simp [txt]
 | d+1,.mk k n s l=>by
  unfold txt
  repeat' split
  all_goals first | exact KIj n | (simp [Yo]; done) | (simp; omega)
theorem Gw.set {lo:Nat} {h:Heap} {r:Sl} {vs:List Value} {b j:Nat} {v:Value} (H:Gw lo h r 1 vs) (hb:r.base=some ⟨b,0,none⟩) (hj:j < vs.length):Gw lo (hset h ⟨b,j,none⟩ v) r 1 (vs.set j v):=by
 rcases H with ⟨rfl,rfl⟩ | ⟨g,ty,cells,H⟩
 ·cases hb
 ·rw [H.base] at hb
  cases hb
  refine .inr ⟨b,ty,_,H.base,H.lo,VJ H.blk,by rw [Array.size_setIfInBounds]; exact H.size,H.cap,by rw [List.length_set]; exact H.len,fun i x hx=>?_⟩
  rw [List.getElem?_set] at hx
  rw [Array.getElem?_setIfInBounds]
  split at hx
  ·rename_i hi
   subst hi
   cases hx
   have hc:=H.len
   have:=H.size
   have hcap:=H.cap
   rw [if_pos rfl,if_pos (by omega)]
  ·rename_i hi
   rw [if_neg hi]
   exact H.get i x hx
end Gx
namespace Gx
open Go
set_option linter.unusedVariables false
set_option linter.unusedSimpArgs false
abbrev txV (v:Vl):List UInt8:=txt 8 v
end Gx
namespace Gx
open Go Go.Proofs Go.Shelf Go.RowKit Go.Lib
set_option linter.unusedVariables false
set_option linter.unusedSimpArgs false
set_option maxRecDepth 100000
def At (s:List UInt8) (i:Nat) (w:List UInt8):Prop:=(s.drop i).take w.length=w
theorem At.nil (s:List UInt8) (i:Nat):At s i []:=by unfold At; simp
theorem zh {s:List UInt8} {i:Nat} {c:UInt8} {r:List UInt8}:At s i (c::r)↔s[i]?=some c∧At s (i+1) r:=by
 unfold At
 by_cases hi:i < s.length
 ·rw [List.drop_eq_getElem_cons hi,List.length_cons,List.take_succ_cons,List.getElem?_eq_getElem hi]
  simp
 ·rw [List.drop_of_length_le (by omega),List.getElem?_eq_none (by omega)]
  simp
theorem Zq {s:List UInt8}:∀ {a b:List UInt8} {i:Nat},At s i (a++b)↔At s i a∧At s (i+a.length) b
 | [],b,i=>by simp [At.nil]
 | c::a,b,i=>by
  rw [List.cons_append,zh,zh,Zq,List.length_cons,show i+1+a.length=i+(a.length+1) by omega,and_assoc]
theorem At.here {s:List UInt8} {i:Nat} {c:UInt8} {r:List UInt8} (h:At s i (c::r)):KI s i=c:=by
 unfold KI
 rw [(zh.1 h).1]
 rfl
theorem At.len {s:List UInt8} {i:Nat} {w:List UInt8} (h:At s i w) (hw:w≠[]):i+w.length≤s.length:=by
 have:=congrArg List.length h
 rw [List.length_take,List.length_drop] at this
 have:0 < w.length:=List.length_pos_iff.2 hw
 omega
theorem WE {s:List UInt8}:∀ {lit:List UInt8} {i:Nat},At s i lit→Vs s lit i=.ok (i+lit.length)
 | [],i,h=>rfl
 | c::r,i,h=>by
  rw [zh] at h
  rw [Vs,if_pos h.1,WE h.2,List.length_cons]
  congr 1
  omega
theorem Un {s lit:List UInt8} {i j:Nat} (h:Vs s lit i=.ok j):At s i lit∧j=i+lit.length:=⟨(UL h).2.2,(UL h).1⟩
theorem WF {s:List UInt8} {i:Nat} {c:UInt8} (h:KI s i=c) (hc:c≠0):At s i [c]:=by
 have hi:i < s.length:=Z5 (by rw [h]; exact hc)
 rw [zh]
 refine ⟨?_,At.nil _ _⟩
 rw [List.getElem?_eq_getElem hi,← Jw hi,h]
theorem At.get {s:List UInt8} {i:Nat} {w:List UInt8} (h:At s i w) {k:Nat} (hk:k < w.length):KI s (i+k)=w[k]:=by
 have h1:At s i (w.take k++w.drop k):=by rw [List.take_append_drop]; exact h
 rw [Zq,List.length_take,Nat.min_eq_left (by omega),List.drop_eq_getElem_cons hk] at h1
 exact h1.2.here
theorem At.cut {s:List UInt8} {i:Nat} {w:List UInt8} (h:At s i w) {k:Nat} (hk:k≤w.length):(s.drop i).take (i+k - i)=w.take k:=by
 unfold At at h
 rw [show i+k - i=k by omega,← h,List.take_take,Nat.min_eq_left hk]
theorem KBq:∀ (m u:Nat) (p:List UInt8),u < m→p≠[]→p <+: decDigits u→∃ u',u'≤u∧p=decDigits u':=by
 intro m
 induction m with
 | zero=>intro u p h; omega
 | succ m ih =>
  intro u p h hp hpre
  by_cases h10:u < 10
  ·rw [decDigits,dif_pos h10] at hpre
   refine ⟨u,Nat.le_refl _,?_⟩
   rw [decDigits,dif_pos h10]
   obtain ⟨q,hq⟩:=hpre
   cases p with
   | nil=>exact absurd rfl hp
   | cons a r =>
    obtain ⟨q1,q2⟩:=List.cons.inj hq
    rw [q1,(List.append_eq_nil_iff.1 q2).1]
  ·rw [decDigits,dif_neg h10] at hpre
   rcases List.prefix_concat_iff.1 hpre with he | hpre
   ·exact ⟨u,Nat.le_refl _,by rw [he]; conv=>rhs; rw [decDigits,dif_neg h10]⟩
   ·obtain ⟨u',h1,h2⟩:=ih (u / 10) p (by omega) hp hpre
    exact ⟨u',by omega,h2⟩
def sgn (n:Int):Nat:=if n < 0 then 1 else 0
theorem KAH {n:Int} (hn:I64 n) {k:Nat} (h1:sgn n≤k) (h2:k < (itoa n).length):digB (itoa n)[k]=true∧∃ m,numP ((itoa n).take (k+1))=(m,0):=by
 unfold I64 at hn
 unfold sgn at h1
 by_cases hneg:n < 0
 ·have hT:itoa n=45::decDigits n.natAbs:=by unfold itoa; rw [if_pos hneg]
  obtain ⟨a1,a2,a3,a4⟩:=N3 _ n.natAbs (Nat.lt_succ_self _)
  rw [if_pos hneg] at h1
  obtain ⟨k,rfl⟩:∃ q,k=q+1:=⟨k - 1,by omega⟩
  simp only [hT]
  rw [hT,List.length_cons] at h2
  have hk:k < (decDigits n.natAbs).length:=by omega
  refine ⟨?_,?_⟩
  ·rw [List.getElem_cons_succ]
   exact List.all_eq_true.1 a1 _ (List.getElem_mem hk)
  ·rw [List.take_succ_cons]
   have hne:(decDigits n.natAbs).take (k+1)≠[]:=by
    intro e
    have:=congrArg List.length e
    rw [List.length_take,List.length_nil] at this
    omega
   obtain ⟨u',hu,hp⟩:=KBq _ n.natAbs _ (Nat.lt_succ_self _) hne (List.take_prefix _ _)
   have hu0:u'≠0:=fun e=>by
    subst e
    have hz:decDigits 0=[48]:=by rw [decDigits,dif_pos (by decide)]; rfl
    rw [hz] at hp
    have:(decDigits n.natAbs).head?=some 48:=by
     have:=congrArg List.head? hp
     rw [List.head?_take] at this
     simpa using this
    have:=a4 this
    omega
   refine ⟨-(u':Int),?_⟩
   rw [hp]
   have:=KA4 (n:=-(u':Int)) ⟨by omega,by omega⟩
   rw [itoa,if_pos (by omega),show (-(u':Int)).natAbs=u' by omega] at this
   exact this
 ·have hT:itoa n=decDigits n.toNat:=by unfold itoa; rw [if_neg hneg]
  obtain ⟨a1,a2,a3,a4⟩:=N3 _ n.toNat (Nat.lt_succ_self _)
  simp only [hT]
  rw [hT] at h2
  refine ⟨List.all_eq_true.1 a1 _ (List.getElem_mem h2),?_⟩
  have hne:(decDigits n.toNat).take (k+1)≠[]:=by
   intro e
   have:=congrArg List.length e
   rw [List.length_take,List.length_nil] at this
   omega
  obtain ⟨u',hu,hp⟩:=KBq _ n.toNat _ (Nat.lt_succ_self _) hne (List.take_prefix _ _)
  refine ⟨(u':Int),?_⟩
  rw [hp]
  have:=KA4 (n:=(u':Int)) ⟨by omega,by omega⟩
  rw [itoa,if_neg (by omega),Int.toNat_natCast] at this
  exact this
theorem KDu {s:List UInt8} {fr:Nat} {N:Int} (hN:I64 N) (ha:At s fr (itoa N)) (hf:digB (KI s (fr+(itoa N).length))=false):∀ (f k:Nat) (n:Int),sgn N≤k→k≤(itoa N).length→(itoa N).length≤k+f→(k=(itoa N).length→n=N)→numL s fr f (fr+k) n=.ok (N,fr+(itoa N).length)
 | 0,k,n,h1,h2,h3,h4=>by
  have:k=(itoa N).length:=by omega
  rw [numL,h4 this,this]
 | f+1,k,n,h1,h2,h3,h4=>by
  rw [numL]
  by_cases hk:k=(itoa N).length
  ·rw [hk,if_neg (by rw [hf]; decide),h4 hk]
  ·have hkl:k < (itoa N).length:=by omega
   obtain ⟨hd,m,hm⟩:=KAH hN h1 hkl
   rw [ha.get hkl,if_pos hd,show fr+k+1 - fr=fr+(k+1) - fr by omega,ha.cut (k:=k+1) hkl,hm,if_neg (show ¬ ((0:Int)=7) by decide),if_neg (show ¬ ((0:Int)≠0) by decide)]
   refine KDu hN ha hf f (k+1) m (by omega) hkl (by omega) (fun he=>?_)
   rw [he,List.take_length,KA4 hN] at hm
   cases hm
   rfl
theorem KEj (n:Int):itoa n≠[]:=by
 unfold itoa
 split
 ·simp
 ·exact (N3 _ _ (Nat.lt_succ_self _)).2.2.1
theorem KFT {s:List UInt8} {i:Nat} {n:Int} (hn:I64 n) (ha:At s i (itoa n)) (hf:digB (KI s (i+(itoa n).length))=false):numF s i=.ok (n,i+(itoa n).length):=by
 have hlen:=ha.len (KEj n)
 have hpos:0 < (itoa n).length:=List.length_pos_iff.2 (KEj n)
 have h0:=ha.get hpos
 have hJ:numJ s i=i+sgn n:=by
  unfold numJ sgn
  rw [Nat.add_zero] at h0
  by_cases hneg:n < 0
  ·have hT:itoa n=45::decDigits n.natAbs:=by unfold itoa; rw [if_pos hneg]
   have:KI s i=45:=by rw [h0]; simp only [hT]; rfl
   rw [if_pos this,if_pos hneg]
  ·have hT:itoa n=decDigits n.toNat:=by unfold itoa; rw [if_neg hneg]
   obtain ⟨hd,_⟩:=KAH hn (k:=0) (by unfold sgn; rw [if_neg hneg]; exact Nat.le_refl _) hpos
   have:KI s i≠45:=by
    rw [h0]
    intro e
    rw [e] at hd
    exact absurd hd (by decide)
   rw [if_neg this,if_neg hneg]
   rfl
 have hs:sgn n < (itoa n).length:=by
  unfold sgn
  split
  ·rename_i hneg
   have hT:itoa n=45::decDigits n.natAbs:=by unfold itoa; rw [if_pos hneg]
   have:=List.length_pos_iff.2 (N3 _ n.natAbs (Nat.lt_succ_self _)).2.2.1
   rw [hT,List.length_cons]
   omega
  ·exact hpos
 obtain ⟨hd,_⟩:=KAH hn (Nat.le_refl _) hs
 unfold numF
 rw [hJ,ha.get hs,if_neg]
 ·exact KDu hn ha hf _ _ _ (Nat.le_refl _) (by omega) (by omega) (fun he=>by omega)
 ·intro hh
  rcases hh with hh | ⟨h1,h2⟩
  ·rw [hd] at hh; cases hh
  ·have hneg:n < 0:=by
    unfold sgn at h1
    by_cases h:n < 0
    ·exact h
    ·rw [if_neg h] at h1; omega
   have hT:itoa n=45::decDigits n.natAbs:=by unfold itoa; rw [if_pos hneg]
   have hs1:sgn n=1:=by unfold sgn; rw [if_pos hneg]
   simp only [hs1,hT,List.getElem_cons_succ] at h2
   obtain ⟨_,_,a3,a4⟩:=N3 _ n.natAbs (Nat.lt_succ_self _)
   have:(decDigits n.natAbs).head?=some 48:=by
    rw [List.head?_eq_getElem?,List.getElem?_eq_getElem (List.length_pos_iff.2 a3),h2]
   have:=a4 this
   omega
theorem KDv {s:List UInt8} {fr:Nat}:∀ {f i:Nat} {n m:Int} {j:Nat},numL s fr f i n=.ok (m,j)→numP ((s.drop fr).take (i - fr))=(n,0)→numP ((s.drop fr).take (j - fr))=(m,0)
 | 0,i,n,m,j,h,hp=>by cases h; exact hp
 | f+1,i,n,m,j,h,hp=>by
  rw [numL] at h
  split at h
  ·split at h
   ·cases h
   ·split at h
    ·cases h; exact hp
    ·rename_i h0
     refine KDv h ?_
     have h0:=Classical.not_not.1 h0
     rw [← h0]
  ·cases h; exact hp
theorem KFU {s:List UInt8} {i j:Nat} {n:Int} (h:numF s i=.ok (n,j)) (hi:i≤s.length):At s i (itoa n)∧j=i+(itoa n).length:=by
 have hok:=zd h hi
 have key:numP ((s.drop i).take (j - i))=(n,0):=by
  unfold numF at h
  split at h
  ·cases h
  ·rename_i hb
   have hd:digB (KI s (numJ s i))=true:=by
    cases hh:digB (KI s (numJ s i)) with
    | true=>rfl
    | false=>exact absurd (.inl hh) hb
   have hil:=KAx hd
   rw [show s.length - numJ s i=(s.length - (numJ s i+1))+1 by omega,numL,if_pos hd] at h
   split at h
   ·cases h
   ·split at h
    ·rename_i h7 h0
     exfalso
     cases h
     by_cases h45:KI s i=45
     ·have hJ:numJ s i=i+1:=by unfold numJ; rw [if_pos h45]
      rw [hJ] at hb hd hil h0
      have h2:(s.drop i).take (i+1+1 - i)=[45,KI s (i+1)]:=by
       rw [show i+1+1 - i=2 by omega,List.drop_eq_getElem_cons (by omega),List.drop_eq_getElem_cons hil]
       rw [Jw hil,← h45,Jw (by omega)]
       rfl
      rw [h2] at h0
      exact h0 ((GR hd).2 (fun e=>hb (.inr ⟨by omega,e⟩)))
     ·have hJ:numJ s i=i:=by unfold numJ; rw [if_neg h45]
      rw [hJ] at hd hil h0
      have h2:(s.drop i).take (i+1 - i)=[KI s i]:=by
       rw [show i+1 - i=1 by omega,List.drop_eq_getElem_cons hil,Jw hil]
       rfl
      rw [h2] at h0
      exact h0 (GR hd).1
    ·rename_i h0
     have h0:=Classical.not_not.1 h0
     exact KDv h (by rw [← h0])
 have ht:=KHU key
 have hl:=congrArg List.length ht
 rw [List.length_take,List.length_drop] at hl
 have hj:j=i+(itoa n).length:=by omega
 refine ⟨?_,hj⟩
 unfold At
 rw [← ht]
 conv=>lhs; rw [List.length_take,List.length_drop,Nat.min_eq_left (by omega)]
end Gx
namespace Gx
open Go Go.Proofs Go.Shelf Go.RowKit Go.Lib
set_option linter.unusedVariables false
set_option linter.unusedSimpArgs false
set_option maxRecDepth 100000
theorem KHV:∀ k:Fin 16,hexN (hexc k.val)=(k.val:Int):=by decide +kernel
theorem KJT {k:Nat} (h:k < 16):hexN (hexc k)=(k:Int):=KHV ⟨k,h⟩
theorem KIk:∀ k:Fin 16,hexD[k.val]?=some (hexc k.val):=by decide +kernel
theorem KFV {c:UInt8} (h:0≤hexN c):c=hexc (hexN c).toNat:=by
 have hle:=N1 c
 have h1:Lib.indexByte hexD c=(((hexN c).toNat:Nat):Int):=by rw [Int.toNat_of_nonneg h]; rfl
 have h2:=(Lib.indexByte_some h1).1
 rw [KIk ⟨(hexN c).toNat,by omega⟩] at h2
 exact (Option.some.inj h2).symm
theorem KF9 {a b:UInt8}:a < b↔a.toNat < b.toNat:=UInt8.lt_iff_toNat_lt
theorem KHW {c:UInt8} (h:c.toNat < 32∨126 < c.toNat):qc c=[92,120,hexc (c.toNat / 16),hexc (c.toNat % 16)]:=by
 unfold qc
 rw [if_pos (by rw [KF9,KF9]; exact h)]
theorem KHX {c:UInt8} (h:c=39∨c=92):qc c=[92,c]:=by
 unfold qc
 rw [if_neg (by rw [KF9,KF9]; rcases h with rfl | rfl <;> decide),if_pos h]
theorem KLu {c:UInt8} (h:¬ (c.toNat < 32∨126 < c.toNat)) (h2:¬ (c=39∨c=92)):qc c=[c]:=by
 unfold qc
 rw [if_neg (by rw [KF9,KF9]; exact h),if_neg h2]
theorem KIl {s:List UInt8} {i:Nat} {c:UInt8} {w:List UInt8} (hq:qc c=92::w) (ha:At s i w) (hw:w≠[]) (hne:c.toNat < 32∨126 < c.toNat∨c=39∨c=92):escP s i=.ok (c,i+w.length):=by
 by_cases h:c.toNat < 32∨126 < c.toNat
 ·rw [KHW h] at hq
  cases hq
  have hlt:c.toNat < 256:=c.toNat_lt
  have a0:=ha.get (k:=0) (by simp)
  have a1:=ha.get (k:=1) (by simp)
  have a2:=ha.get (k:=2) (by simp)
  simp only [Nat.add_zero,List.getElem_cons_zero,List.getElem_cons_succ] at a0 a1 a2
  have hm:Vs s [120] i=.ok (i+1):=WE (lit:=[120]) ((Zq (a:=[120]) (b:=[hexc (c.toNat / 16),hexc (c.toNat % 16)])).1 ha).1
  have e1:hexN (KI s (i+1))=((c.toNat / 16:Nat):Int):=by rw [a1,KJT (by omega)]
  have e2:hexN (KI s (i+1+1))=((c.toNat % 16:Nat):Int):=by rw [show i+1+1=i+2 by omega,a2,KJT (by omega)]
  unfold escP
  rw [a0,if_neg (by decide),hm]
  dsimp only
  rw [e1,e2,if_neg (by omega),if_neg (by omega)]
  have:UInt8.ofNat ((((c.toNat / 16:Nat):Int) * 16+((c.toNat % 16:Nat):Int)).toNat)=c:=by
   rw [show (((c.toNat / 16:Nat):Int) * 16+((c.toNat % 16:Nat):Int)).toNat=c.toNat by omega,UInt8.ofNat_toNat]
  rw [this]
  rfl
 ·have h2:c=39∨c=92:=by
   rcases hne with h3 | h3 | h3 | h3
   ·exact absurd (.inl h3) h
   ·exact absurd (.inr h3) h
   ·exact .inl h3
   ·exact .inr h3
  rw [KHX h2] at hq
  cases hq
  unfold escP
  rw [ha.here,if_pos h2]
  rfl
theorem KDw {s:List UInt8}:∀ (t:List UInt8) (f i:Nat) (acc:List UInt8),At s i (t.flatMap qc++[39])→t.length < f→strL s f i acc=.ok (acc++t,i+(t.flatMap qc).length+1)
 | [],f,i,acc,ha,hf=>by
  obtain ⟨f,rfl⟩:∃ g,f=g+1:=⟨f - 1,by omega⟩
  rw [List.flatMap_nil,List.nil_append] at ha
  rw [strL,if_pos ha.here]
  simp
 | c::t,f,i,acc,ha,hf=>by
  obtain ⟨f,rfl⟩:∃ g,f=g+1:=⟨f - 1,by omega⟩
  rw [List.length_cons] at hf
  rw [List.flatMap_cons,List.append_assoc] at ha
  have ha2:=Zq.1 ha
  have ih:=KDw t f (i+(qc c).length) (acc++[c]) ha2.2 (by omega)
  have hres:(Except.ok (acc++[c]++t,i+(qc c).length+(t.flatMap qc).length+1):Except Nat (List UInt8 × Nat))=.ok (acc++c::t,i+((c::t).flatMap qc).length+1):=by
   rw [List.flatMap_cons,List.length_append,List.append_assoc,Nat.add_assoc i]
   rfl
  rw [hres] at ih
  rw [strL]
  by_cases h:(c.toNat < 32∨126 < c.toNat)∨(c=39∨c=92)
  ·have hw:∃ w,qc c=92::w∧w≠[]:=by
    rcases h with h | h
    ·exact ⟨_,KHW h,by simp⟩
    ·exact ⟨_,KHX h,by simp⟩
   obtain ⟨w,hq,hwn⟩:=hw
   rw [hq] at ha2
   have h92:=ha2.1.here
   have hesc:=KIl hq (zh.1 ha2.1).2 hwn (by rcases h with (h | h) | (h | h) <;> simp [h])
   rw [h92,if_neg (by decide),if_neg (by decide),if_pos rfl,hesc]
   dsimp only
   rw [hq,List.length_cons] at ih
   rw [show i+1+w.length=i+(w.length+1) by omega]
   exact ih
  ·have h1:¬ (c.toNat < 32∨126 < c.toNat):=fun hh=>h (.inl hh)
   have h2:¬ (c=39∨c=92):=fun hh=>h (.inr hh)
   rw [KLu h1 h2] at ha2 ih
   have hh:=ha2.1.here
   rw [hh,if_neg (fun e=>h2 (.inl e)),if_neg h1,if_neg (fun e=>h2 (.inr e))]
   exact ih
theorem KLv (t:List UInt8):t.length≤(t.flatMap qc).length:=by
 induction t with
 | nil=>simp
 | cons c t ih =>
  rw [List.flatMap_cons,List.length_append,List.length_cons]
  have:1≤(qc c).length:=by unfold qc; split <;> (try split) <;> simp
  omega
theorem KIm {s t:List UInt8} {i:Nat} (ha:At s i (Yo t)):strP s i=.ok (t,i+(Yo t).length):=by
 unfold Yo at ha ⊢
 have hl:=ha.len (by simp)
 have h1:At s i [39]∧At s (i+1) (t.flatMap qc++[39]):=by
  have:=(Zq (a:=[39]) (b:=t.flatMap qc++[39]) (i:=i) (s:=s)).1 (by simpa using ha)
  exact this
 have hq:=KLv t
 simp only [List.length_cons,List.length_append,List.length_nil,List.cons_append] at hl
 unfold strP
 rw [WE h1.1]
 dsimp only
 rw [List.length_singleton,KDw t _ (i+1) [] h1.2 (by omega)]
 simp only [List.nil_append,List.cons_append,List.length_cons,List.length_append,List.length_nil]
 congr 2
 omega
theorem KIn {s:List UInt8} {i j:Nat} {c:UInt8} (h:escP s i=.ok (c,j)):∃ w,qc c=92::w∧At s i w∧j=i+w.length:=by
 unfold escP at h
 split at h
 ·rename_i hc
  cases h
  refine ⟨[KI s i],KHX hc,WF rfl (by rcases hc with h | h <;> (rw [h]; decide)),rfl⟩
 ·split at h
  ·cases h
  ·rename_i j' hj
   obtain ⟨a1,a2⟩:=Un hj
   have a2:j'=i+1:=a2
   subst a2
   split at h
   ·cases h
   ·rename_i hb1
    split at h
    ·cases h
    ·rename_i hb2
     cases h
     have l1:=N1 (KI s (i+1))
     have l2:=N1 (KI s (i+1+1))
     have c1:0≤hexN (KI s (i+1)):=by omega
     have c2:0≤hexN (KI s (i+1+1)):=by omega
     generalize hx:hexN (KI s (i+1))=x at *
     generalize hy:hexN (KI s (i+1+1))=y at *
     have hv:(UInt8.ofNat ((x * 16+y).toNat)).toNat=(x * 16+y).toNat:=by
      rw [UInt8.toNat_ofNat']
      exact Nat.mod_eq_of_lt (by omega)
     refine ⟨[120,KI s (i+1),KI s (i+1+1)],?_,?_,rfl⟩
     ·rw [KHW (by rw [hv]; omega),hv]
      have e1:=KFV (c:=KI s (i+1)) (by rw [hx]; exact c1)
      have e2:=KFV (c:=KI s (i+1+1)) (by rw [hy]; exact c2)
      rw [hx] at e1
      rw [hy] at e2
      rw [e1,e2,show (x * 16+y).toNat / 16=x.toNat by omega,show (x * 16+y).toNat % 16=y.toNat by omega]
     ·have hz1:KI s (i+1)≠0:=fun e=>by rw [e,KBn] at hx; omega
      have hz2:KI s (i+1+1)≠0:=fun e=>by rw [e,KBn] at hy; omega
      have b1:=WF (s:=s) (i:=i+1) rfl hz1
      have b2:=WF (s:=s) (i:=i+1+1) rfl hz2
      exact (Zq (a:=[120]) (b:=[_,_])).2 ⟨a1,(Zq (a:=[_]) (b:=[_])).2 ⟨b1,b2⟩⟩
theorem KA5 {s:List UInt8}:∀ {f i:Nat} {acc t:List UInt8} {j:Nat},strL s f i acc=.ok (t,j)→∃ t',t=acc++t'∧At s i (t'.flatMap qc++[39])∧j=i+(t'.flatMap qc).length+1
 | 0,i,acc,t,j,h=>by cases h
 | f+1,i,acc,t,j,h=>by
  rw [strL] at h
  split at h
  ·rename_i h39
   cases h
   exact ⟨[],by simp,WF h39 (by decide),rfl⟩
  ·rename_i h39
   split at h
   ·cases h
   ·rename_i hr
    split at h
    ·rename_i h92
     split at h
     ·cases h
     ·rename_i c j2 he
      obtain ⟨w,hq,hw,hj⟩:=KIn he
      obtain ⟨t',h1,h2,h3⟩:=KA5 h
      refine ⟨c::t',by rw [h1]; simp,?_,?_⟩
      ·rw [List.flatMap_cons,List.append_assoc,Zq,hq,List.length_cons]
       refine ⟨(Zq (a:=[92]) (b:=w)).2 ⟨WF h92 (by decide),hw⟩,?_⟩
       rw [hj] at h2
       rw [show i+(w.length+1)=i+1+w.length by omega]
       exact h2
      ·rw [h3,hj,List.flatMap_cons,List.length_append,hq,List.length_cons]
       omega
    ·rename_i h92
     obtain ⟨t',h1,h2,h3⟩:=KA5 h
     have hq:=KLu (c:=KI s i) hr (fun hh=>hh.elim h39 h92)
     refine ⟨KI s i::t',by rw [h1]; simp,?_,?_⟩
     ·rw [List.flatMap_cons,List.append_assoc,Zq,hq]
      exact ⟨WF rfl (fun e=>hr (.inl (by rw [e]; decide))),h2⟩
     ·rw [h3,List.flatMap_cons,List.length_append,hq]
      simp only [List.length_singleton]
      omega
theorem KIo {s t:List UInt8} {i j:Nat} (h:strP s i=.ok (t,j)):At s i (Yo t)∧j=i+(Yo t).length:=by
 unfold strP at h
 split at h
 ·cases h
 ·rename_i j1 hj
  obtain ⟨a1,a2⟩:=Un hj
  have a2:j1=i+1:=a2
  subst a2
  obtain ⟨t',h1,h2,h3⟩:=KA5 h
  rw [List.nil_append] at h1
  subst h1
  unfold Yo
  refine ⟨?_,by rw [h3]; simp; omega⟩
  have:=(Zq (a:=[39]) (b:=t.flatMap qc++[39]) (i:=i) (s:=s)).2 ⟨a1,h2⟩
  simpa using this
end Gx
namespace Gx
open Go Go.Proofs Go.Shelf Go.RowKit Go.Lib
set_option linter.unusedVariables false
set_option linter.unusedSimpArgs false
set_option maxRecDepth 100000
def WfV:Nat→Vl→Prop
 | 0,_=>True
 | d+1,.mk _ n _ l=>I64 n∧∀ x ∈ l,WfV d x
def sepT (d:Nat) (l:List Vl):List UInt8:=l.flatMap (fun x=>[44,32]++txt d x)
def mapT (d:Nat):List Vl→List UInt8
 | a::b::r=>[44,32]++(txt d a++([58,32]++(txt d b++mapT d r)))
 | _=>[]
theorem KCu (d:Nat):∀ (l:List Vl) (a:Vl),shw [44,32] [44,32] ((a::l).map (txt d))=txt d a++sepT d l
 | [],a=>by simp [shw,sepT]
 | b::l,a=>by
  have:=KCu d l b
  simp only [List.map_cons] at this ⊢
  rw [shw,this]
  simp [sepT]
theorem KCv (d:Nat):∀ (n:Nat) (l:List Vl) (a b:Vl),l.length=2 * n→shw [58,32] [44,32] ((a::b::l).map (txt d))=txt d a++([58,32]++(txt d b++mapT d l))
 | 0,l,a,b,h=>by
  obtain rfl:l=[]:=List.length_eq_zero_iff.1 h
  simp [shw,mapT]
 | n+1,l,a,b,h=>by
  match l,h with
  | x::y::r,h =>
   have:=KCv d n r x y (by simp only [List.length_cons] at h; omega)
   simp only [List.map_cons] at this ⊢
   rw [shw,shw,this,mapT]
theorem KFW (d:Nat) (n:Int) (s:List UInt8) (l:List Vl):txt (d+1) (.mk 4 n s l)=[91]++(shw [44,32] [44,32] (l.map (txt d))++[93]):=by
 rw [txt]
 simp
theorem KHY (d:Nat) (n:Int) (s:List UInt8) (l:List Vl):txt (d+1) (.mk 5 n s l)=[123]++(shw [58,32] [44,32] (l.map (txt d))++[125]):=by
 rw [txt]
 simp
theorem KDx {s:List UInt8} {d i j:Nat} {v:Vl} (h:pval s d i=.ok (v,j)):KI s i≠93∧KI s i≠125∧i < s.length:=by
 cases d with
 | zero=>cases h
 | succ d =>
  refine ⟨fun e=>?_,fun e=>?_,Z5 (fun e=>?_)⟩ <;>
  ·rw [pval,e,if_neg (by decide),if_neg (by decide),if_neg (by decide),if_neg (by decide),if_neg (by decide),if_neg (by decide),if_neg (by decide),if_neg (by decide)] at h
   cases h
def Rds (s:List UInt8) (d:Nat) (v:Vl):Prop:=∀ i,At s i (txt d v)→digB (KI s (i+(txt d v).length))=false→pval s d i=.ok (v,i+(txt d v).length)
theorem KDy {s:List UInt8} {d:Nat}:∀ (l2 l1:List Vl) (f i:Nat),l1≠[]→(∀ x ∈ l2,Rds s d x)→At s i (sepT d l2++[93])→l2.length < f→UH (pval s d) 93 false s f l1 i=.ok (l1++l2,i+(sepT d l2).length+1)
 | [],l1,f,i,h1,hr,ha,hf=>by
  obtain ⟨f,rfl⟩:∃ g,f=g+1:=⟨f - 1,by omega⟩
  rw [UH,if_pos (At.here ha)]
  simp [sepT]
 | x::l2,l1,f,i,h1,hr,ha,hf=>by
  obtain ⟨f,rfl⟩:∃ g,f=g+1:=⟨f - 1,by omega⟩
  rw [List.length_cons] at hf
  have hst:sepT d (x::l2)++[93]=[44,32]++(txt d x++(sepT d l2++[93])):=by simp [sepT]
  rw [hst] at ha
  obtain ⟨a1,a2⟩:=Zq.1 ha
  obtain ⟨a3,a4⟩:=Zq.1 a2
  have hnext:KI s (i+2+(txt d x).length)=44∨KI s (i+2+(txt d x).length)=93:=by
   cases l2 with
   | nil=>exact .inr (At.here a4)
   | cons y l2 =>
    rw [show sepT d (y::l2)++[93]=44::(32::(txt d y++(sepT d l2++[93]))) by simp [sepT]] at a4
    exact .inl (At.here a4)
  have hp:=hr x (by simp) (i+2) a3 (by rcases hnext with h | h <;> (rw [h]; decide))
  have ih:=KDy l2 (l1++[x]) f (i+2+(txt d x).length) (by simp) (fun y hy=>hr y (by simp [hy])) a4 (by omega)
  have hl1:¬ l1.length=0:=fun e=>h1 (List.length_eq_zero_iff.1 e)
  rw [UH,if_neg (by rw [At.here a1]; decide)]
  unfold sepP
  rw [if_neg hl1,WE a1]
  dsimp only
  unfold VE
  rw [show i+([44,32]:List UInt8).length=i+2 from rfl,hp]
  dsimp only
  rw [if_neg (by decide)]
  dsimp only
  rw [if_neg (by rcases hnext with h | h <;> (rw [h]; decide)),ih]
  have:(sepT d (x::l2)).length=2+(txt d x).length+(sepT d l2).length:=by simp [sepT]; omega
  rw [this,List.append_assoc]
  congr 2
  omega
theorem KFX {s:List UInt8} {d:Nat}:∀ (n:Nat) (l2 l1:List Vl) (f i:Nat),l2.length=2 * n→l1≠[]→(∀ x ∈ l2,Rds s d x)→At s i (mapT d l2++[125])→l2.length < f→UH (pval s d) 125 true s f l1 i=.ok (l1++l2,i+(mapT d l2).length+1)
 | 0,l2,l1,f,i,hn,h1,hr,ha,hf=>by
  obtain rfl:l2=[]:=List.length_eq_zero_iff.1 hn
  obtain ⟨f,rfl⟩:∃ g,f=g+1:=⟨f - 1,by omega⟩
  rw [UH,if_pos (At.here ha)]
  simp [mapT]
 | n+1,l2,l1,f,i,hn,h1,hr,ha,hf=>by
  match l2,hn with
  | x::y::l2,hn =>
   obtain ⟨f,rfl⟩:∃ g,f=g+1:=⟨f - 1,by omega⟩
   simp only [List.length_cons] at hf hn
   have hst:mapT d (x::y::l2)++[125]=[44,32]++(txt d x++([58,32]++(txt d y++(mapT d l2++[125])))):=by rw [mapT]; simp
   rw [hst] at ha
   obtain ⟨a1,a2⟩:=Zq.1 ha
   obtain ⟨a3,a4⟩:=Zq.1 a2
   obtain ⟨a5,a6⟩:=Zq.1 a4
   obtain ⟨a7,a8⟩:=Zq.1 a6
   have hnext:KI s (i+2+(txt d x).length+2+(txt d y).length)=44∨KI s (i+2+(txt d x).length+2+(txt d y).length)=125:=by
    match l2,hn with
    | [],_=>exact .inr (At.here a8)
    | u::w::l2,_ =>
     rw [show mapT d (u::w::l2)++[125]=44::(32::(txt d u++([58,32]++(txt d w++(mapT d l2++[125]))))) by rw [mapT]; simp] at a8
     exact .inl (At.here a8)
    | [u],hn=>exact absurd hn (by simp; omega)
   have hp:=hr x (by simp) (i+2) a3 (by rw [show i+2+(txt d x).length=i+([44,32]:List UInt8).length+(txt d x).length from rfl,At.here a5]; decide)
   have hp2:=hr y (by simp) (i+2+(txt d x).length+2) a7 (by rcases hnext with h | h <;> (rw [h]; decide))
   have ih:=KFX n l2 (l1++[x,y]) f (i+2+(txt d x).length+2+(txt d y).length) (by omega) (by simp) (fun z hz=>hr z (by simp [hz])) a8 (by omega)
   have hl1:¬ l1.length=0:=fun e=>h1 (List.length_eq_zero_iff.1 e)
   rw [UH,if_neg (by rw [At.here a1]; decide)]
   unfold sepP
   rw [if_neg hl1,WE a1]
   dsimp only
   unfold VE
   rw [show i+([44,32]:List UInt8).length=i+2 from rfl,hp]
   dsimp only
   have hm:=WE a5
   rw [if_pos rfl,show i+2+(txt d x).length=i+([44,32]:List UInt8).length+(txt d x).length from rfl,hm]
   dsimp only
   rw [show i+([44,32]:List UInt8).length+(txt d x).length+([58,32]:List UInt8).length=i+2+(txt d x).length+2 from rfl,hp2]
   dsimp only
   rw [if_neg (by rcases hnext with h | h <;> (rw [h]; decide)),ih]
   have:(mapT d (x::y::l2)).length=2+(txt d x).length+2+(txt d y).length+(mapT d l2).length:=by rw [mapT]; simp; omega
   rw [this,List.append_assoc]
   congr 2
   omega
theorem KHZ {s:List UInt8} {d:Nat} {l:List Vl} {i:Nat} (hr:∀ x ∈ l,Rds s d x) (ha:At s i (shw [44,32] [44,32] (l.map (txt d))++[93])) (f:Nat) (hf:l.length < f) :
  UH (pval s d) 93 false s f [] i=.ok (l,i+(shw [44,32] [44,32] (l.map (txt d))).length+1):=by
 obtain ⟨f,rfl⟩:∃ g,f=g+1:=⟨f - 1,by omega⟩
 cases l with
 | nil =>
  rw [UH,if_pos (At.here ha)]
  rfl
 | cons x l =>
  rw [KCu] at ha ⊢
  rw [List.append_assoc] at ha
  obtain ⟨a3,a4⟩:=Zq.1 ha
  have hnext:KI s (i+(txt d x).length)=44∨KI s (i+(txt d x).length)=93:=by
   cases l with
   | nil=>exact .inr (At.here a4)
   | cons y l =>
    rw [show sepT d (y::l)++[93]=44::(32::(txt d y++(sepT d l++[93]))) by simp [sepT]] at a4
    exact .inl (At.here a4)
  have hp:=hr x (by simp) i a3 (by rcases hnext with h | h <;> (rw [h]; decide))
  have ih:=KDy l [x] f (i+(txt d x).length) (by simp) (fun y hy=>hr y (by simp [hy])) a4 (by simp only [List.length_cons] at hf; omega)
  rw [UH,if_neg (KDx hp).1]
  unfold sepP
  rw [if_pos (show ([]:List Vl).length=0 from rfl)]
  dsimp only
  unfold VE
  rw [hp]
  dsimp only
  rw [if_neg (by decide)]
  dsimp only
  rw [if_neg (by rcases hnext with h | h <;> (rw [h]; decide)),List.nil_append,ih,List.length_append]
  congr 2
  omega
theorem KIp {s:List UInt8} {d:Nat} {l:List Vl} {i:Nat} (he:l.length % 2=0) (hr:∀ x ∈ l,Rds s d x) (ha:At s i (shw [58,32] [44,32] (l.map (txt d))++[125])) (f:Nat) (hf:l.length < f) :
  UH (pval s d) 125 true s f [] i=.ok (l,i+(shw [58,32] [44,32] (l.map (txt d))).length+1):=by
 obtain ⟨f,rfl⟩:∃ g,f=g+1:=⟨f - 1,by omega⟩
 match l,he with
 | [],_ =>
  rw [UH,if_pos (At.here ha)]
  rfl
 | [u],he=>exact absurd he (by simp)
 | x::y::l,he =>
  simp only [List.length_cons] at he hf
  rw [KCv d (l.length / 2) l x y (by omega)] at ha ⊢
  rw [show txt d x++([58,32]++(txt d y++mapT d l))++[125]=txt d x++([58,32]++(txt d y++(mapT d l++[125]))) by simp] at ha
  obtain ⟨a3,a4⟩:=Zq.1 ha
  obtain ⟨a5,a6⟩:=Zq.1 a4
  obtain ⟨a7,a8⟩:=Zq.1 a6
  have hnext:KI s (i+(txt d x).length+2+(txt d y).length)=44∨KI s (i+(txt d x).length+2+(txt d y).length)=125:=by
   match l,he with
   | [],_=>exact .inr (At.here a8)
   | u::w::l2,_ =>
    rw [show mapT d (u::w::l2)++[125]=44::(32::(txt d u++([58,32]++(txt d w++(mapT d l2++[125]))))) by rw [mapT]; simp] at a8
    exact .inl (At.here a8)
   | [u],he=>exact absurd he (by simp)
  have hp:=hr x (by simp) i a3 (by rw [At.here a5]; decide)
  have hp2:=hr y (by simp) (i+(txt d x).length+2) a7 (by rcases hnext with h | h <;> (rw [h]; decide))
  have ih:=KFX (l.length / 2) l [x,y] f (i+(txt d x).length+2+(txt d y).length) (by omega) (by simp) (fun z hz=>hr z (by simp [hz])) a8 (by omega)
  rw [UH,if_neg (KDx hp).2.1]
  unfold sepP
  rw [if_pos (show ([]:List Vl).length=0 from rfl)]
  dsimp only
  unfold VE
  rw [hp]
  dsimp only
  rw [if_pos rfl,WE a5]
  dsimp only
  rw [show i+(txt d x).length+([58,32]:List UInt8).length=i+(txt d x).length+2 from rfl,hp2]
  dsimp only
  rw [if_neg (by rcases hnext with h | h <;> (rw [h]; decide)),List.nil_append,ih]
  simp only [List.length_append,List.length_cons,List.length_nil]
  congr 2
  omega
theorem KCw {s:List UInt8} {l:List Vl} (h:KCh s l=true):s=[]∧l=[]:=by
 unfold KCh at h
 rw [Bool.and_eq_true,decide_eq_true_iff,List.isEmpty_iff] at h
 exact h
theorem KDz {s:List UInt8} {i:Nat} {k n:Int} {c:UInt8} (hn:I64 n) (ha:At s i ([c,91]++itoa n++[93])):Yy k s i=.ok (.mk k n [] [],i+([c,91]++itoa n++[93]).length):=by
 rw [List.append_assoc] at ha
 obtain ⟨a1,a2⟩:=Zq.1 ha
 obtain ⟨a3,a4⟩:=Zq.1 a2
 have a1':At s (i+1) [91]:=((Zq (a:=[c]) (b:=[91])).1 a1).2
 have hnum:=KFT (i:=i+2) hn a3 (by rw [show i+2+(itoa n).length=i+([c,91]:List UInt8).length+(itoa n).length from rfl,At.here a4]; decide)
 unfold Yy
 rw [WE a1']
 dsimp only
 rw [show i+1+([91]:List UInt8).length=i+2 from rfl,hnum]
 dsimp only
 have:=WE a4
 rw [show i+2+(itoa n).length=i+([c,91]:List UInt8).length+(itoa n).length from rfl,this]
 simp only [List.length_append,List.length_cons,List.length_nil]
 congr 2
 omega
theorem KFY (s:List UInt8):∀ (d:Nat) (v:Vl),mayV d v=true→WfV d v→Rds s d v
 | 0,v,hm,_=>by cases v; cases hm
 | d+1,.mk k n t l,hm,hw=>by
  have ih:=KFY s d
  intro i ha hf
  rw [WfV] at hw
  rw [mayV] at hm
  by_cases h1:k=1
  ·subst h1
   rw [if_pos rfl] at hm
   obtain ⟨rfl,rfl⟩:=KCw hm
   have ht:txt (d+1) (.mk 1 n [] [])=itoa n:=by rw [txt,if_pos rfl]
   rw [ht] at ha hf ⊢
   have hnum:=KFT hw.1 ha hf
   have hc:KI s i=45∨digB (KI s i)=true:=by
    have h0:=ha.get (k:=0) (List.length_pos_iff.2 (KEj n))
    rw [Nat.add_zero] at h0
    by_cases hneg:n < 0
    ·left
     have hT:itoa n=45::decDigits n.natAbs:=by unfold itoa; rw [if_pos hneg]
     rw [h0]
     simp only [hT]
     rfl
    ·right
     rw [h0]
     exact (KAH hw.1 (k:=0) (by unfold sgn; rw [if_neg hneg]; exact Nat.le_refl _) _).1
   rw [pval,if_pos hc,hnum]
  rw [if_neg h1] at hm
  by_cases h3:k=3
  ·subst h3
   rw [if_pos rfl,Bool.and_eq_true,Bool.or_eq_true,decide_eq_true_iff,decide_eq_true_iff] at hm
   obtain ⟨hb,hn⟩:=hm
   obtain ⟨rfl,rfl⟩:=KCw hb
   rcases hn with rfl | rfl
   ·have ht:txt (d+1) (.mk 3 0 [] [])=[102,97,108,115,101]:=by rw [txt]; rfl
    rw [ht] at ha ⊢
    rw [pval,At.here ha,if_neg (by decide),if_neg (by decide),if_neg (by decide),if_pos rfl,WE ha]
   ·have ht:txt (d+1) (.mk 3 1 [] [])=[116,114,117,101]:=by rw [txt]; rfl
    rw [ht] at ha ⊢
    rw [pval,At.here ha,if_neg (by decide),if_neg (by decide),if_pos rfl,WE ha]
  rw [if_neg h3] at hm
  by_cases h67:k=6∨k=7
  ·rw [if_pos h67,Bool.and_eq_true,Bool.and_eq_true,decide_eq_true_iff,decide_eq_true_iff] at hm
   obtain ⟨⟨hb,hn1⟩,hn2⟩:=hm
   obtain ⟨rfl,rfl⟩:=KCw hb
   rcases h67 with rfl | rfl
   ·have ht:txt (d+1) (.mk 6 n [] [])=[118,91]++itoa n++[93]:=by rw [txt]; rfl
    rw [ht] at ha ⊢
    have hh:KI s i=118:=by
     rw [List.append_assoc] at ha
     exact At.here (Zq.1 ha).1
    rw [pval,hh,if_neg (by decide),if_neg (by decide),if_neg (by decide),if_neg (by decide),if_pos rfl]
    exact KDz hw.1 ha
   ·have ht:txt (d+1) (.mk 7 n [] [])=[101,91]++itoa n++[93]:=by rw [txt]; rfl
    rw [ht] at ha ⊢
    have hh:KI s i=101:=by
     rw [List.append_assoc] at ha
     exact At.here (Zq.1 ha).1
    rw [pval,hh,if_neg (by decide),if_neg (by decide),if_neg (by decide),if_neg (by decide),if_neg (by decide),if_pos rfl]
    exact KDz hw.1 ha
  rw [if_neg h67] at hm
  by_cases h2:k=2
  ·subst h2
   rw [if_pos rfl,Bool.and_eq_true,Bool.and_eq_true,decide_eq_true_iff,List.isEmpty_iff,decide_eq_true_iff] at hm
   obtain ⟨⟨rfl,rfl⟩,_⟩:=hm
   have ht:txt (d+1) (.mk 2 0 t [])=Yo t:=by rw [txt]; rfl
   rw [ht] at ha ⊢
   have hh:KI s i=39:=by
    have:Yo t=39::(t.flatMap qc++[39]):=rfl
    rw [this] at ha
    exact At.here ha
   rw [pval,hh,if_neg (by decide),if_pos rfl,KIm ha]
  rw [if_neg h2] at hm
  by_cases h4:k=4
  ·subst h4
   rw [if_pos rfl,Bool.and_eq_true,Bool.and_eq_true,Bool.and_eq_true,decide_eq_true_iff,decide_eq_true_iff,decide_eq_true_iff,List.all_eq_true] at hm
   obtain ⟨hl,⟨rfl,rfl⟩,hall⟩:=hm
   rw [KFW] at ha ⊢
   obtain ⟨a1,a2⟩:=Zq.1 ha
   have hlen:=a2.len (by simp)
   have hcount:l.length≤(shw [44,32] [44,32] (l.map (txt d))).length:=by
    cases l with
    | nil=>simp
    | cons x l =>
     rw [KCu,List.length_append,List.length_cons]
     have:=KEi d x
     have h5:l.length≤(sepT d l).length:=by
      clear hall hl ha a1 a2 hlen hf hw
      induction l with
      | nil=>simp
      | cons y l ih2=>simp only [sepT,List.flatMap_cons,List.length_append,List.length_cons,List.length_nil] at ih2 ⊢; omega
     omega
   rw [List.length_append,List.length_singleton] at hlen
   have hlist:=KHZ (fun x hx=>ih x (hall x hx) (hw.2 x hx)) a2 (s.length - i) (by have:([91]:List UInt8).length=1:=rfl; omega)
   rw [pval,At.here a1,if_neg (by decide),if_neg (by decide),if_neg (by decide),if_neg (by decide),if_neg (by decide),if_neg (by decide),if_pos rfl]
   rw [show i+([91]:List UInt8).length=i+1 from rfl] at hlist
   rw [hlist]
   simp only [List.length_append,List.length_cons,List.length_nil]
   congr 2
   omega
  rw [if_neg h4] at hm
  by_cases h5:k=5
  ·subst h5
   rw [if_pos rfl,Bool.and_eq_true,Bool.and_eq_true,Bool.and_eq_true,Bool.and_eq_true,Bool.and_eq_true,decide_eq_true_iff,decide_eq_true_iff,decide_eq_true_iff,decide_eq_true_iff,List.all_eq_true] at hm
   obtain ⟨⟨⟨hl,he⟩,_⟩,⟨rfl,rfl⟩,hall⟩:=hm
   rw [KHY] at ha ⊢
   obtain ⟨a1,a2⟩:=Zq.1 ha
   have hlen:=a2.len (by simp)
   have hcount:l.length≤(shw [58,32] [44,32] (l.map (txt d))).length:=by
    match l,he with
    | [],_=>simp
    | [u],he=>exact absurd he (by simp)
    | x::y::l,he =>
     simp only [List.length_cons] at he
     rw [KCv d (l.length / 2) l x y (by omega)]
     have h6:∀ (n:Nat) (l:List Vl),l.length=2 * n→l.length≤(mapT d l).length:=by
      intro n
      induction n with
      | zero=>intro l hl; omega
      | succ n ih2 =>
       intro l hl
       match l,hl with
       | a::b::r,hl =>
        simp only [List.length_cons] at hl
        have:=ih2 r (by omega)
        rw [mapT]
        simp only [List.length_append,List.length_cons,List.length_nil]
        omega
     have:=h6 (l.length / 2) l (by omega)
     have:=KEi d x
     have:=KEi d y
     simp only [List.length_append,List.length_cons,List.length_nil]
     omega
   rw [List.length_append,List.length_singleton] at hlen
   have hlist:=KIp he (fun x hx=>ih x (hall x hx) (hw.2 x hx)) a2 (s.length - i) (by have:([123]:List UInt8).length=1:=rfl; omega)
   rw [pval,At.here a1,if_neg (by decide),if_neg (by decide),if_neg (by decide),if_neg (by decide),if_neg (by decide),if_neg (by decide),if_neg (by decide),if_pos rfl]
   rw [show i+([123]:List UInt8).length=i+1 from rfl] at hlist
   rw [hlist]
   simp only [List.length_append,List.length_cons,List.length_nil]
   congr 2
   omega
  rw [if_neg h5] at hm
  cases hm
end Gx
namespace Gx
open Go Go.Proofs Go.Shelf Go.RowKit Go.Lib
set_option linter.unusedVariables false
set_option linter.unusedSimpArgs false
set_option maxRecDepth 100000
def Tx (s:List UInt8) (d:Nat) (pv:Nat→Except Nat (Vl × Nat)):Prop:=∀ i v j,pv i=.ok (v,j)→At s i (txt d v)∧j=i+(txt d v).length
theorem KD0 {s:List UInt8} {d:Nat} {pv:Nat→Except Nat (Vl × Nat)} (hp:Tx s d pv):∀ {f i:Nat} {l1 t:List Vl} {j:Nat},l1≠[]→UH pv 93 false s f l1 i=.ok (t,j)→∃ l2,t=l1++l2∧At s i (sepT d l2++[93])∧j=i+(sepT d l2).length+1
 | 0,i,l1,t,j,h1,h=>by cases h
 | f+1,i,l1,t,j,h1,h=>by
  rw [UH] at h
  split at h
  ·rename_i hh
   cases h
   exact ⟨[],by simp,WF hh (by decide),rfl⟩
  ·have hl1:¬ l1.length=0:=fun e=>h1 (List.length_eq_zero_iff.1 e)
   unfold sepP at h
   rw [if_neg hl1] at h
   split at h
   ·cases h
   ·rename_i i1 hi1
    obtain ⟨a1,a2⟩:=Un hi1
    split at h
    ·cases h
    ·rename_i vs i2 hv
     split at h
     ·cases h
     ·unfold VE at hv
      split at hv
      ·cases hv
      ·rename_i v j1 hpv
       rw [if_neg (by decide)] at hv
       cases hv
       obtain ⟨b1,b2⟩:=hp _ _ _ hpv
       obtain ⟨l2,c1,c2,c3⟩:=KD0 hp (by simp) h
       refine ⟨v::l2,by rw [c1]; simp,?_,?_⟩
       ·rw [show sepT d (v::l2)++[93]=[44,32]++(txt d v++(sepT d l2++[93])) by simp [sepT],Zq,Zq]
        subst a2
        rw [← b2]
        exact ⟨a1,b1,c2⟩
       ·have:(sepT d (v::l2)).length=2+(txt d v).length+(sepT d l2).length:=by simp [sepT]; omega
        have e2:([44,32]:List UInt8).length=2:=rfl
        omega
theorem KFZ {s:List UInt8} {d:Nat} {pv:Nat→Except Nat (Vl × Nat)} (hp:Tx s d pv):∀ {f i:Nat} {l1 t:List Vl} {j:Nat},l1≠[]→UH pv 125 true s f l1 i=.ok (t,j)→∃ l2,l2.length % 2=0∧t=l1++l2∧At s i (mapT d l2++[125])∧j=i+(mapT d l2).length+1
 | 0,i,l1,t,j,h1,h=>by cases h
 | f+1,i,l1,t,j,h1,h=>by
  rw [UH] at h
  split at h
  ·rename_i hh
   cases h
   exact ⟨[],rfl,by simp,WF hh (by decide),rfl⟩
  ·have hl1:¬ l1.length=0:=fun e=>h1 (List.length_eq_zero_iff.1 e)
   unfold sepP at h
   rw [if_neg hl1] at h
   split at h
   ·cases h
   ·rename_i i1 hi1
    obtain ⟨a1,a2⟩:=Un hi1
    split at h
    ·cases h
    ·rename_i vs i2 hv
     split at h
     ·cases h
     ·unfold VE at hv
      split at hv
      ·cases hv
      ·rename_i v j1 hpv
       rw [if_pos rfl] at hv
       split at hv
       ·cases hv
       ·rename_i j2 hj2
        obtain ⟨a3,a4⟩:=Un hj2
        split at hv
        ·cases hv
        ·rename_i w j3 hpw
         cases hv
         obtain ⟨b1,b2⟩:=hp _ _ _ hpv
         obtain ⟨b3,b4⟩:=hp _ _ _ hpw
         obtain ⟨l2,c0,c1,c2,c3⟩:=KFZ hp (by simp) h
         refine ⟨v::w::l2,by simp only [List.length_cons]; omega,by rw [c1]; simp,?_,?_⟩
         ·rw [show mapT d (v::w::l2)++[125]=[44,32]++(txt d v++([58,32]++(txt d w++(mapT d l2++[125])))) by rw [mapT]; simp,Zq,Zq,Zq,Zq]
          subst a2
          rw [← b2,← a4,← b4]
          exact ⟨a1,b1,a3,b3,c2⟩
         ·have:(mapT d (v::w::l2)).length=2+(txt d v).length+2+(txt d w).length+(mapT d l2).length:=by rw [mapT]; simp; omega
          have e2:([44,32]:List UInt8).length=2:=rfl
          have e3:([58,32]:List UInt8).length=2:=rfl
          omega
theorem KHa {s:List UInt8} {d:Nat} {pv:Nat→Except Nat (Vl × Nat)} (hp:Tx s d pv) {f i:Nat} {t:List Vl} {j:Nat} (h:UH pv 93 false s f [] i=.ok (t,j)) :
  At s i (shw [44,32] [44,32] (t.map (txt d))++[93])∧j=i+(shw [44,32] [44,32] (t.map (txt d))).length+1:=by
 cases f with
 | zero=>cases h
 | succ f =>
  rw [UH] at h
  split at h
  ·rename_i hh
   cases h
   exact ⟨WF hh (by decide),rfl⟩
  ·unfold sepP at h
   rw [if_pos (show ([]:List Vl).length=0 from rfl)] at h
   dsimp only at h
   split at h
   ·cases h
   ·rename_i vs i2 hv
    split at h
    ·cases h
    ·unfold VE at hv
     split at hv
     ·cases hv
     ·rename_i v j1 hpv
      rw [if_neg (by decide)] at hv
      cases hv
      obtain ⟨b1,b2⟩:=hp _ _ _ hpv
      obtain ⟨l2,c1,c2,c3⟩:=KD0 hp (by simp) h
      rw [List.nil_append,List.singleton_append] at c1
      rw [c1,KCu,List.append_assoc,Zq,List.length_append]
      subst b2
      exact ⟨⟨b1,c2⟩,by omega⟩
theorem KIq {s:List UInt8} {d:Nat} {pv:Nat→Except Nat (Vl × Nat)} (hp:Tx s d pv) {f i:Nat} {t:List Vl} {j:Nat} (h:UH pv 125 true s f [] i=.ok (t,j)) :
  At s i (shw [58,32] [44,32] (t.map (txt d))++[125])∧j=i+(shw [58,32] [44,32] (t.map (txt d))).length+1:=by
 cases f with
 | zero=>cases h
 | succ f =>
  rw [UH] at h
  split at h
  ·rename_i hh
   cases h
   exact ⟨WF hh (by decide),rfl⟩
  ·unfold sepP at h
   rw [if_pos (show ([]:List Vl).length=0 from rfl)] at h
   dsimp only at h
   split at h
   ·cases h
   ·rename_i vs i2 hv
    split at h
    ·cases h
    ·unfold VE at hv
     split at hv
     ·cases hv
     ·rename_i v j1 hpv
      rw [if_pos rfl] at hv
      split at hv
      ·cases hv
      ·rename_i j2 hj2
       obtain ⟨a3,a4⟩:=Un hj2
       split at hv
       ·cases hv
       ·rename_i w j3 hpw
        cases hv
        obtain ⟨b1,b2⟩:=hp _ _ _ hpv
        obtain ⟨b3,b4⟩:=hp _ _ _ hpw
        obtain ⟨l2,c0,c1,c2,c3⟩:=KFZ hp (by simp) h
        rw [List.nil_append] at c1
        rw [c1,show [v,w]++l2=v::w::l2 from rfl,KCv d (l2.length / 2) l2 v w (by omega)]
        rw [show txt d v++([58,32]++(txt d w++mapT d l2))++[125]=txt d v++([58,32]++(txt d w++(mapT d l2++[125]))) by simp,Zq,Zq,Zq]
        subst b2
        subst a4
        subst b4
        refine ⟨⟨b1,a3,b3,c2⟩,?_⟩
        simp only [List.length_append,List.length_cons,List.length_nil] at c3 ⊢
        omega
theorem KD1 {s:List UInt8} {i j:Nat} {k:Int} {c:UInt8} {v:Vl} (hc:At s i [c]) (h:Yy k s i=.ok (v,j)):∃ n,v=.mk k n [] []∧At s i ([c,91]++itoa n++[93])∧j=i+([c,91]++itoa n++[93]).length:=by
 unfold Yy at h
 split at h
 ·cases h
 ·rename_i j1 h1
  obtain ⟨a1,a2⟩:=Un h1
  split at h
  ·cases h
  ·rename_i n j2 h2
   have hle:=(UL h1).2.1 (by simp)
   obtain ⟨b1,b2⟩:=KFU h2 hle
   split at h
   ·cases h
   ·rename_i j3 h3
    obtain ⟨c1,c2⟩:=Un h3
    cases h
    have a2:j1=i+2:=a2
    subst a2
    subst b2
    refine ⟨n,rfl,?_,?_⟩
    ·rw [show [c,91]++itoa n++[93]=[c]++([91]++(itoa n++[93])) by simp,Zq,Zq,Zq]
     exact ⟨hc,a1,b1,c1⟩
    ·rw [c2]
     simp only [List.length_append,List.length_cons,List.length_nil]
     omega
theorem KFa (s:List UInt8):∀ d,Tx s d (pval s d)
 | 0=>fun i v j h=>by cases h
 | d+1=>fun i v j h=>by
  have ih:=KFa s d
  rw [pval] at h
  split at h
  ·rename_i hc
   have hi:i < s.length:=Z5 (fun e=>by rw [e] at hc; exact absurd hc (by decide))
   split at h
   ·cases h
   ·rename_i n j1 h1
    cases h
    have ht:txt (d+1) (.mk 1 n [] [])=itoa n:=by rw [txt,if_pos rfl]
    rw [ht]
    exact KFU h1 (by omega)
  split at h
  ·split at h
   ·cases h
   ·rename_i t j1 h1
    cases h
    have ht:txt (d+1) (.mk 2 0 t [])=Yo t:=by rw [txt]; rfl
    rw [ht]
    exact KIo h1
  split at h
  ·split at h
   ·cases h
   ·rename_i j1 h1
    cases h
    have ht:txt (d+1) (.mk 3 1 [] [])=[116,114,117,101]:=by rw [txt]; rfl
    rw [ht]
    exact Un h1
  split at h
  ·split at h
   ·cases h
   ·rename_i j1 h1
    cases h
    have ht:txt (d+1) (.mk 3 0 [] [])=[102,97,108,115,101]:=by rw [txt]; rfl
    rw [ht]
    exact Un h1
  split at h
  ·rename_i hc
   obtain ⟨n,rfl,h2,h3⟩:=KD1 (WF hc (by decide)) h
   have ht:txt (d+1) (.mk 6 n [] [])=[118,91]++itoa n++[93]:=by rw [txt]; rfl
   rw [ht]
   exact ⟨h2,h3⟩
  split at h
  ·rename_i hc
   obtain ⟨n,rfl,h2,h3⟩:=KD1 (WF hc (by decide)) h
   have ht:txt (d+1) (.mk 7 n [] [])=[101,91]++itoa n++[93]:=by rw [txt]; rfl
   rw [ht]
   exact ⟨h2,h3⟩
  split at h
  ·rename_i hc
   split at h
   ·cases h
   ·rename_i l j1 h1
    cases h
    obtain ⟨a1,a2⟩:=KHa ih h1
    rw [KFW,Zq]
    exact ⟨⟨WF hc (by decide),a1⟩,by rw [a2]; simp only [List.length_append,List.length_cons,List.length_nil]; omega⟩
  split at h
  ·rename_i hc
   split at h
   ·cases h
   ·rename_i l j1 h1
    cases h
    obtain ⟨a1,a2⟩:=KIq ih h1
    rw [KHY,Zq]
    exact ⟨⟨WF hc (by decide),a1⟩,by rw [a2]; simp only [List.length_append,List.length_cons,List.length_nil]; omega⟩
  ·cases h
theorem KCx {v:Vl} (hm:mayV 8 v=true) (hw:WfV 8 v):ZS (txV v)=(v,0,0):=by
 have hAt:At (txV v) 0 (txt 8 v):=by
  unfold At
  rw [List.drop_zero]
  exact List.take_length
 have h:=KFY (txV v) 8 v hm hw 0 hAt (by
  have:KI (txV v) (0+(txt 8 v).length)=0:=by
   unfold KI
   rw [List.getElem?_eq_none (by show (txt 8 v).length≤_; omega)]
   rfl
  rw [this]
  decide)
 have hr:NE (txV v)=.ok v:=by
  unfold NE
  rw [h]
  dsimp only
  rw [if_neg (by show ¬ (0+(txt 8 v).length < (txt 8 v).length); omega)]
 unfold ZS
 rw [hr]
 dsimp only
 rw [if_pos hm]
theorem KCy {s:List UInt8} {v:Vl} (h:NE s=.ok v):txV v=s:=by
 unfold NE at h
 split at h
 ·cases h
 ·rename_i w j hp
  split at h
  ·cases h
  ·rename_i hj
   cases h
   obtain ⟨a1,a2⟩:=KFa s 8 0 _ _ hp
   have hle:=(KCn s 8 0 _ _ hp).2
   unfold At at a1
   rw [List.drop_zero,List.take_of_length_le (by omega)] at a1
   exact a1.symm
end Gx
namespace Gx
open Go Go.Proofs Go.Shelf Go.RowKit Go.Lib
set_option linter.unusedVariables false
set_option linter.unusedSimpArgs false
set_option maxRecDepth 100000
theorem KHb {s:List UInt8} (h:(ZS s).2.2=0):NE s=.ok (ZS s).1∧mayV 8 (ZS s).1=true:=by
 unfold ZS at h ⊢
 cases hr:NE s with
 | error e =>
  rw [hr] at h
  have h:(22:Int)=0:=h
  exact absurd h (by decide)
 | ok v =>
  rw [hr] at h
  dsimp only at h ⊢
  by_cases hm:mayV 8 v=true
  ·rw [if_pos hm]
   exact ⟨rfl,hm⟩
  ·rw [if_neg hm] at h
   have h:(20:Int)=0:=h
   exact absurd h (by decide)
end Gx
namespace Gx
open Go Go.Proofs Go.Shelf Go.RowKit Go.Lib
set_option linter.unusedVariables false
set_option linter.unusedSimpArgs false
set_option maxRecDepth 100000
theorem KHc (n:Int) (s:List UInt8) (l:List Vl):txV (.mk 1 n s l)=itoa n:=by
 show txt 8 _=_
 rw [txt,if_pos rfl]
theorem KKR (n:Int) (s:List UInt8) (l:List Vl):txV (.mk 2 n s l)=Yo s:=by
 show txt 8 _=_
 rw [txt,if_neg (by decide),if_pos rfl]
def tkT (t:Tkn):List UInt8:=if tokB t=false then [] else if t.k=2 then itoa t.n else if t.k=3 then Yo t.s else t.s
theorem KHd {k:Int} {s:List UInt8} {n:Nat} {t:Vl→Tkn} (h:(oneV k s n t).2≠0):(ZS (s.take n)).2.2=0∧(ZS (s.take n)).1.k=k∧txV (ZS (s.take n)).1=s.take n∧oneV k s n t=(t (ZS (s.take n)).1,n):=by
 unfold oneV oneW at h ⊢
 split at h
 ·exact absurd rfl h
 ·rename_i hh
  have h1:(ZS (s.take n)).2.2=0:=Decidable.byContradiction (fun e=>hh (.inl e))
  have h2:(ZS (s.take n)).1.k=k:=Decidable.byContradiction (fun e=>hh (.inr e))
  exact ⟨h1,h2,KCy (KHb h1).1,by rw [if_neg hh]⟩
def NumT (t:Tkn):Prop:=t.k=2→∃ v p,ZS (itoa t.n)=(v,p,0)∧v.k=1∧v.n=t.n
theorem NumT.of {t:Tkn} (h:I64 t.n):NumT t:=fun _=>⟨.mk 1 t.n [] [],0,by
 rw [← KHc t.n [] []]
 exact KCx (by simp [mayV,KCh]) ⟨h,fun x hx=>by cases hx⟩,rfl,rfl⟩
theorem KIr {t:Tkn} (h:tokB t=true):tkT t=if t.k=2 then itoa t.n else if t.k=3 then Yo t.s else t.s:=by
 unfold tkT
 rw [h]
 exact if_neg (by decide)
theorem KHe {s:List UInt8} {p:Nat} (h0:(oneP s).2≠0) (hb:tokB { (oneP s).1 with a:=(p:Int) }=true):tkT { (oneP s).1 with a:=(p:Int) }=s.take (oneP s).2∧NumT { (oneP s).1 with a:=(p:Int) }:=by
 cases s with
 | nil=>exact absurd rfl h0
 | cons c r =>
  rw [KIr hb]
  clear hb
  rw [qy] at h0 ⊢
  split at h0
  ·rename_i hm
   rw [if_pos hm]
   exact ⟨rfl,fun h=>by have h:(4:Int)=2:=h; omega⟩
  split at h0
  ·rename_i hm hl
   rw [if_neg hm,if_pos hl]
   exact ⟨rfl,fun h=>by have h:(1:Int)=2:=h; omega⟩
  split at h0
  ·rename_i hm hl h39
   rw [if_neg hm,if_neg hl,if_pos h39]
   obtain ⟨h1,h2,h3,h4⟩:=KHd h0
   rw [h4]
   refine ⟨?_,fun h=>by have h:(3:Int)=2:=h; omega⟩
   dsimp only
   rw [if_neg (by decide),if_pos rfl]
   refine Eq.trans ?_ h3
   generalize (ZS _).1=v at h2 ⊢
   obtain ⟨k,n,s,l⟩:=v
   have h2:k=2:=h2
   subst h2
   exact (KKR _ _ _).symm
  ·rename_i hm hl h39
   rw [if_neg hm,if_neg hl,if_neg h39]
   obtain ⟨h1,h2,h3,h4⟩:=KHd h0
   rw [h4]
   dsimp only
   generalize hq:ZS _=q at h1 h2 h3 ⊢
   obtain ⟨⟨k,n,ss,l⟩,p,e⟩:=q
   have h2:k=1:=h2
   have h1:e=0:=h1
   subst h2
   subst h1
   dsimp only at h3 ⊢
   rw [KHc] at h3
   rw [if_pos rfl,show (Vl.mk 1 n ss l).n=n from rfl,h3]
   exact ⟨rfl,fun _=>⟨_,_,by dsimp only; rw [h3]; exact hq,rfl,rfl⟩⟩
theorem KA6 {s:List UInt8} {a a':Nat} {t:Tkn} (ha:a≤s.length) (h:XK s a=some (t,a')) :
  ∃ p:Nat,t.a=(p:Int)∧a≤p∧tokB t=true∧NumT t∧tkT t≠[]∧(s.drop p).take (tkT t).length=tkT t∧a'=p+(tkT t).length∧p+(tkT t).length≤s.length∧((s.drop a).take (p - a)).all Wg=true:=by
 have hsk:=q5 ha
 have hol:=KCr (s.drop (JN s a))
 rw [List.length_drop] at hol
 have hbl:((s.drop a).take (JN s a - a)).all Wg=true:=by
  unfold JN
  rw [Nat.add_sub_cancel_left,show ((s.drop a).take ((s.drop a).takeWhile Wg).length)=(s.drop a).takeWhile Wg from (List.prefix_iff_eq_take.1 (List.takeWhile_prefix _)).symm]
  exact List.all_takeWhile
 unfold XK at h
 split at h
 ·split at h
  ·cases h
  ·rename_i h0 h1
   cases h
   have ho:(oneP (s.drop (JN s a))).2≠0:=fun e=>h1 (.inl e)
   have hb:tokB { (oneP (s.drop (JN s a))).1 with a:=(JN s a:Int) }=true:=by
    cases hh:tokB { (oneP (s.drop (JN s a))).1 with a:=(JN s a:Int) } with
    | true=>rfl
    | false=>exact absurd (.inr hh) h1
   obtain ⟨hx,hn⟩:=KHe ho hb
   have hl:(tkT { (oneP (s.drop (JN s a))).1 with a:=(JN s a:Int) }).length=(oneP (s.drop (JN s a))).2:=by
    rw [hx,List.length_take,List.length_drop]; omega
   refine ⟨JN s a,rfl,hsk.1,hb,hn,fun e=>by rw [e] at hl; exact ho hl.symm,?_,by rw [hl],by rw [hl]; omega,hbl⟩
   rw [hl,hx]
 ·cases h
theorem KD2 {s:List UInt8}:∀ (f a:Nat),a≤s.length→s.length - a < f→∀ t ∈ (allT s a).1,tokB t=true∧NumT t
 | 0,a,ha,hf=>by omega
 | f+1,a,ha,hf=>by
  cases hn:XK s a with
  | none=>rw [XL hn]; intro t ht; cases ht
  | some p =>
   obtain ⟨t,a'⟩:=p
   have hlt:=q7 ha hn
   rw [XM ha hn]
   intro x hx
   rcases List.mem_cons.1 hx with rfl | hx
   ·obtain ⟨_,_,_,h1,h2,_⟩:=KA6 ha hn
    exact ⟨h1,h2⟩
   ·exact KD2 f a' hlt.2 (by omega) x hx
end Gx
namespace Gx
open Go Go.Proofs Go.Shelf Go.RowKit Go.Lib
set_option linter.unusedVariables false
set_option linter.unusedSimpArgs false
set_option maxRecDepth 100000
def lexP (s:List UInt8):List Tkn × Nat × Int :=
 if 16384 < s.length then ([],0,3) else
  match (allT s 0).1[4096]? with
  | some t=>([],t.a.toNat,3)
  | none=>if (allT s 0).2 < s.length then ([],(allT s 0).2,150) else ((allT s 0).1,s.length,0)
theorem KHf {s:List UInt8}:∀ (f a:Nat),a≤s.length→s.length - a < f→(allT s a).2≤s.length
 | 0,a,ha,hf=>by omega
 | f+1,a,ha,hf=>by
  cases hn:XK s a with
  | none=>rw [XL hn]; exact (q5 ha).2
  | some p =>
   obtain ⟨t,a'⟩:=p
   have hlt:=q7 ha hn
   rw [XM ha hn]
   exact KHf f a' hlt.2 (by omega)
theorem KIs (s:List UInt8):(allT s 0).2≤s.length:=KHf _ 0 (Nat.zero_le _) (Nat.lt_succ_self _)
theorem KGA (s:List UInt8):∀ t ∈ (allT s 0).1,tokB t=true∧NumT t:=KD2 _ 0 (Nat.zero_le _) (Nat.lt_succ_self _)
end Gx
namespace Gx
open Go
set_option linter.unusedVariables false
set_option linter.unusedSimpArgs false
set_option maxRecDepth 100000
theorem KHg {s:List UInt8} {b c a:Nat} (ha:a≤s.length) (hs:s.length≤1099511627776) (hb:b≠gER) :
  SeqT Go.Proofs.Tryz.prog (allT s a).1 (.func (.func VK) #[] #[.pointer (some ⟨c,0,none⟩)]) b (fun h1=>ErrV h1∧h1[c]?=some (.cells #[.pointer (some ⟨b,0,none⟩)] VZ (0,0))) (WS s a) (fun h1=>h1[b]?=some (WS s (allT s a).2)) :=
 fun l Inv Stop h hU hC g h0 hround=>KMg ha hs hb hU hC g h0 hround
theorem KEk {β:Type} {lo n:Nat} {h:Heap} {Q:β→Heap→Prop} {r:Sl} {ts:List Tkn} {t:Tkn} {f:Sl→M β} (G:Gw lo h r 4 (VW (tks ts))) (hlo:lo≤h.size) (hm:ts.length≤1099511627776) (hn:h[n]?=some (.cells t.cells KM (0,0)))
  (H:∀ h' r',Gw lo h' r' 4 (VW (tks (ts++[t])))→h.size≤h'.size→(∀ i,i < h.size→¬ Sl.on r i→h'[i]?=h[i]?)→(f r').wp h' Q):(ldG 4 ⟨n,0,none⟩>>=fun x=>GV 4 1 (#[.int .i64 0,.string ByteArray.empty,.int .i64 0,.int .i64 0]:Array Value) [(0,.agg x)]>>=fun y=>bdL KM 1 y>>=fun z=>apL KM 4 40 (#[.int .i64 0,.string ByteArray.empty,.int .i64 0,.int .i64 0]:Array Value) r z>>=f).wp h Q:=by
 refine ldR hn rfl (KE5 rfl (KIG ?_))
 have e6:=Ext.push h (.cells t.cells KM)
 have g6:(h.push (.cells t.cells KM))[h.size]?=some (.cells t.cells KM (0,0)):=Z2
 generalize h.push (.cells t.cells KM)=h6 at e6 g6 ⊢
 have G6:=G.ext e6
 have hrl:=G6.len
 rw [We (KHP ts),zg] at hrl
 have hs6:=e6.size
 have hnew:VW (tks [t])=t.cells.toList:=by simp [VW,tks]
 refine KEK (vs:=VW (tks ts)) (news:=VW (tks [t])) rfl G6 (by rw [hnew]; rfl) (.inr ⟨_,rfl,fun j v hj=>?_⟩) (fun v hv=>Yn t v (by rw [hnew] at hv; exact hv)) (by dsimp only; omega) (by dsimp only; omega) (by omega) (fun h7 r7 G7 hlen7 hs7 same7 on7=>?_)
 ·rw [Kp,Nat.zero_add,KU g6]
  rw [hnew] at hj
  simpa using hj
 ·refine H h7 r7 ?_ (by omega) (fun i hi ho=>(same7 i (by omega) ho).trans (e6.same i hi))
  rw [KHQ]
  unfold VW at G7 ⊢
  rw [List.flatMap_append]
  exact G7
structure LxJ (hA:Heap) (c b n6:Nat) (t6:TypeId) (ts:List Tkn) (h:Heap):Prop where
 size:hA.size+2≤h.size
 same:∀ i,i < hA.size→i≠b→i≠n6→h[i]?=hA[i]?
 df:h[hA.size]?=some (.deferred (some []))
 c6:∃ r,h[n6]?=some (.cells #[r.v] t6 (0,0))∧Gw (hA.size+2) h r 4 (VW (tks ts))
theorem LxJ.km {hA:Heap} {c b n6 k:Nat} {t6:TypeId} {ts:List Tkn} {h h':Heap} (J:LxJ hA c b n6 t6 ts h) (u:Kb k h h') (hk:k=b∨k=hA.size+1) (h6:n6 < hA.size) (hb6:b≠n6) (hb:b < hA.size):LxJ hA c b n6 t6 ts h':=by
 obtain ⟨r,c6,G⟩:=J.c6
 have hz:=J.size
 exact ⟨by have:=u.size; omega,fun i hi hib hi6=>(u.same i (by omega) (by omega)).trans (J.same i hi hib hi6),u.blk J.df (by omega),⟨r,u.blk c6 (by omega),G.same (fun i hi=>u.same i (G.lt hi).1 (by have:=(G.lt hi).2; omega))⟩⟩
theorem Upd.kb {k:Nat} {h h':Heap} (u:Upd k h h'):Kb k h h':=Km.upd u rfl
theorem KLw {p:UInt8→Bool}:∀ l:List UInt8,(l.dropWhile p).takeWhile p=[]
 | []=>rfl
 | c::l=>by
  cases h:p c with
  | true=>rw [List.dropWhile_cons_of_pos h]; exact KLw l
  | false=>rw [List.dropWhile_cons_of_neg (by rw [h]; decide),List.takeWhile_cons_of_neg (by rw [h]; decide)]
theorem KHh {p:UInt8→Bool}:∀ l:List UInt8,l.drop (l.takeWhile p).length=l.dropWhile p
 | []=>rfl
 | c::l=>by
  cases h:p c with
  | true=>rw [List.dropWhile_cons_of_pos h,List.takeWhile_cons_of_pos h,List.length_cons,List.drop_succ_cons]; exact KHh l
  | false=>rw [List.dropWhile_cons_of_neg (by rw [h]; decide),List.takeWhile_cons_of_neg (by rw [h]; decide)]; rfl
theorem KGB (s:List UInt8) (a:Nat):JN s (JN s a)=JN s a:=by
 have hd:s.drop (JN s a)=(s.drop a).dropWhile Wg:=by
  unfold JN
  rw [← List.drop_drop,KHh]
 have:((s.drop (JN s a)).takeWhile Wg).length=0:=by rw [hd,KLw]; rfl
 show JN s a+((s.drop (JN s a)).takeWhile Wg).length=JN s a
 omega
theorem KD3 {s:List UInt8}:∀ (f a:Nat),a≤s.length→s.length - a < f→JN s (allT s a).2=(allT s a).2
 | 0,a,ha,hf=>by omega
 | f+1,a,ha,hf=>by
  cases hn:XK s a with
  | none=>rw [XL hn]; exact KGB s a
  | some p =>
   obtain ⟨t,a'⟩:=p
   have hlt:=q7 ha hn
   rw [XM ha hn]
   exact KD3 f a' hlt.2 (by omega)
theorem KFb {n2 n3 n4:Nat} {t2 t3 t4:TypeId} {ds:List Nat} {v2:Sl} {v3 v4:Int} {h:Heap} {Q:Sl × Int × Int→Heap→Prop}
  (g2:h[n2]?=some (.cells #[v2.v] t2 (0,0))) (g3:h[n3]?=some (.cells #[.int .i64 v3] t3 (0,0))) (g4:h[n4]?=some (.cells #[.int .i64 v4] t4 (0,0)))
  (hd:ds=[]∨∃ d,ds=[d]∧h[d]?=some (.deferred (some []))∧n2≠d∧n3≠d∧n4≠d)
  (H:∀ h',h'.size=h.size→(∀ i,(∀ d ∈ ds,i≠d)→h'[i]?=h[i]?)→Q (v2,v3,v4) h') :
  (shut ds>>=fun _=>ldL ⟨n2,0,none⟩>>=fun a=>ldI .i64 ⟨n3,0,none⟩>>=fun b=>ldI .i64 ⟨n4,0,none⟩>>=fun c=>(M.pure (a,b,c):M (Sl × Int × Int))).wp h Q:=by
 rcases hd with rfl | ⟨d,rfl,gd,e2,e3,e4⟩
 ·exact VU (oneC g2) (Zl (oneC g3) (Zl (oneC g4) (KC (H h rfl (fun _ _=>rfl)))))
 ·refine ⟨gd,?_⟩
  have u:=Upd.set_ h d (.deferred none)
  exact VU (oneC ((u.ne _ e2).trans g2)) (Zl (oneC ((u.ne _ e3).trans g3)) (Zl (oneC ((u.ne _ e4).trans g4)) (KC (H _ u.size (fun i hi=>u.ne i (hi d (by simp)))))))
def KLx (c2 c3 c4 c6:Addr):Addr→M Nat:=fun Xx26=>do
  let Xx30←ldL c6
  M.ite ((Xx30.len:Int) == 4096) (do
   let Xx32←ldI .i64 ((Xx26).add 3)
   stV c2 ((Sl.nil:Sl).v)
   chk (fun h:Heap=>(KV h ((Xx26).add 3)=some (.int .i64 Xx32)))
   stV c3 (.int .i64 Xx32)
   stV c4 (.int .i64 3)
   M.pure 1
   ) (do
   let Xx36←ldL c6
   let Xx37←ldG 4 Xx26
   let y_39←GV 4 1 (#[.int .i64 0,.string ByteArray.empty,.int .i64 0,.int .i64 0]:Array Value) [(0,.agg Xx37)]
   let Xx38←bdL KM 1 y_39
   let Xx40←apL KM 4 40 (#[.int .i64 0,.string ByteArray.empty,.int .i64 0,.int .i64 0]:Array Value) Xx36 Xx38
   stV c6 ((Xx40:Sl).v)
   M.pure 0
   )
structure LxE (h0 hA:Heap) (n2 n3 n4:Nat) (v3:Int) (h:Heap):Prop where
 size:hA.size+2≤h.size
 same:∀ i,i < h0.size→h[i]?=h0[i]?
 df:h[hA.size]?=some (.deferred (some []))
 g2:h[n2]?=some (.cells #[(Sl.nil:Sl).v] JT (0,0))
 g3:h[n3]?=some (.cells #[.int .i64 v3] YD (0,0))
 g4:h[n4]?=some (.cells #[.int .i64 3] zm (0,0))
theorem KIt {s:List UInt8} {h:Heap} {Q:Sl × Int × Int→Heap→Prop} (he:ErrV h)
  (H:∀ h' r,Ext h h'→TkR h' r (lexP s).1→r.len≤r.cap→Q (r,((lexP s).2.1:Int),(lexP s).2.2) h'):(zF (bs s)).wp h Q:=by
 unfold zF
 refine Zo (fun h1 e1 s1 g1=>Zo (fun h2 e2 s2 g2=>Zo (fun h3 e3 s3 g3=>?_)))
 rw [Ko]
 have hER:gER < h.size:=by obtain ⟨t,p,hc⟩:=he; exact Ym hc
 have E3:=(e1.trans e2).trans e3
 have n1:h3[h.size]?=some (.cells #[.slice none 0 0] JT (0,0)):=e3.blk (e2.blk g1)
 have n2:=e3.blk g2
 refine KX (fun hlong=>?_) (fun hshort=>?_)
 ·unfold lexP at H
  rw [if_pos (by have:=of_decide_eq_true hlong; omega)] at H
  refine stO n1 (KDF _) (fun h4 u4 k1=>stO ((u4.ne _ (by omega)).trans n2) rfl (fun h5 u5 k2=>stO ((u5.ne _ (by omega)).trans ((u4.ne _ (by omega)).trans g3)) rfl (fun h6 u6 k3=>?_)))
  have k1':=(u6.ne _ (by omega)).trans ((u5.ne _ (by omega)).trans k1)
  have k2':=(u6.ne _ (by omega)).trans k2
  exact KFb (v2:=Sl.nil) k1' k2' k3 (.inl rfl) (fun h' hz hsame=>H h' Sl.nil ⟨by rw [hz,u6.size,u5.size,u4.size]; exact E3.size,fun i hi=>(hsame i (fun d hd=>by cases hd)).trans ((u6.ne _ (by omega)).trans ((u5.ne _ (by omega)).trans ((u4.ne _ (by omega)).trans (E3.same i hi))))⟩ (TkR.nil _) (Nat.le_refl _))
 ·have hshort:=of_decide_eq_false hshort
  have hsl:s.length≤16384:=by omega
  have hs:s.length≤1099511627776:=by omega
  refine Zo (fun h4 e4 s4 g4=>Zo (fun h5 e5 s5 g5=>?_))
  unfold U3
  refine Kf (Zo (fun hA eA sA gA=>Kw ?_))
  have E5:=(E3.trans e4).trans e5
  have EA:=E5.trans eA
  obtain ⟨al,hal⟩:∃ al,al=allT s 0:=⟨_,rfl⟩
  have gb:hA[h3.size]?=some (WS s 0):=eA.blk (e5.blk g4)
  have hle:=KIs s
  have hskp:=KD3 _ 0 (Nat.zero_le s.length) (Nat.lt_succ_self _)
  have heA:=he.ext EA
  have m1:hA[h.size]?=some (.cells #[.slice none 0 0] JT (0,0)):=((e4.trans e5).trans eA).blk n1
  have m2:=((e4.trans e5).trans eA).blk n2
  have m3:=((e4.trans e5).trans eA).blk g3
  have m6:=eA.blk g5
  refine KJ (KLt (Yb:=KLx ⟨h.size,0,none⟩ ⟨h1.size,0,none⟩ ⟨h2.size,0,none⟩ ⟨h4.size,0,none⟩) (fun l x=>rfl) (c:=.ret) rfl (fun l hh=>by cases hh) (ts:=(allT s 0).1) (b:=h3.size)
   (fun i h'=>i≤4096∧LxJ hA h5.size h3.size h4.size JT ((allT s 0).1.take i) h')
   (fun h'=>∃ t,(allT s 0).1[4096]?=some t∧LxE h hA h.size h1.size h2.size t.a h') ?_ ?_ ?_ ?_ ?_ gb (KHg (c:=h5.size) (Nat.zero_le _) hs (by omega)) ?_ ?_ ?_ ?_)
  ·exact fun i h' h'' hj u=>⟨hj.1,hj.2.km u.kb (.inr rfl) (by omega) (by omega) (by omega)⟩
  ·rintro h' h'' ⟨t,ht,hj⟩ u
   exact ⟨t,ht,by rw [u.size]; exact hj.size,fun i hi=>(u.ne _ (by omega)).trans (hj.same i hi),(u.ne _ (by omega)).trans hj.df,(u.ne _ (by omega)).trans hj.g2,(u.ne _ (by omega)).trans hj.g3,(u.ne _ (by omega)).trans hj.g4⟩
  ·exact fun h' h'' hj u=>(u.ne _ (by omega)).trans hj
  ·exact fun i h' h'' hj hz u=>⟨hj.1,hj.2.km u (.inl rfl) (by omega) (by omega) (by omega)⟩
  ·rintro i h' ⟨_,hj⟩
   refine ⟨?_,(hj.same _ (by omega) (by omega) (by omega)).trans gA⟩
   obtain ⟨t,p,hc⟩:=heA
   refine ⟨t,p,?_⟩
   unfold KV at hc ⊢
   rw [show (⟨gER,0,none⟩:Addr).block=gER from rfl] at hc ⊢
   rw [hj.same gER (by omega) (by omega) (by omega)]
   exact hc
  ·intro r
   have e7:Ext hA ((hA.push (.deferred (some []))).push (WV r .ready none)):=(Ext.push _ _).pushed _
   exact ⟨Nat.zero_le _,by simp,fun i hi _ _=>e7.same i hi,by rw [Vb (by simp)]; exact Z2,⟨Sl.nil,e7.blk m6,Gw.nil _ _ _⟩⟩
  ·rintro i hi h' o n ⟨him,J⟩ hn hnl ho
   obtain ⟨r,c6,G⟩:=J.c6
   have hrl:=G.tkR.1
   rw [List.length_take,Nat.min_eq_left (by omega)] at hrl
   have hz:=J.size
   unfold KLx
   refine VU (oneC c6) (KX (fun hc=>?_) (fun hc=>?_))
   ·rw [eqI] at hc
    have hc:=of_decide_eq_true hc
    obtain rfl:i=4096:=by omega
    have q1:=(J.same h.size (by omega) (by omega) (by omega)).trans m1
    have q2:=(J.same h1.size (by omega) (by omega) (by omega)).trans m2
    have q3:=(J.same h2.size (by omega) (by omega) (by omega)).trans m3
    refine Zl (n:=((allT s 0).1[4096]).a) (by rw [Kp,KU hn]; rfl) (stO q1 (KDF _) (fun h6 u6 k1=>KAa (by rw [Kp,KU ((u6.ne n (by omega)).trans hn)]; rfl) (stO ((u6.ne _ (by omega)).trans q2) rfl (fun h7 u7 k2=>stO ((u7.ne _ (by omega)).trans ((u6.ne _ (by omega)).trans q3)) rfl (fun h8 u8 k3=>KC ?_)))))
    have keep:∀ k,k≠h.size→k≠h1.size→k≠h2.size→h8[k]?=h'[k]?:=fun k a1 a2 a3=>(u8.ne k a3).trans ((u7.ne k a2).trans (u6.ne k a1))
    refine ⟨(keep _ (by omega) (by omega) (by omega)).trans ho,keep _ (by omega) (by omega) (by omega),.inr ⟨rfl,(allT s 0).1[4096],List.getElem?_eq_getElem hi,by rw [u8.size,u7.size,u6.size]; exact hz,fun k hk=>(keep k (by omega) (by omega) (by omega)).trans ((J.same k (by have:=EA.size; omega) (by have:=E3.size; omega) (by have:=(E3.trans e4).size; omega)).trans (EA.same k hk)),(keep _ (by omega) (by omega) (by omega)).trans J.df,(u8.ne _ (by omega)).trans ((u7.ne _ (by omega)).trans k1),(u8.ne _ (by omega)).trans k2,k3⟩⟩
   ·rw [eqI] at hc
    have hc:=of_decide_eq_false hc
    refine VU (oneC c6) (KEk G (by omega) (by rw [List.length_take]; omega) hn (fun h6 r6 G6 hs6 same6=>?_))
    have hG:∀ {k:Nat},Sl.on r k→k < h'.size∧hA.size+2≤k:=fun ho=>G.lt ho
    have nn:∀ k,k < hA.size+2→¬ Sl.on r k:=fun k hk ho=>by have:=(hG ho).2; omega
    have c6':=(same6 _ (by omega) (nn h4.size (by omega))).trans c6
    refine stO c6' (KDF _) (fun h7 u7 k6=>KC ?_)
    have keep:∀ k,k < hA.size+2→k≠h4.size→h7[k]?=h'[k]?:=fun k hk hk6=>(u7.ne k hk6).trans (same6 k (by omega) (nn k hk))
    refine ⟨(keep _ (by omega) (by omega)).trans ho,keep _ (by omega) (by omega),.inl ⟨rfl,by omega,by rw [u7.size]; omega,fun k hk hkb hk6=>(keep k (by omega) hk6).trans (J.same k hk hkb hk6),(keep _ (by omega) (by omega)).trans J.df,⟨r6,k6,?_⟩⟩⟩
    rw [List.take_succ_eq_append_getElem hi]
    exact G6.same (fun k hk=>u7.ne k (by have:=(G6.lt hk).2; omega))
  ·rintro h' ⟨him,J⟩ hend
   refine iteF rfl (KJ (KA3 hend hle hs (fun h6 u6 k6=>?_)))
   rw [hskp] at k6 ⊢
   obtain ⟨r,c6,G⟩:=J.c6
   rw [List.take_length] at G
   have hz:=J.size
   have nn:∀ k,k < hA.size+2→¬ Sl.on r k:=fun k hk ho=>by have:=(G.lt ho).2; omega
   have q1:=(u6.ne h.size (by omega)).trans ((J.same h.size (by omega) (by omega) (by omega)).trans m1)
   have q2:=(u6.ne h1.size (by omega)).trans ((J.same h1.size (by omega) (by omega) (by omega)).trans m2)
   have q3:=(u6.ne h2.size (by omega)).trans ((J.same h2.size (by omega) (by omega) (by omega)).trans m3)
   have qd:=(u6.ne hA.size (by omega)).trans J.df
   have hnone:(allT s 0).1[4096]?=none:=List.getElem?_eq_none him
   unfold lexP at H
   rw [if_neg (by omega),hnone] at H
   dsimp only at H
   refine KX (fun hlt=>?_) (fun hge=>?_)
   ·rw [if_pos (of_decide_eq_true hlt)] at H
    refine Kx (Zl (z7 k6) (stO q1 (KDF _) (fun h7 u7 k1=>KAa (z7 ((u7.ne _ (by omega)).trans k6)) (stO ((u7.ne _ (by omega)).trans q2) rfl (fun h8 u8 k2=>stO ((u8.ne _ (by omega)).trans ((u7.ne _ (by omega)).trans q3)) rfl (fun h9 u9 k3=>?_))))))
    have keep:∀ k,k≠h3.size→k≠h.size→k≠h1.size→k≠h2.size→h9[k]?=h'[k]?:=fun k a0 a1 a2 a3=>(u9.ne k a3).trans ((u8.ne k a2).trans ((u7.ne k a1).trans (u6.ne k a0)))
    exact KFb (v2:=Sl.nil) ((u9.ne _ (by omega)).trans ((u8.ne _ (by omega)).trans k1)) ((u9.ne _ (by omega)).trans k2) k3 (.inr ⟨hA.size,rfl,(keep _ (by omega) (by omega) (by omega) (by omega)).trans J.df,by omega,by omega,by omega⟩)
     (fun h' hz' hsame=>H h' Sl.nil ⟨by rw [hz',u9.size,u8.size,u7.size,u6.size]; have:=EA.size; omega,fun i hi=>(hsame i (fun d hd=>by have:=EA.size; simp at hd; omega)).trans ((keep i (by have:=E3.size; omega) (by omega) (by omega) (by omega)).trans ((J.same i (by have:=EA.size; omega) (by have:=E3.size; omega) (by have:=(E3.trans e4).size; omega)).trans (EA.same i hi)))⟩ (TkR.nil _) (Nat.le_refl _))
   ·rw [if_neg (of_decide_eq_false hge)] at H
    have q6:=(u6.ne h4.size (by omega)).trans c6
    refine VU (oneC q6) (stO q1 (KDF _) (fun h7 u7 k1=>stO ((u7.ne _ (by omega)).trans q2) rfl (fun h8 u8 k2=>stO ((u8.ne _ (by omega)).trans ((u7.ne _ (by omega)).trans q3)) rfl (fun h9 u9 k3=>?_))))
    have keep:∀ k,k≠h3.size→k≠h.size→k≠h1.size→k≠h2.size→h9[k]?=h'[k]?:=fun k a0 a1 a2 a3=>(u9.ne k a3).trans ((u8.ne k a2).trans ((u7.ne k a1).trans (u6.ne k a0)))
    exact KFb (v2:=r) ((u9.ne _ (by omega)).trans ((u8.ne _ (by omega)).trans k1)) ((u9.ne _ (by omega)).trans k2) k3 (.inr ⟨hA.size,rfl,(keep _ (by omega) (by omega) (by omega) (by omega)).trans J.df,by omega,by omega,by omega⟩)
     (fun h'' hz' hsame=>H h'' r ⟨by rw [hz',u9.size,u8.size,u7.size,u6.size]; have:=EA.size; omega,fun i hi=>(hsame i (fun d hd=>by have:=EA.size; simp at hd; omega)).trans ((keep i (by have:=E3.size; omega) (by omega) (by omega) (by omega)).trans ((J.same i (by have:=EA.size; omega) (by have:=E3.size; omega) (by have:=(E3.trans e4).size; omega)).trans (EA.same i hi)))⟩
      (G.same (fun k hk=>by have:=(G.lt hk).2; exact (hsame k (fun d hd=>by simp at hd; omega)).trans (keep k (by omega) (by omega) (by omega) (by omega)))).tkR G.cap)
  ·rintro h' ⟨t,ht,J⟩
   unfold lexP at H
   rw [if_neg (by omega),ht] at H
   dsimp only at H
   have hta:((t.a.toNat:Nat):Int)=t.a:=by
    obtain ⟨hi,hte⟩:=List.getElem?_eq_some_iff.1 ht
    have:=(KGA s t (hte ▸ List.getElem_mem hi)).1
    have:¬ t.a < 0:=fun hneg=>by
     unfold tokB at this
     rw [decide_eq_true hneg] at this
     simp at this
    omega
   rw [hta] at H
   exact iteT rfl (KFb (v2:=Sl.nil) J.g2 J.g3 J.g4 (.inr ⟨hA.size,rfl,J.df,by omega,by omega,by omega⟩)
    (fun h'' hz' hsame=>H h'' Sl.nil ⟨by rw [hz']; have:=J.size; have:=EA.size; omega,fun i hi=>(hsame i (fun d hd=>by have:=EA.size; simp at hd; omega)).trans (J.same i hi)⟩ (TkR.nil _) (Nat.le_refl _)))
end Gx
