/- Own proofs: what those Lean programs compute. No condition. -/
import Derived.Test.YthelieedlghccaaGreatDoorP0
import Derived.Test.YthelieedlghccaaGreatDoorP1
import Derived.Test.YthelieedlghccaaGreatDoorP2
import Derived.Test.YthelieedlghccaaGreatDoorP3
import Derived.Test.YthelieedlghccaaGreatDoorP4
import Derived.Test.YthelieedlghccaaGreatDoorP5
import Derived.Test.YthelieedlghccaaGreatDoorP6
import Derived.Test.YthelieedlghccaaGreatDoorP7
import Derived.Test.YthelieedlghccaaGreatDoorP8
import Derived.WalkKit
import Derived.ProofKit
import Derived.OpenShut
import Derived.ShutString
import Derived.ChangeOld
import Derived.Below
import Derived.SizedLaws
import Derived.Lib.SmallJoins
set_option linter.unusedVariables false
set_option linter.unusedSimpArgs false
namespace Gx
open Go Go.Proofs Go.Shelf Go.RowKit Go.Lib
set_option linter.unusedVariables false
set_option linter.unusedSimpArgs false
set_option maxRecDepth 100000
theorem KNh (S:Nat→Prop) (h:Heap):ZK S h (.mk 0 0 [] []) (ZR 0 0 [] Sl.nil):=KGu S h ⟨by decide,by decide⟩ ⟨by decide,by decide⟩ (by decide)
theorem KJT (s:List UInt8):∀ d,d≤8→KQE s d
 | 0,_=>fun i h Q b R H1 H2=>by
  unfold Zj
  refine ZW (fun h1 e1 hs1 g1=>iteT (by rfl) (Wo (R.ext e1) (fun h2 u2 X2=>?_)))
  have hbl:=R.lt
  refine KL1 (cs:=ZR 0 0 [] Sl.nil) ((u2.ne _ (by omega)).trans g1) rfl rfl (Z5 _ _ _ _) (fun h3 u3=>?_)
  have Ku:Kb b h1 h2:=Km.upd u2 rfl
  have Kh:Kb b h h2:=(Km.ext e1).trans Ku
  exact H2 i (.mk 0 0 [] []) h3 _ rfl (Kh.own u3 (Nat.le_refl _)) (X2.upd u3 (by omega)) (KNh _ _)
 | d+1,hd=>fun i h Q b R H1 H2=>by
  have IH:=KJT s d (by omega)
  unfold Zj
  refine ZW (fun h1 e1 hs1 g1=>iteF (decide_eq_false (by omega)) ?_)
  have R1:=R.ext e1
  have hbl:=R.lt
  have K1:Kb b h h1:=Km.ext e1
  have fin:∀ (v:Vl) (cs:Array Value) (h2:Heap),Kb b h1 h2→ZK (fun k=>h1.size≤k∧k < h2.size) h2 v cs→(∀ h3,Kb b h h3→h3[b]?=h2[b]?→ZK (HS h h3) h3 v cs→Q cs h3) →
    (M.need (cs.size=4)>>=fun _=>stG ⟨h.size,0,none⟩ cs>>=fun _=>ldG 4 ⟨h.size,0,none⟩>>=fun r=>(M.pure r:M (Array Value))).wp h2 Q:=by
   intro v cs h2 K2 V2 hk
   have g2:=K2.blk g1 (show ¬ h.size=b by omega)
   refine KL1 g2 rfl V2.size V2.to.one (fun h3 u3=>hk h3 ?_ (u3.ne b (by omega)) ?_)
   ·have:=K1.trans K2
    exact ⟨by rw [u3.size]; exact this.size,fun q hq hqb=>(u3.ne q (by omega)).trans (this.same q hq hqb)⟩
   ·have hu:=u3.size
    exact (V2.same (fun k hk=>u3.ne k (by omega))).mono (fun k hk=>⟨by omega,by omega⟩)
  have finG:∀ (v:Vl) (cs:Array Value) (j:Nat) (h2:Heap),pval s (d+1) i=.ok (v,j)→Kb b h1 h2→Rgd h2 b s j→ZK (fun k=>h1.size≤k∧k < h2.size) h2 v cs →
    (M.need (cs.size=4)>>=fun _=>stG ⟨h.size,0,none⟩ cs>>=fun _=>ldG 4 ⟨h.size,0,none⟩>>=fun r=>(M.pure r:M (Array Value))).wp h2 Q :=
   fun v cs j h2 hv K2 R2 V2=>fin v cs h2 K2 V2 (fun h3 K3 hb3 V3=>H1 v j h3 cs hv K3 ⟨by rw [hb3]; exact R2.blk,R2.le,R2.small⟩ V3)
  have finX:∀ (v:Vl) (cs:Array Value) (e:Nat) (h2:Heap),pval s (d+1) i=.error e→Kb b h1 h2→Rx h2 b s e→ZK (fun k=>h1.size≤k∧k < h2.size) h2 v cs →
    (M.need (cs.size=4)>>=fun _=>stG ⟨h.size,0,none⟩ cs>>=fun _=>ldG 4 ⟨h.size,0,none⟩>>=fun r=>(M.pure r:M (Array Value))).wp h2 Q:=by
   intro v cs e h2 hv K2 X2 V2
   refine fin v cs h2 K2 V2 (fun h3 K3 hb3 V3=>H2 e v h3 cs hv K3 ?_ V3)
   obtain ⟨q,q1,q2,q3⟩:=X2
   exact ⟨q,q1,q2,hb3.trans q3⟩
  have scal:∀ {k n:Int} {t:List UInt8} {S:Nat→Prop} {h2:Heap},I64 k→I64 n→t.length≤1099511627776→ZK S h2 (.mk k n t []) (ZR k n t Sl.nil):=fun hk hn ht=>KGu _ _ hk hn (by omega)
  have hle:=R.le
  have hsm:=R.small
  have i1:I64 1:=⟨by decide,by decide⟩
  have i0:I64 0:=⟨by decide,by decide⟩
  rw [pval] at finG finX
  clear fin
  refine KH (Y7 R1 ?_)
  refine or_b (c:=digB (KN s i)) (fun _ Q' hq=>KH (NH (KC hq))) ?_
  rw [u8_c (d:=45) (n:=45) rfl]
  refine KS (fun hc=>?_) (fun hc=>?_)
  ·have hc:KN s i=45∨digB (KN s i)=true:=by rwa [Bool.or_eq_true,decide_eq_true_iff] at hc
   rw [if_pos hc] at finG finX
   refine KH (KHt R1 (fun n j h2 hn K2 R2=>?_) (fun e h2 hn K2 X2=>?_))
   ·exact KNg (fun h3 e3=>finG (.mk 1 n [] []) _ j h3 (by rw [hn]) (K2.trans (Km.ext e3)) (R2.ext e3) (scal i1 (KEw hn hle).1 (by decide)))
   ·exact KNg (fun h3 e3=>finX (.mk 1 0 [] []) _ e h3 (by rw [hn]) (K2.trans (Km.ext e3)) (X2.ext e3) (scal i1 i0 (by decide)))
  have hc:¬ (KN s i=45∨digB (KN s i)=true):=fun hh=>by
   rw [← decide_eq_true_iff (p:=KN s i=45),← Bool.or_eq_true,hc] at hh
   cases hh
  rw [if_neg hc] at finG finX
  rw [u8_c (d:=39) (n:=39) rfl]
  refine KS (fun hc=>?_) (fun hc=>?_)
  ·rw [if_pos (of_decide_eq_true hc)] at finG finX
   refine KH (KQD R1 (fun t j h2 ht K2 R2=>?_) (fun e h2 ht K2 X2=>?_))
   ·exact KL2 (fun h3 e3=>finG (.mk 2 0 t []) _ j h3 (by rw [ht]) (K2.trans (Km.ext e3)) (R2.ext e3) (scal ⟨by decide,by decide⟩ i0 (by have:=(KGs ht).2.2; omega)))
   ·exact KL2 (fun h3 e3=>finX (.mk 2 0 [] []) _ e h3 (by rw [ht]) (K2.trans (Km.ext e3)) (X2.ext e3) (scal ⟨by decide,by decide⟩ i0 (by decide)))
  rw [if_neg (of_decide_eq_false hc)] at finG finX
  rw [u8_c (d:=116) (n:=116) rfl]
  refine KS (fun hc=>?_) (fun hc=>?_)
  ·rw [if_pos (of_decide_eq_true hc)] at finG finX
   refine KH (zt (lit:=[116,114,117,101]) R1 (by decide) (fun j h2 hj K2 R2=>?_) (fun e h2 hj K2 X2=>?_))
   ·exact KD0 (fun h3 e3=>finG (.mk 3 1 [] []) _ j h3 (by rw [hj]) (K2.trans (Km.ext e3)) (R2.ext e3) (scal ⟨by decide,by decide⟩ i1 (by decide)))
   ·exact KD0 (fun h3 e3=>finX (.mk 3 1 [] []) _ e h3 (by rw [hj]) (K2.trans (Km.ext e3)) (X2.ext e3) (scal ⟨by decide,by decide⟩ i1 (by decide)))
  rw [if_neg (of_decide_eq_false hc)] at finG finX
  rw [u8_c (d:=102) (n:=102) rfl]
  refine KS (fun hc=>?_) (fun hc=>?_)
  ·rw [if_pos (of_decide_eq_true hc)] at finG finX
   refine KH (zt (lit:=[102,97,108,115,101]) R1 (by decide) (fun j h2 hj K2 R2=>?_) (fun e h2 hj K2 X2=>?_))
   ·exact KD0 (fun h3 e3=>finG (.mk 3 0 [] []) _ j h3 (by rw [hj]) (K2.trans (Km.ext e3)) (R2.ext e3) (scal ⟨by decide,by decide⟩ i0 (by decide)))
   ·exact KD0 (fun h3 e3=>finX (.mk 3 0 [] []) _ e h3 (by rw [hj]) (K2.trans (Km.ext e3)) (X2.ext e3) (scal ⟨by decide,by decide⟩ i0 (by decide)))
  rw [if_neg (of_decide_eq_false hc)] at finG finX
  rw [u8_c (d:=118) (n:=118) rfl,u8_c (d:=101) (n:=101) rfl]
  refine or_b (c:=decide (KN s i=101)) (fun _ Q' hq=>KC hq) ?_
  refine KS (fun hc=>?_) (fun hc=>?_)
  ·have hc:KN s i=118∨KN s i=101:=by rwa [Bool.or_eq_true,decide_eq_true_iff,decide_eq_true_iff] at hc
   have hil:i < s.length:=J2 (by rcases hc with h | h <;> (rw [h]; decide))
   suffices body:∀ k:Int,I64 k→(if decide (KN s i=118)=true then k=6 else k=7) →
     (∀ (v:Vl) (cs:Array Value) (j:Nat) (h2:Heap),zr k s i=.ok (v,j)→Kb b h1 h2→Rgd h2 b s j→ZK (fun k=>h1.size≤k∧k < h2.size) h2 v cs→(M.need (cs.size=4)>>=fun _=>stG ⟨h.size,0,none⟩ cs>>=fun _=>ldG 4 ⟨h.size,0,none⟩>>=fun r=>(M.pure r:M (Array Value))).wp h2 Q) →
     (∀ (v:Vl) (cs:Array Value) (e:Nat) (h2:Heap),zr k s i=.error e→Kb b h1 h2→Rx h2 b s e→ZK (fun k=>h1.size≤k∧k < h2.size) h2 v cs→(M.need (cs.size=4)>>=fun _=>stG ⟨h.size,0,none⟩ cs>>=fun _=>ldG 4 ⟨h.size,0,none⟩>>=fun r=>(M.pure r:M (Array Value))).wp h2 Q)→_ by
    by_cases h:KN s i=118
    ·rw [if_pos h] at finG finX
     exact body 6 ⟨by decide,by decide⟩ (by rw [if_pos (decide_eq_true h)]) finG finX
    ·rw [if_neg h,if_pos (hc.resolve_left h)] at finG finX
     exact body 7 ⟨by decide,by decide⟩ (by rw [if_neg (by simpa using h)]) finG finX
   clear finG finX
   intro k ik hkk finG finX
   refine NG R1 hil (fun h2 u2 R2=>?_)
   have K2:Kb b h1 h2:=Km.upd u2 rfl
   have g2:h2[h.size]?=some (.cells vz KB (0,0)):=(u2.ne _ (by omega)).trans g1
   have tail:∀ (n:Int) (h3:Heap),Kb b h2 h3→I64 n→(∀ h4,Kb b h1 h4→h4[b]?=h3[b]?→h4[h3.size]?=some (.cells (ZR k n [] Sl.nil) KB (0,0))→h4[h.size]?=some (.cells vz KB (0,0))→h3.size < h4.size→(Ko (some ⟨b,0,none⟩) ⟨h.size,0,none⟩ ⟨h3.size,0,none⟩).wp h4 Q) →
     (mkB KB (#[.int .i64 0,.int .i64 0,.string ByteArray.empty,.slice none 0 0]:Array Value)>>=fun Xx54 =>
      M.need ((ZR 7 n [] Sl.nil).size=4)>>=fun _=>stG Xx54 (ZR 7 n [] Sl.nil)>>=fun _ =>
      M.ite (decide (KN s i=118)) (stV ((Xx54).add 0) (.int .i64 6)>>=fun _=>Ko (some ⟨b,0,none⟩) ⟨h.size,0,none⟩ Xx54) (Ko (some ⟨b,0,none⟩) ⟨h.size,0,none⟩ Xx54):M (Array Value)).wp h3 Q:=by
    intro n h3 K3 hn hk
    have hK3:=K3.size
    have hu2:=u2.size
    have hb3:b < h3.size:=by omega
    refine ZW (fun h4 e4 hs4 g4=>Zw rfl (stR (cs:=vz) (vs:=ZR 7 n [] Sl.nil) g4 (Nat.le_refl 4) (Z5 _ _ _ _) (fun h5 u5 g5=>?_)))
    rw [ZB (cs:=vz) (vs:=(ZR 7 n [] Sl.nil).toList) rfl] at g5
    have hu5:=u5.size
    have K5:Kb b h1 h5:=K2.trans (K3.trans ⟨by omega,fun q hq _=>(u5.ne q (by omega)).trans (e4.same q hq)⟩)
    have hb5:h5[b]?=h3[b]?:=(u5.ne b (by omega)).trans (e4.same b hb3)
    have hv5:h5[h.size]?=some (.cells vz KB (0,0)):=(u5.ne _ (by omega)).trans ((e4.same _ (by omega)).trans (K3.blk g2 (show ¬ h.size=b by omega)))
    by_cases hv:KN s i=118
    ·rw [decide_eq_true hv] at hkk ⊢
     rw [if_pos rfl] at hkk
     subst hkk
     refine iteT rfl (WS (x:=.int .i64 7) (by rw [Ki,KW g5]; rfl) (by rw [Ki]; exact KZ g5) rfl ?_)
     rw [Ki,Nat.zero_add]
     have u6:=Upd.hset h5 h3.size 0 (.int .i64 6)
     have g6:(hset h5 ⟨h3.size,0,none⟩ (.int .i64 6))[h3.size]?=some (.cells (ZR 6 n [] Sl.nil) KB (0,0)):=V1 g5
     exact hk _ ⟨by rw [u6.size]; exact K5.size,fun q hq hqb=>(u6.ne q (by have:=K2.size; omega)).trans (K5.same q hq hqb)⟩ ((u6.ne b (by omega)).trans hb5) g6 ((u6.ne _ (by omega)).trans hv5) (by rw [u6.size]; omega)
    ·rw [decide_eq_false hv] at hkk ⊢
     rw [if_neg (by decide)] at hkk
     subst hkk
     exact iteF rfl (hk h5 K5 hb5 g5 hv5 (by omega))
   have j1X:∀ (n:Int) (h3 h4:Heap) (e:Nat),zr k s i=.error e→I64 n→Rx h3 b s e→h1.size≤h3.size→Kb b h1 h4→h4[b]?=h3[b]?→h4[h3.size]?=some (.cells (ZR k n [] Sl.nil) KB (0,0))→h3.size < h4.size→(Ko (some ⟨b,0,none⟩) ⟨h.size,0,none⟩ ⟨h3.size,0,none⟩).wp h4 Q:=by
    intro n h3 h4 e he hn X3 hs3 K4 hb4 g4 hlt
    have X4:Rx h4 b s e:=by obtain ⟨q,q1,q2,q3⟩:=X3; exact ⟨q,q1,q2,hb4.trans q3⟩
    unfold Ko
    refine KH (KGv (c:=93) (r:=[]) X4 (by decide) (ldR g4 rfl ?_))
    exact finX (.mk k n [] []) _ e h4 he K4 X4 (scal ik hn (by decide))
   refine KH (zt (lit:=[91]) R2 (by decide) (fun j h3 hj K3 R3=>?_) (fun e h3 hj K3 X3=>?_))
   ·refine KH (KHt R3 (fun n j2 h4 hn K4 R4=>?_) (fun e h4 hn K4 X4=>?_))
    ·have in_:=(KEw hn R3.le).1
     refine tail n h4 (K3.trans K4) in_ (fun h5 K5 hb5 g5 hv5 hlt=>?_)
     have R5:Rgd h5 b s j2:=⟨by rw [hb5]; exact R4.blk,R4.le,R4.small⟩
     have hs4:h1.size≤h4.size:=by have:=(K2.trans (K3.trans K4)).size; exact this
     have hbl1:b < h1.size:=by omega
     unfold Ko
     refine KH (zt (lit:=[93]) R5 (by decide) (fun j3 h6 hj3 K6 R6=>?_) (fun e h6 hj3 K6 X6=>?_))
     ·refine ldR (K6.blk g5 (show ¬ h4.size=b by omega)) rfl ?_
      refine finG (.mk k n [] []) _ j3 h6 ?_ (K5.trans K6) R6 (scal ik in_ (by decide))
      unfold zr; rw [hj]; dsimp only; rw [hn]; dsimp only; rw [hj3]
     ·refine ldR (K6.blk g5 (show ¬ h4.size=b by omega)) rfl ?_
      refine finX (.mk k n [] []) _ e h6 ?_ (K5.trans K6) X6 (scal ik in_ (by decide))
      unfold zr; rw [hj]; dsimp only; rw [hn]; dsimp only; rw [hj3]
    ·refine tail 0 h4 (K3.trans K4) i0 (fun h5 K5 hb5 g5 hv5 hlt=>?_)
     exact j1X 0 h4 h5 e (by unfold zr; rw [hj]; dsimp only; rw [hn]) i0 X4 (by have:=(K2.trans (K3.trans K4)).size; exact this) K5 hb5 g5 hlt
   ·refine KH (KL0 X3 ?_)
    refine tail 0 h3 K3 i0 (fun h5 K5 hb5 g5 hv5 hlt=>?_)
    exact j1X 0 h3 h5 e (by unfold zr; rw [hj]) i0 X3 (by have:=(K2.trans K3).size; exact this) K5 hb5 g5 hlt
  have hc:¬ KN s i=118∧¬ KN s i=101:=by
   rw [Bool.or_eq_false_iff,decide_eq_false_iff_not,decide_eq_false_iff_not] at hc
   exact hc
  rw [if_neg hc.1,if_neg hc.2] at finG finX
  rw [u8_c (d:=91) (n:=91) rfl,u8_c (d:=123) (n:=123) rfl,show ((8 - (d+1):Nat):Int)=((7 - d:Nat):Int) by omega]
  refine KS (fun hc=>?_) (fun hc=>?_)
  ·have hcc:=of_decide_eq_true hc
   have hil:i < s.length:=J2 (by rw [hcc]; decide)
   rw [if_pos hcc] at finG finX
   refine NG R1 hil (fun h2 u2 R2=>?_)
   have hu2:=u2.size
   have Ku:Kb b h1 h2:=Km.upd u2 rfl
   refine KH (Wp (Wj _ _ _ _) (KL3 (two:=false) (en:=93) (by omega) IH (by decide) (by decide) R2 hil (fun l j h3 r hl K3 R3 V3=>?_) (fun e h3 hl K3 X3=>?_)))
   ·exact finG (.mk 4 0 [] l) _ j h3 (by rw [hl]) (Ku.trans K3) R3 (KDz ⟨by decide,by decide⟩ i0 (V3.same (fun _ _=>rfl) (fun k hk=>⟨by have:=hk.1; omega,hk.2⟩)))
   ·exact finX (.mk 4 0 [] []) _ e h3 (by rw [hl]) (Ku.trans K3) X3 (scal ⟨by decide,by decide⟩ i0 (by decide))
  rw [if_neg (of_decide_eq_false hc)] at finG finX
  refine KS (fun hc=>?_) (fun hc=>?_)
  ·have hcc:=of_decide_eq_true hc
   have hil:i < s.length:=J2 (by rw [hcc]; decide)
   rw [if_pos hcc] at finG finX
   refine NG R1 hil (fun h2 u2 R2=>?_)
   have hu2:=u2.size
   have Ku:Kb b h1 h2:=Km.upd u2 rfl
   refine KH (Wp (Wj _ _ _ _) (KL3 (two:=true) (en:=125) (by omega) IH (by decide) (by decide) R2 hil (fun l j h3 r hl K3 R3 V3=>?_) (fun e h3 hl K3 X3=>?_)))
   ·exact finG (.mk 5 0 [] l) _ j h3 (by rw [hl]) (Ku.trans K3) R3 (KDz ⟨by decide,by decide⟩ i0 (V3.same (fun _ _=>rfl) (fun k hk=>⟨by have:=hk.1; omega,hk.2⟩)))
   ·exact finX (.mk 5 0 [] []) _ e h3 (by rw [hl]) (Ku.trans K3) X3 (scal ⟨by decide,by decide⟩ i0 (by decide))
  rw [if_neg (of_decide_eq_false hc)] at finX
  exact Wo R1 (fun h2 u2 X2=>finX (.mk 0 0 [] []) (ZR 0 0 [] Sl.nil) i h2 rfl (Km.upd u2 rfl) X2 (KNh _ _))
theorem KIh {s:List UInt8} {h:Heap} {Q:Array Value × Int × Int→Heap→Prop} (hs:s.length≤1099511627776)
  (H:∀ h' c,Ext h h'→ZK (h.size≤·) h' (UJ s).1 c→Q (c,((UJ s).2.1:Int),(UJ s).2.2) h'):(VC (bs s)).wp h Q:=by
 unfold VC
 refine ZW (fun h1 e1 s1 g1=>KMZ ?_)
 have e2:=Ext.push h1 (.cells (#[.string (bs s),.int .i64 0,.int .i64 (-1)]:Array Value) ZX)
 have g2:(h1.push (.cells (#[.string (bs s),.int .i64 0,.int .i64 (-1)]:Array Value) ZX))[h1.size]?=some (.cells (#[.string (bs s),.int .i64 0,.int .i64 (-1)]:Array Value) ZX (0,0)):=Kf
 have s2:(h1.push (.cells (#[.string (bs s),.int .i64 0,.int .i64 (-1)]:Array Value) ZX)).size=h1.size+1:=Array.size_push ..
 generalize h1.push (.cells (#[.string (bs s),.int .i64 0,.int .i64 (-1)]:Array Value) ZX)=h2 at e2 g2 s2 ⊢
 have R2:Rgd h2 h1.size s 0:=⟨g2,Nat.zero_le _,hs⟩
 have g1':h2[h.size]?=some (.cells vz KB (0,0)):=e2.blk g1
 have endX:∀ (e:Nat) (h5:Heap) (p:Nat),UJ s=(vl0,e,22)→Kb h1.size h2 h5→Rx h5 h1.size s e→(JY ⟨h.size,0,none⟩ (some ⟨h1.size,0,none⟩) ⟨p,0,none⟩).wp h5 Q:=by
  intro e h5 p hP K5 X5
  rw [hP] at H
  have g5:=K5.blk g1' (show ¬ h.size=h1.size by omega)
  unfold JY
  refine ZD (KIg X5 (iteT (decide_eq_true (by omega)) (ZD (KIg X5 ?_))))
  refine Zw rfl (stR (cs:=vz) (vs:=ZR 0 0 [] Sl.nil) g5 (Nat.le_refl 4) (Z5 0 0 [] Sl.nil) (fun h6 u6 g6=>?_))
  rw [ZB (cs:=vz) (vs:=(ZR 0 0 [] Sl.nil).toList) rfl] at g6
  have X6:=X5.upd u6 (by omega)
  refine KE5 ?_ (ldR g6 rfl (KC (H h6 _ ?_ (qp _ _))))
  ·obtain ⟨q,_,_,q3⟩:=X6
   rw [Ki,KW q3]; rfl
  ·refine ⟨by have:=K5.size; have:=u6.size; omega,fun i hi=>?_⟩
   exact (u6.ne i (by omega)).trans ((K5.same i (by omega) (by omega)).trans ((e2.same i (by omega)).trans (e1.same i hi)))
 refine KH (KJT s 8 (by decide) 0 h2 _ h1.size R2 (fun v j h3 c hv K3 R3 V3=>?_) (fun e v h3 c hv K3 X3 V3=>?_))
 ·refine ZW (fun h4 e4 s4 g4=>Zw V3.size (stR g4 (by rw [V3.size]; exact Nat.le_refl 4) V3.to.one (fun h5 u5 g5=>?_)))
  rw [ZB (cs:=vz) (vs:=c.toList) (by rw [Array.length_toList,V3.size]; rfl),Array.toArray_toList] at g5
  have hK3:=K3.size
  have hu5:=u5.size
  have K5:Kb h1.size h2 h5:=K3.trans ⟨by omega,fun q hq _=>(u5.ne q (by omega)).trans (e4.same q hq)⟩
  have R5:Rgd h5 h1.size s j:=⟨(u5.ne _ (by omega)).trans (e4.blk R3.blk),R3.le,R3.small⟩
  have V5:ZK (HS h2 h3) h5 v c:=V3.same (fun k hk=>(u5.ne k (by have:=hk.2; omega)).trans (e4.same k hk.2))
  refine ZD (KKE R5 ?_)
  refine VI (c:=decide (j < s.length)) (fun _ Q' hq=>ZD (KEx R5 (KC ?_))) ?_
  ·rw [ZV,show decide ((j:Int) < (s.length:Int))=decide (j < s.length) from decide_eq_decide.2 (by omega)]
   exact hq
  refine KS (fun hc=>?_) (fun hc=>?_)
  ·have hj:j < s.length:=by simpa using hc
   have hP:UJ s=(vl0,j,22):=by unfold UJ KFW; rw [hv]; dsimp only; rw [if_pos hj]
   exact Wo R5 (fun h6 u6 X6=>endX j h6 _ hP (K5.trans (Km.upd u6 rfl)) X6)
  ·have hj:¬ j < s.length:=by simpa using hc
   have hR:KFW s=.ok v:=by unfold KFW; rw [hv]; dsimp only; rw [if_neg hj]
   unfold JY
   have g5':=K5.blk g1' (show ¬ h.size=h1.size by omega)
   refine ZD (KKE R5 (iteF rfl (ldR g5 V3.size (KH (KEc V5.to (fun h6 e6=>?_))))))
   have g6:=e6.blk g5
   have g6':=e6.blk g5'
   have E6:Ext h h6:=⟨by have:=e6.size; omega,fun i hi=>(e6.same i (by omega)).trans ((K5.same i (by omega) (by omega)).trans ((e2.same i (by omega)).trans (e1.same i hi)))⟩
   unfold Nh
   by_cases hm:mayV 8 v=true
   ·rw [if_pos hm]
    have hP:UJ s=(v,0,0):=by unfold UJ; rw [hR]; dsimp only; rw [if_pos hm]
    rw [hP] at H
    refine iteF rfl (ldR g6 V3.size (Zw V3.size (stR g6' (by rw [V3.size]; exact Nat.le_refl 4) V3.to.one (fun h7 u7 g7=>?_))))
    rw [ZB (cs:=vz) (vs:=c.toList) (by rw [Array.length_toList,V3.size]; rfl),Array.toArray_toList] at g7
    refine ldR g7 V3.size (KC (H h7 c (E6.upd u7 (Nat.le_refl _)) ?_))
    exact (V5.same (fun k hk=>(u7.ne k (by have:=hk.1; omega)).trans (e6.same k (by have:=hk.2; omega)))).mono (fun k hk=>by have:=hk.1; omega)
   ·rw [if_neg hm]
    have hP:UJ s=(vl0,0,20):=by unfold UJ; rw [hR]; dsimp only; rw [if_neg hm]
    rw [hP] at H
    refine iteT rfl (Zw rfl (stR (cs:=vz) (vs:=ZR 0 0 [] Sl.nil) g6' (Nat.le_refl 4) (Z5 0 0 [] Sl.nil) (fun h7 u7 g7=>?_)))
    rw [ZB (cs:=vz) (vs:=(ZR 0 0 [] Sl.nil).toList) rfl] at g7
    exact ldR g7 rfl (KC (H h7 _ (E6.upd u7 (Nat.le_refl _)) (qp _ _)))
 ·have hP:UJ s=(vl0,e,22):=by unfold UJ KFW; rw [hv]
  refine ZW (fun h4 e4 s4 g4=>Zw V3.size (stR g4 (by rw [V3.size]; exact Nat.le_refl 4) V3.to.one (fun h5 u5 g5=>?_)))
  have hK3:=K3.size
  have hu5:=u5.size
  have K5:Kb h1.size h2 h5:=K3.trans ⟨by omega,fun q hq _=>(u5.ne q (by omega)).trans (e4.same q hq)⟩
  have X5:Rx h5 h1.size s e:=(X3.ext e4).upd u5 (by omega)
  refine ZD (KIg X5 ?_)
  refine VI (c:=false) (fun hh=>absurd (of_decide_eq_true hh) (by omega)) ?_
  rw [Bool.and_false]
  exact iteF rfl (endX e h5 _ hP K5 X5)
end Gx
namespace Gx
open Go
set_option linter.unusedVariables false
set_option linter.unusedSimpArgs false
def KCr (s:List UInt8):Bool:=decide (s=[]∨s.getLast?=some 10)
theorem KKF {s:List UInt8} {h:Heap} {Q:Bool→Heap→Prop} (hs:s.length≤1099511627776) (H:Q (decide (s.getLast?=some 10)) h):(WL (bs s) (⟨#[10]⟩:ByteArray)).wp h Q:=by
 unfold WL
 refine KH ?_
 unfold Zz
 rw [ZV,show ((⟨#[10]⟩:ByteArray).size:Int)=1 from rfl]
 refine KH (KS (fun hc=>?_) (fun hc=>KC (KC (KC ?_))))
 ·have hc:1≤s.length:=by have:=of_decide_eq_true hc; omega
  rw [w64 (by omega) (by omega)]
  refine KLh (a:=s.length - 1) (b:=s.length) (by omega) rfl (by omega) (Nat.le_refl _) (KC (KC (KC ?_)))
  have hl:(s.drop (s.length - 1)).take (s.length - (s.length - 1))=[s[s.length - 1]]:=by
   rw [show s.length - (s.length - 1)=1 by omega,List.drop_eq_getElem_cons (by omega)]
   rfl
  rw [hl,show (⟨#[10]⟩:ByteArray)=bs [10] from rfl,zm]
  rw [List.getLast?_eq_getElem?,List.getElem?_eq_getElem (by omega)] at H
  rw [show decide ([s[s.length - 1]]=[(10:UInt8)])=decide (some s[s.length - 1]=some (10:UInt8)) from decide_eq_decide.2 ⟨fun h=>congrArg some (List.cons.inj h).1,fun h=>congrArg (fun x=>[x]) (Option.some.inj h)⟩]
  exact H
 ·have hc:s=[]:=List.length_eq_zero_iff.1 (by have:=of_decide_eq_false hc; omega)
  subst hc
  exact H
def KNi (c3 c4 c5 c6:Addr):(Int × ByteArray)→M Nat:=fun x=>match x with
 | (x11,x12)=>do
  let x13←ldV c3
  let x15←Vz Go.Proofs.Tryz.prog (fun r:Bool=>.bool r) x13 [.string x12]
  M.ite (!x15) (do
   stV c4 (.int .i64 x11)
   stV c5 (.int .i64 230)
   M.pure 1
   ) (do
   stV c6 (.int .i64 x11)
   M.pure 0
   )
structure RdJ (h0:Heap) (one:Value) (n:Nat) (h:Heap):Prop where
 size:h0.size+7≤h.size
 c0:h[h0.size]?=some (.cells #[one] KKu (0,0))
 c1:∃ v,h[h0.size+1]?=some (.cells #[v] VU (0,0))
 c2:∃ v,h[h0.size+2]?=some (.cells #[v] UO (0,0))
 c3:h[h0.size+3]?=some (.cells #[.int .i64 (n:Int)] VU (0,0))
 df:h[h0.size+5]?=some (.deferred (some []))
structure RdE (h0:Heap) (n:Nat) (h:Heap):Prop where
 size:h0.size+7≤h.size
 c1:h[h0.size+1]?=some (.cells #[.int .i64 (n:Int)] VU (0,0))
 c2:h[h0.size+2]?=some (.cells #[.int .i64 230] UO (0,0))
 df:h[h0.size+5]?=some (.deferred (some []))
theorem KIi {s:List UInt8} {one:Value} {ok:Nat→Bool} {I:Nat→Heap→Prop} {E:Heap→Prop} {h:Heap} {Q:Int × Int→Heap→Prop} (hs:s.length≤1048576) (hone1:Gx.one one=true)
  (hI:∀ i h1 h2 k,I i h1→Upd k h1 h2→h.size≤k→k < h.size+7→I i h2) (hE:∀ h1 h2 k,E h1→Upd k h1 h2→h.size≤k→k < h.size+7→E h2)
  (h0:∀ h1,Ext h h1→h1.size=h.size+7→I 0 h1)
  (hone:∀ i (hi:i < (Kp s).length) h1,h.size+7≤h1.size→I i h1→(Vz Go.Proofs.Tryz.prog (fun r:Bool=>.bool r) one [.string (bs (Kp s)[i])]).wp h1 (fun r h2=>h1.size≤h2.size∧(∀ k,h.size≤k→k < h.size+7→h2[k]?=h1[k]?)∧r=ok i∧(ok i=true→I (i+1) h2)∧(ok i=false→E h2)))
  (H0:(∀ i,i < (Kp s).length→ok i=true)→∀ h',h.size+7≤h'.size→I (Kp s).length h'→Q (if KCr s=true then (0,0) else (((Kp s).length:Int),230)) h')
  (H1:∀ i,i < (Kp s).length→(∀ k,k < i→ok k=true)→ok i=false→∀ h',h.size+7≤h'.size→E h'→Q (((i+1:Nat):Int),230) h'):(Yx (bs s) one).wp h Q:=by
 unfold Yx
 have hll:=qM _ s (Nat.le_refl _)
 rw [show Value.cells one=#[one] by cases one <;> first | rfl | cases hone1]
 refine ZW (fun h1 e1 s1 g1=>ZW (fun h2 e2 s2 g2=>ZW (fun h3 e3 s3 g3=>ZW (fun h4 e4 s4 g4=>?_))))
 rw [show h1.size=h.size+1 from s1] at g2 ⊢
 rw [show h2.size=h.size+2 by omega] at g3 ⊢
 rw [show h3.size=h.size+3 by omega] at g4 ⊢
 refine WS (K0 g4) (KZ g4) rfl ?_
 have u5:=Upd.hset h4 (h.size+3) 0 (.int .i64 0)
 have g5:(hset h4 ⟨h.size+3,0,none⟩ (.int .i64 0))[h.size+3]?=some (.cells #[.int .i64 0] VU (0,0)):=qu g4
 generalize hset h4 ⟨h.size+3,0,none⟩ (.int .i64 0)=h5 at u5 g5 ⊢
 have hu5:=u5.size
 have g1':h5[h.size]?=some (.cells #[one] KKu (0,0)):=(u5.ne _ (by omega)).trans ((e2.trans (e3.trans e4)).blk g1)
 have g2':h5[h.size+1]?=some (.cells #[.int .i64 0] VU (0,0)):=(u5.ne _ (by omega)).trans ((e3.trans e4).blk g2)
 have g3':h5[h.size+2]?=some (.cells #[.int .i64 0] UO (0,0)):=(u5.ne _ (by omega)).trans (e4.blk g3)
 unfold zg
 refine Jd (ZW (fun hA e6 s6 g6=>JT ?_))
 have hz6:hA.size=h.size+5:=by omega
 rw [show h5.size=h.size+4 by omega] at g6 ⊢
 have EA:Ext h hA:=((e1.trans (e2.trans (e3.trans e4))).upd u5 (by omega)).trans e6
 have hkeep:∀ k,k < h.size+4→hA[k]?=h5[k]?:=fun k hk=>e6.same k (by omega)
 have fin:∀ (h7:Heap) (P:Int × Int→Prop) (c:Nat × Nat) (v1 v2:Int),h7[h.size+1]?=some (.cells #[.int .i64 v1] VU (0,0))→h7[h.size+2]?=some (.cells #[.int .i64 v2] UO (0,0))→h7[h.size+5]?=some (.deferred (some []))→c.2=h.size+5 →
   (∀ h8,Upd (h.size+5) h7 h8→Q (v1,v2) h8)→(shut (c.2::[])>>=fun _=>ldI .i64 ⟨h.size+1,0,none⟩>>=fun r4=>ldI .i64 ⟨h.size+2,0,none⟩>>=fun r5=>(M.pure (r4,r5):M (Int × Int))).wp h7 Q:=by
  intro h7 P c v1 v2 q1 q2 q5 hc hq
  rw [hc]
  have u8:=Upd.set_ h7 (h.size+5) (.deferred none)
  refine ⟨q5,?_⟩
  exact JF (K0 ((u8.ne _ (by omega)).trans q1)) (JF (K0 ((u8.ne _ (by omega)).trans q2)) (KC (hq _ u8)))
 have hupd:∀ {k:Nat} {h1 h2:Heap} {n:Nat},RdJ h one n h1→Upd k h1 h2→(k=h.size+4∨k=h.size+6)→RdJ h one n h2:=by
  intro k h1 h2 n J u hk
  obtain ⟨v1,c1⟩:=J.c1
  obtain ⟨v2,c2⟩:=J.c2
  exact ⟨by rw [u.size]; exact J.size,(u.ne _ (by omega)).trans J.c0,⟨v1,(u.ne _ (by omega)).trans c1⟩,⟨v2,(u.ne _ (by omega)).trans c2⟩,(u.ne _ (by omega)).trans J.c3,(u.ne _ (by omega)).trans J.df⟩
 have hupE:∀ {k:Nat} {h1 h2:Heap} {n:Nat},RdE h n h1→Upd k h1 h2→(k=h.size+4∨k=h.size+6)→RdE h n h2:=by
  intro k h1 h2 n J u hk
  exact ⟨by rw [u.size]; exact J.size,(u.ne _ (by omega)).trans J.c1,(u.ne _ (by omega)).trans J.c2,(u.ne _ (by omega)).trans J.df⟩
 refine KH (KQ0 (Yb:=KNi ⟨h.size,0,none⟩ ⟨h.size+1,0,none⟩ ⟨h.size+2,0,none⟩ ⟨h.size+3,0,none⟩) (fun l x=>rfl) (c:=.ret) rfl (fun l hh=>by cases hh) (xs:=lnP 1 (Kp s)) (b:=h.size+4)
  (fun i h7=>(∀ k,k < i→ok k=true)∧RdJ h one i h7∧I i h7)
  (fun h7=>∃ i,i < (Kp s).length∧(∀ k,k < i→ok k=true)∧ok i=false∧RdE h (i+1) h7∧E h7) ?_ ?_ ?_ g6 (KJ6 (by omega)) ?_ ?_ ?_ ?_)
 ·rw [hz6]
  exact fun i h7 h8 hj u=>⟨hj.1,hupd hj.2.1 u (.inr rfl),hI _ _ _ _ hj.2.2 u (by omega) (by omega)⟩
 ·rw [hz6]
  rintro h7 h8 ⟨i,a1,a2,a3,a4,a5⟩ u
  exact ⟨i,a1,a2,a3,hupE a4 u (.inr rfl),hE _ _ _ a5 u (by omega) (by omega)⟩
 ·exact fun i h7 h8 hj u=>⟨hj.1,hupd hj.2.1 u (.inl rfl),hI _ _ _ _ hj.2.2 u (by omega) (by omega)⟩
 ·intro r
  have e7:Ext hA ((hA.push (.deferred (some []))).push (XB r .ready none)):=(Ext.push _ _).pushed _
  have hk:∀ k,k < h.size+4→((hA.push (.deferred (some []))).push (XB r .ready none))[k]?=h5[k]?:=fun k hk=>(e7.same k (by omega)).trans (hkeep k hk)
  refine ⟨fun k hk=>absurd hk (Nat.not_lt_zero _),⟨by simp; omega,(hk _ (by omega)).trans g1',⟨_,(hk _ (by omega)).trans g2'⟩,⟨_,(hk _ (by omega)).trans g3'⟩,(hk _ (by omega)).trans g5,?_⟩,h0 _ (EA.trans e7) (by simp; omega)⟩
  rw [Wr (by simp; omega),← hz6]; exact Kf
 ·rintro i hi h7 o ⟨hok,J,hIi⟩ ho
  rw [KBg] at hi
  rw [KLk (by rw [KBg]; exact hi)]
  unfold KNi
  dsimp only
  refine ⟨one,K0 J.c0,KH ((Vz _ _ _ _).mono ?_ (hone i hi h7 J.size hIi))⟩
  rintro r h8 ⟨hs8,hk8,rfl,ht,hf⟩
  have k8:∀ {k:Nat} {o:Obj},h7[k]?=some o→h.size≤k→k < h.size+7→h8[k]?=some o:=fun hq ha hb=>(hk8 _ ha hb).trans hq
  obtain ⟨v1,c1⟩:=J.c1
  obtain ⟨v2,c2⟩:=J.c2
  have hz:=J.size
  have hz6':h.size+6=hA.size+1:=by omega
  cases hoi:ok i with
  | true =>
   refine iteF rfl ?_
   have c3:=k8 J.c3 (by omega) (by omega)
   refine WS (K0 c3) (KZ c3) rfl (KC ?_)
   have u9:=Upd.hset h8 (h.size+3) 0 (.int .i64 ((1+i:Nat):Int))
   have g9:=qu (u:=.int .i64 ((1+i:Nat):Int)) c3
   rw [show 1+i=i+1 by omega] at u9 g9 ⊢
   refine ⟨(u9.ne _ (by omega)).trans (k8 ho (by omega) (by omega)),(u9.ne _ (by omega)).trans (hk8 _ (by omega) (by omega)),.inl ⟨rfl,fun k hk=>?_,⟨by rw [u9.size]; omega,(u9.ne _ (by omega)).trans (k8 J.c0 (by omega) (by omega)),⟨v1,(u9.ne _ (by omega)).trans (k8 c1 (by omega) (by omega))⟩,⟨v2,(u9.ne _ (by omega)).trans (k8 c2 (by omega) (by omega))⟩,g9,(u9.ne _ (by omega)).trans (k8 J.df (by omega) (by omega))⟩,hI _ _ _ _ (ht hoi) u9 (by omega) (by omega)⟩⟩
   rcases Nat.lt_or_ge k i with h' | h'
   ·exact hok k h'
   ·have:k=i:=by omega
    subst this; exact hoi
  | false =>
   refine iteT rfl ?_
   have c1':=k8 c1 (by omega) (by omega)
   refine WS (K0 c1') (KZ c1') rfl ?_
   have u9:=Upd.hset h8 (h.size+1) 0 (.int .i64 ((1+i:Nat):Int))
   have g9:=qu (u:=.int .i64 ((1+i:Nat):Int)) c1'
   generalize hset h8 ⟨h.size+1,0,none⟩ (.int .i64 ((1+i:Nat):Int))=h9 at u9 g9 ⊢
   have c2':h9[h.size+2]?=some (.cells #[v2] UO (0,0)):=(u9.ne _ (by omega)).trans (k8 c2 (by omega) (by omega))
   refine WS (K0 c2') (KZ c2') rfl (KC ?_)
   have uA:=Upd.hset h9 (h.size+2) 0 (.int .i64 230)
   have gA:=qu (u:=.int .i64 230) c2'
   rw [show 1+i=i+1 by omega] at g9
   have hz9:=u9.size
   refine ⟨(uA.ne _ (by omega)).trans ((u9.ne _ (by omega)).trans (k8 ho (by omega) (by omega))),(uA.ne _ (by omega)).trans ((u9.ne _ (by omega)).trans (hk8 _ (by omega) (by omega))),.inr ⟨rfl,i,hi,hok,hoi,⟨by rw [uA.size]; omega,(uA.ne _ (by omega)).trans g9,gA,(uA.ne _ (by omega)).trans ((u9.ne _ (by omega)).trans (k8 J.df (by omega) (by omega)))⟩,?_⟩⟩
   exact hE _ _ _ (hE _ _ _ (hf hoi) u9 (by omega) (by omega)) uA (by omega) (by omega)
 ·rintro h7 ⟨hok,J,hIn⟩
  rw [KBg] at hok J hIn
  refine iteF rfl ?_
  obtain ⟨v1,c1⟩:=J.c1
  obtain ⟨v2,c2⟩:=J.c2
  have hz:=J.size
  rw [show (ByteArray.empty:ByteArray)=bs [] from rfl,zm]
  refine VI (c:=!decide (s.getLast?=some 10)) (fun _ Q' hq=>KH (KKF (by omega) (KC hq))) ?_
  rw [show (!decide (s=[]) && !decide (s.getLast?=some 10))=!KCr s by unfold KCr; rw [Bool.decide_or,Bool.not_or]]
  have hstep:∀ (x1 x2:Int),(∀ h8,h.size+7≤h8.size→I (Kp s).length h8→Q (x1,x2) h8)→(stV ⟨h.size+1,0,none⟩ (.int .i64 x1)>>=fun _=>stV ⟨h.size+2,0,none⟩ (.int .i64 x2)>>=fun _=>shut (((0:Nat),hA.size).2::[])>>=fun _=>ldI .i64 ⟨h.size+1,0,none⟩>>=fun r4=>ldI .i64 ⟨h.size+2,0,none⟩>>=fun r5=>(M.pure (r4,r5):M (Int × Int))).wp h7 Q:=by
   intro x1 x2 hq
   refine WS (K0 c1) (KZ c1) rfl ?_
   have u8:=Upd.hset h7 (h.size+1) 0 (.int .i64 x1)
   have g8:=qu (u:=.int .i64 x1) c1
   generalize hset h7 ⟨h.size+1,0,none⟩ (.int .i64 x1)=h8 at u8 g8 ⊢
   have c2':h8[h.size+2]?=some (.cells #[v2] UO (0,0)):=(u8.ne _ (by omega)).trans c2
   refine WS (K0 c2') (KZ c2') rfl ?_
   have u9:=Upd.hset h8 (h.size+2) 0 (.int .i64 x2)
   have g9:=qu (u:=.int .i64 x2) c2'
   generalize hset h8 ⟨h.size+2,0,none⟩ (.int .i64 x2)=h9 at u9 g9 ⊢
   have hz8:=u8.size
   have hz9:=u9.size
   refine fin h9 (fun _=>True) (0,hA.size) x1 x2 ((u9.ne _ (by omega)).trans g8) g9 ((u9.ne _ (by omega)).trans ((u8.ne _ (by omega)).trans J.df)) hz6 (fun hB uB=>hq hB (by rw [uB.size]; omega) ?_)
   exact hI _ _ _ _ (hI _ _ _ _ (hI _ _ _ _ hIn u8 (by omega) (by omega)) u9 (by omega) (by omega)) uB (by omega) (by omega)
  refine KS (fun hb=>?_) (fun hb=>?_)
  ·have hb:KCr s=false:=by simpa using hb
   rw [hb] at H0
   refine JF (K0 J.c3) ?_
   exact hstep _ _ (fun h8 hz8 hI8=>H0 hok h8 hz8 hI8)
  ·have hb:KCr s=true:=by simpa using hb
   rw [hb] at H0
   exact hstep _ _ (fun h8 hz8 hI8=>H0 hok h8 hz8 hI8)
 ·rintro h7 ⟨i,hi,hok,hoi,J,hEi⟩
  refine iteT rfl ?_
  have hz:=J.size
  refine fin h7 (fun _=>True) (1,hA.size) _ _ J.c1 J.c2 J.df hz6 (fun h8 u8=>H1 i hi hok hoi h8 (by rw [u8.size]; omega) (hE _ _ _ hEi u8 (by omega) (by omega)))
end Gx
namespace Gx
open Go
set_option linter.unusedVariables false
set_option linter.unusedSimpArgs false
theorem ErrV.lt5 {h:Heap} (he:ErrV h):5 < h.size:=by
 obtain ⟨t,p,hc⟩:=he
 exact z7 hc
theorem KOs:∀ s:List UInt8,(cutL s).1.length≤s.length∧(cutL s).2.length≤s.length:=fun s=>by
 obtain ⟨_,h2⟩:=KIX s
 by_cases hm:(10:UInt8) ∈ s
 ·rw [if_pos hm] at h2
  have:=congrArg List.length h2
  rw [List.length_append,List.length_cons] at this
  omega
 ·rw [if_neg hm] at h2
  rw [h2]
  simp
theorem KJU (s:List UInt8):∀ i (hi:i < (Kp s).length),(Kp s)[i].length≤s.length:=by
 have key:∀ (m:Nat) (s:List UInt8),s.length≤m→∀ t ∈ Kp s,t.length≤s.length:=by
  intro m
  induction m with
  | zero =>
   intro s hs t ht
   have:s=[]:=List.length_eq_zero_iff.1 (by omega)
   subst this
   rw [WO] at ht
   cases ht
  | succ m ih =>
   intro s hs t ht
   by_cases h:s=[]
   ·subst h; rw [WO] at ht; cases ht
   ·rw [Wy h] at ht
    have h1:=KOs s
    have h2:=KCq s h
    rcases List.mem_cons.1 ht with rfl | ht
    ·exact h1.1
    ·have:=ih _ (by omega) t ht
     omega
 exact fun i hi=>key _ s (Nat.le_refl _) _ (List.getElem_mem hi)
theorem KL4 {lo:Nat} {h:Heap} {r:Sl} {css:List (Array Value)} {i:Nat} {c:Array Value} (G:Gw lo h r 4 (Ug css)) (hw:W4 css) (hi:i < css.length) (hc:c.size=4) (h1:∀ u ∈ c.toList,one u=true) :
  ∃ b,r.base=some ⟨b,0,none⟩∧Sl.on r b∧∀ {β:Type} {Q:β→Heap→Prop} {f:Unit→M β},(∀ h',Upd b h h'→Gw lo h' r 4 (Ug (css.set i c))→(f ()).wp h' Q)→(stG ((⟨b,0,none⟩:Addr).add (i * 4)) c>>=f).wp h Q:=by
 obtain ⟨b,hb,hon,_⟩:=G.row4 hw hi
 refine ⟨b,hb,hon,fun {β Q f} H=>?_⟩
 obtain ⟨a,⟨_,_,b',hb',ha⟩,_,H2⟩:=KJA (f:=f) (Q:=Q) G hw hi (t:=(i:Int)) rfl hc h1 (fun b2 h' hb2 u G'=>by
  rw [hb] at hb2
  cases hb2
  exact H h' u G')
 rw [hb] at hb'
 cases hb'
 rw [ha,show (i:Int).toNat=i from rfl] at H2
 exact H2
abbrev OwnS (lo:Nat) (h:Heap) (r:Sl):Nat→Prop:=fun k=>lo≤k∧k < h.size∧¬ Sl.on r k
theorem KNG {β:Type} {lo p:Nat} {tp:TypeId} {h:Heap} {Q:β→Heap→Prop} {r:Sl} {css:List (Array Value)} {l:List Vl} {v:Vl} {c:Array Value} {chkp:Heap→Prop} {f:Unit→M β} (G:VGw lo (OwnS lo h r) h r css l) (hv:ZK (OwnS lo h r) h v c) (hlo:lo≤h.size) (hp:h[p]?=some (.cells #[r.v] tp (0,0))) (hpl:p < lo) (hm:l.length≤1099511627776)
  (hck:∀ h',Ext h h'→chkp h')
  (H:∀ h' r' css',VGw lo (OwnS lo h' r') h' r' css' (l++[v])→h.size≤h'.size→(∀ k,k < lo→k≠p→h'[k]?=h[k]?)→h'[p]?=some (.cells #[r'.v] tp (0,0))→(f ()).wp h' Q) :
  (NI 4 1 (#[.int .i64 0,.int .i64 0,.string ByteArray.empty,.slice none 0 0]:Array Value) [(0,.agg (#[.int .i64 0,.int .i64 0,.string ByteArray.empty,.slice none 0 0]:Array Value))]>>=fun y=>bdL KB 1 y>>=fun x16=>chk chkp>>=fun _ =>
   apL KB 4 56 (#[.int .i64 0,.int .i64 0,.string ByteArray.empty,.slice none 0 0]:Array Value) r x16>>=fun x17=>ixL x17 (r.len:Int) 4>>=fun x18 =>
   (M.both (M.need (c.size=4)>>=fun _=>stG x18 c>>=fun _=>stV ⟨p,0,none⟩ ((x17:Sl).v)>>=fun _=>M.pure ()) (stV ⟨p,0,none⟩ ((x17:Sl).v)>>=fun _=>M.need (c.size=4)>>=fun _=>stG x18 c>>=fun _=>M.pure ()))>>=f).wp h Q:=by
 have hrl:=G.gw.len4 G.w4
 have hgl:=G.len
 have hps:=UB hp
 refine KGB rfl (N3 ?_)
 have e1:=Ext.push h (.cells vz KB)
 have g1:(h.push (.cells vz KB))[h.size]?=some (.cells vz KB (0,0)):=Kf
 generalize h.push (.cells vz KB)=h1 at e1 g1 ⊢
 have hs1:=e1.size
 refine KE5 (hck h1 e1) ?_
 have G1:VGw lo (OwnS lo h r) h1 r css l:=G.same (fun k hk=>e1.same k (G.gw.lt hk).1) (fun k hk=>e1.same k hk.2.1)
 refine KH (KDt (l':=[vl0]) (css':=[vz]) G1 (by omega) (fun k hk=>⟨by have:=hk.2.1; omega,hk.2.2⟩) (fun x hx=>by simp at hx; subst hx; exact ⟨rfl,(Z5 0 0 [] Sl.nil)⟩) rfl rfl (.inr ⟨_,rfl,fun j u hj=>?_⟩) (fun j h1 h2=>?_) (by simp only [List.length_cons,List.length_nil]; omega) (fun h2 r2 G2 hs2 same2 on2=>?_))
 ·rw [Ki,Nat.zero_add,KW g1]
  have:Ug [vz]=(vz:Array Value).toList:=by simp [Ug]
  rw [this,Array.getElem?_toList] at hj
  exact hj
 ·have hj0:j=0:=by simp only [List.length_cons,List.length_nil] at h1; omega
  subst hj0
  exact qp _ _
 ·have hlen2:l.length < (css++[vz]).length:=by rw [List.length_append,hgl]; simp
  have hr2l:=G2.gw.len4 G2.w4
  obtain ⟨b,hb,hon,hst⟩:=KL4 (c:=c) G2.gw G2.w4 hlen2 hv.size hv.to.one
  have hr2n:l.length < r2.len:=by rw [hr2l]; exact hlen2
  refine GX (by omega) (by omega) hb ?_
  rw [show ((r.len:Nat):Int).toNat * 4=l.length * 4 by rw [hrl,hgl]; rfl]
  have hbp:¬ p=b:=fun e=>by subst e; have:=(G2.gw.lt hon).2; omega
  have hp2:h2[p]?=some (.cells #[r.v] tp (0,0)):=(same2 p (by omega) (fun ho=>by have:=(G.gw.lt ho).2; omega)).trans (e1.blk hp)
  have hsetE:(css++[vz]).set l.length c=css++[c]:=by rw [← hgl,List.set_append_right _ _ (Nat.le_refl _),Nat.sub_self]; rfl
  have hbl:b < h2.size∧lo≤b:=G2.gw.lt hon
  have fin:∀ h4:Heap,h4.size=h2.size→(∀ k,k≠b→k≠p→h4[k]?=h2[k]?)→h4[p]?=some (.cells #[r2.v] tp (0,0))→Gw lo h4 r2 4 (Ug (css++[c]))→(f ()).wp h4 Q:=by
   intro h4 hs4 same4 hp4 G4
   refine H h4 r2 (css++[c]) ⟨G4,G.w4.append (fun x hx=>by simp at hx; subst hx; exact ⟨hv.size,hv.to.one⟩),by simp [hgl],fun j j1 j2=>?_⟩ (by omega) (fun k hk hkp=>?_) hp4
   ·have keep:∀ k,OwnS lo h r k→h4[k]?=h[k]?:=fun k hk=>by
     have hnb:k≠b:=fun e=>by
      subst e
      rcases on2 k hon with h | h
      ·exact hk.2.2 h
      ·have:=hk.2.1; omega
     rw [same4 k hnb (by have:=hk.1; omega),same2 k (by have:=hk.2.1; omega) hk.2.2,e1.same k hk.2.1]
    have up:∀ k,OwnS lo h r k→OwnS lo h4 r2 k:=fun k hk=>⟨hk.1,by have:=hk.2.1; omega,fun ho=>(on2 k ho).elim hk.2.2 (fun h=>by have:=hk.2.1; omega)⟩
    by_cases hj:j < l.length
    ·rw [List.getElem_append_left hj,List.getElem_append_left (by omega)]
     exact ((G.rep j hj (by omega)).same keep).mono up
    ·have hj':j=l.length:=by simp at j1; omega
     subst hj'
     rw [List.getElem_append_right (Nat.le_refl _),List.getElem_append_right (by omega)]
     have h0:l.length - css.length=0:=by omega
     simp only [Nat.sub_self,h0,List.getElem_cons_zero]
     exact (hv.same keep).mono up
   ·rw [same4 k (fun e=>by subst e; have:=hbl.2; omega) hkp,same2 k (by omega) (fun ho=>by have:=(G.gw.lt ho).2; omega),e1.same k (by omega)]
  refine KPX ?_ ?_
  ·refine Jd (Zw hv.size (Jd (hst (fun h3 u3 G3=>Jd ?_))))
   rw [hsetE] at G3
   have hp3:h3[p]?=some (.cells #[r.v] tp (0,0)):=(u3.ne p hbp).trans hp2
   refine WS (K0 hp3) (KZ hp3) (KDi _) (JT ?_)
   have u4:=Upd.hset h3 p 0 r2.v
   exact fin _ (by rw [u4.size,u3.size]) (fun k hkb hkp=>(u4.ne k hkp).trans (u3.ne k hkb)) (qu hp3) (G3.same (fun k hk=>u4.ne k (fun e=>by have:=(G3.lt hk).2; omega)))
  ·refine Jd (WS (K0 hp2) (KZ hp2) (KDi _) (Jd (Zw hv.size (Jd ?_))))
   have u3:=Upd.hset h2 p 0 r2.v
   have hp3:=qu (u:=r2.v) hp2
   generalize hset h2 ⟨p,0,none⟩ r2.v=h3 at u3 hp3 ⊢
   have G3:Gw lo h3 r2 4 (Ug (css++[vz])):=G2.gw.same (fun k hk=>u3.ne k (fun e=>by have:=(G2.gw.lt hk).2; omega))
   obtain ⟨b3,hb3,_,hst3⟩:=KL4 (c:=c) G3 G2.w4 hlen2 hv.size hv.to.one
   rw [hb] at hb3
   cases hb3
   refine hst3 (fun h4 u4 G4=>JT ?_)
   rw [hsetE] at G4
   exact fin _ (by rw [u4.size,u3.size]) (fun k hkb hkp=>(u4.ne k hkb).trans (u3.ne k hkp)) ((u4.ne p hbp).trans hp3) G4
theorem KIj {t:List UInt8} {p lo:Nat} {h:Heap} {Q:Bool→Heap→Prop} {r:Sl} {css:List (Array Value)} {l:List Vl} (ht:t.length≤1099511627776) (he:ErrV h) (hp:h[p]?=some (.cells #[r.v] Z6 (0,0))) (G:VGw lo (OwnS lo h r) h r css l) (hpl:p < lo) (hlo:lo≤h.size) (hm:l.length≤1099511627776)
  (H:∀ h' r' css',h.size≤h'.size→(∀ k,k < lo→k≠p→h'[k]?=h[k]?)→h'[p]?=some (.cells #[r'.v] Z6 (0,0))→VGw lo (OwnS lo h' r') h' r' css' (l++[(UJ t).1])→Q (decide ((UJ t).2.2=0)) h'):(Vq (bs t) ⟨p,0,none⟩).wp h Q:=by
 unfold Vq
 refine KH (KIe ht he (fun h2 c e2 V2=>?_))
 refine ZW (fun h3 e3 s3 g3=>Zw V2.size (stR g3 (by rw [V2.size]; exact Nat.le_refl 4) V2.to.one (fun h4 u4 g4=>?_)))
 rw [ZB (cs:=vz) (vs:=c.toList) (by rw [Array.length_toList,V2.size]; rfl),Array.toArray_toList] at g4
 have e4:Ext h h4:=(e2.trans e3).upd u4 e2.size
 have hs2:=e2.size
 have hu4:=u4.size
 have hp4:=e4.blk hp
 refine Jz (K0 hp4) (ldR g4 V2.size ?_)
 have G4:VGw lo (OwnS lo h4 r) h4 r css l:=(G.same (fun k hk=>e4.same k (G.gw.lt hk).1) (fun k hk=>e4.same k hk.2.1)).mono (fun k hk=>⟨hk.1,by have:=hk.2.1; omega,hk.2.2⟩)
 have V4:ZK (OwnS lo h4 r) h4 (UJ t).1 c:=((V2.lt2).same (fun k hk=>(u4.ne k (by have:=hk.2; omega)).trans (e3.same k hk.2))).mono (fun k hk=>⟨by have:=hk.1; omega,by have:=hk.2; omega,fun ho=>by have:=(G.gw.lt ho).1; have:=hk.1; omega⟩)
 refine KNG G4 V4 (by omega) hp4 hpl hm (fun h5 e5=>⟨K0 (e5.blk hp4),V2.size,fun i hi=>?_⟩) (fun h6 r6 css6 G6 hs6 same6 hp6=>KC ?_)
 ·rw [Kl (e5.blk g4)]
 ·rw [eqI]
  exact H h6 r6 css6 (by omega) (fun k hk hkp=>(same6 k hk hkp).trans (e4.same k (by omega))) hp6 G6
def KBh (ls:List (List UInt8)):List Vl:=ls.map (fun t=>(UJ t).1)
def okL (ls:List (List UInt8)) (i:Nat):Bool:=decide ((UJ (ls.getD i [])).2.2=0)
def KL5 (ok:Nat→Bool) (n:Nat):Option Nat:=(List.range n).find? (fun i=>!ok i)
theorem KDS {ok:Nat→Bool} {n:Nat} (h:∀ i,i < n→ok i=true):KL5 ok n=none:=by
 unfold KL5
 rw [List.find?_eq_none]
 intro i hi
 rw [h i (List.mem_range.1 hi)]
 decide
theorem KFy {ok:Nat→Bool} {n i:Nat} (hi:i < n) (h:∀ k,k < i→ok k=true) (hf:ok i=false):KL5 ok n=some i:=by
 unfold KL5
 rw [List.find?_eq_some_iff_append]
 refine ⟨by rw [hf]; rfl,List.range i,List.range' (i+1) (n - (i+1)),?_,fun k hk=>by rw [h k (List.mem_range.1 hk)]; rfl⟩
 rw [List.range_eq_range',List.range_eq_range',show n=i+(1+(n - (i+1))) by omega,← List.range'_append_1,Nat.zero_add]
 congr 1
 rw [show i+(1+(n - (i+1))) - (i+1)=n - (i+1) by omega,Nat.add_comm 1,List.range'_succ]
def KFX (s:List UInt8):Option (List Vl) × Int:=match KL5 (okL (Kp s)) (Kp s).length with
 | some i=>(none,((i+1:Nat):Int))
 | none=>if KCr s=true then (some (KBh (Kp s)),0) else (none,((Kp s).length:Int))
theorem KFY {s:List UInt8} {h:Heap} {Q:Sl × Int × Int→Heap→Prop} (hs:s.length≤1048576) (he:ErrV h)
  (H1:∀ h' n,KFX s=(none,n)→Ext h h'→Q (Sl.nil,n,230) h')
  (H2:∀ h' r l,KFX s=(some l,0)→Ext h h'→VsRepS (h.size≤·) h' r l→Q (r,0,0) h'):(Uj (bs s)).wp h Q:=by
 unfold Uj
 have hll:=qM _ s (Nat.le_refl _)
 refine ZW (fun h1 e1 s1 g1=>?_)
 have hlen:∀ i (hi:i < (Kp s).length),(Kp s)[i].length≤s.length:=KJU s
 refine KH (KIi (ok:=okL (Kp s)) (I:=fun i h2=>ErrV h2∧h1.size+7≤h2.size∧(∀ k,k < h.size→h2[k]?=h[k]?)∧∃ r css,h2[h.size]?=some (.cells #[r.v] Z6 (0,0))∧VGw (h1.size+7) (OwnS (h1.size+7) h2 r) h2 r css (KBh ((Kp s).take i)))
  (E:=fun h2=>h1.size+7≤h2.size∧∀ k,k < h.size→h2[k]?=h[k]?) hs rfl ?_ ?_ ?_ ?_ ?_ ?_)
 ·rintro i h2 h3 k ⟨a1,a2,a3,r,css,a4,G⟩ u k1 k2
  have hu:=u.size
  refine ⟨?_,by omega,fun j hj=>(u.ne j (by omega)).trans (a3 j hj),r,css,(u.ne _ (by omega)).trans a4,(G.same (fun j hj=>u.ne j (by have:=(G.gw.lt hj).2; omega)) (fun j hj=>u.ne j (by have:=hj.1; omega))).mono (fun j hj=>⟨hj.1,by rw [hu]; exact hj.2.1,hj.2.2⟩)⟩
  have h5:=he.lt5
  exact ErrV.km a1 (b:=k) (Km.upd u rfl) (by omega)
 ·rintro h2 h3 k ⟨a1,a2⟩ u k1 k2
  exact ⟨by rw [u.size]; exact a1,fun j hj=>(u.ne j (by omega)).trans (a2 j hj)⟩
 ·intro h2 e2 hs2
  exact ⟨(he.ext e1).ext e2,by omega,fun k hk=>(e2.same k (by omega)).trans (e1.same k hk),Sl.nil,[],e2.blk g1,VGw.nil _ _ _⟩
 ·rintro i hi h2 hz ⟨a1,a2,a3,r,css,a4,G⟩
  refine Nj za (KAd _ _) ?_
  refine KIj (by have:=hlen i hi; omega) a1 a4 G (by omega) (by omega) (by unfold KBh; rw [List.length_map,List.length_take]; omega) (fun h3 r3 css3 hs3 same3 hp3 G3=>?_)
  have hget:(Kp s).getD i []=(Kp s)[i]:=by rw [List.getD_eq_getElem?_getD,List.getElem?_eq_getElem hi]; rfl
  have he3:ErrV h3:=by
   obtain ⟨t,q,hq⟩:=a1
   refine ⟨t,q,?_⟩
   have h5:=he.lt5
   unfold KP at hq ⊢
   rw [same3 5 (by omega) (by omega)]
   exact hq
  refine ⟨hs3,fun k k1 k2=>same3 k (by omega) (by omega),by unfold okL; rw [hget],fun _=>⟨he3,by omega,fun k hk=>(same3 k (by omega) (by omega)).trans (a3 k hk),r3,css3,hp3,?_⟩,fun _=>⟨by omega,fun k hk=>(same3 k (by omega) (by omega)).trans (a3 k hk)⟩⟩
  have:KBh ((Kp s).take (i+1))=KBh ((Kp s).take i)++[(UJ (Kp s)[i]).1]:=by
   unfold KBh
   rw [List.take_succ_eq_append_getElem hi,List.map_append]; rfl
  rw [this]
  exact G3
 ·rintro hok h2 hz ⟨a1,a2,a3,r,css,a4,G⟩
  have hb:=KDS hok
  have E2:Ext h h2:=⟨by omega,a3⟩
  cases hend:KCr s with
  | true =>
   rw [if_pos rfl]
   refine iteF rfl (Jz (K0 a4) (KC (H2 h2 r _ (by unfold KFX; rw [hb,hend]; rfl) E2 ?_)))
   rw [List.take_length] at G
   refine (G.rep_ (by unfold KBh; rw [List.length_map]; omega)).same (fun _ _=>rfl) (fun k hk=>?_)
   rcases hk with hk | hk
   ·have:=hk.1; omega
   ·have:=(G.gw.lt hk).2; omega
  | false =>
   rw [if_neg (by decide)]
   exact iteT rfl (KC (H1 h2 _ (by unfold KFX; rw [hb,hend]; rfl) E2))
 ·rintro i hi hok hf h2 hz ⟨a1,a2⟩
  exact iteT rfl (KC (H1 h2 _ (by unfold KFX; rw [KFy hi hok hf]) ⟨by omega,a2⟩))
end Gx
namespace Gx
open Go
set_option linter.unusedVariables false
set_option linter.unusedSimpArgs false
theorem KDg {h:Heap} {Q:ByteArray × Int→Heap→Prop} {x:Sl} {l:List Vl} (hx:VsRep h x l) (hW:wt.wts l≤1099511627)
  (H1:∀ h',Ext h h'→JE l≠0→Q (ByteArray.empty,JE l) h') (H3:∀ h',Ext h h'→JE l=0→Q (bs (NW l),0) h'):(VX x).wp h Q:=by
 unfold VX
 have hxl:=hx.len
 have hwl:=qn l
 have hvr:∀ v ∈ l,∃ h cs,VRep h v cs:=fun v hv=>by
  obtain ⟨j,hj,rfl⟩:=List.getElem_of_mem hv
  obtain ⟨a,c,_,_,_,hv'⟩:=hx.get hj
  exact ⟨h,c,hv'⟩
 refine KH (KGd hx (fun h1 e1=>?_))
 refine KS (fun hc=>KC (H1 _ e1 (by simpa using hc))) (fun hc=>?_)
 have hc:JE l=0:=by simpa using hc
 have hT:=KHj hvr
 have hpre:∀ i,(NW (l.take i)).length≤(NW l).length:=fun i=>by
  unfold NW
  conv=>rhs; rw [← List.take_append_drop i l,List.flatMap_append,List.length_append]
  omega
 refine M.loop_inv (fun (z:ByteArray × Int) hh=>∃ i:Nat,z=(bs (NW (l.take i)),(i:Int))∧i≤l.length∧Ext h1 hh) (fun z _=>((l.length:Int) - z.2).toNat) ?_ ⟨0,rfl,Nat.zero_le _,Ext.refl _⟩
 rintro z hh ⟨i,rfl,hi,E⟩ self hself
 unfold Ww
 dsimp only
 rw [hxl]
 have hpi:=hpre i
 refine KS (fun hlt=>?_) (fun hend=>?_)
 ·have hlt:i < l.length:=by have:=of_decide_eq_true hlt; omega
  have hpi1:=hpre (i+1)
  have htk:NW (l.take (i+1))=NW (l.take i)++(txV l[i]++[10]):=by
   unfold NW
   rw [List.take_succ_eq_append_getElem hlt,List.flatMap_append]; simp
  rw [htk,List.length_append,List.length_append] at hpi1
  have E0:=e1.trans E
  refine zN (hx.ext E0) hlt rfl (fun a cs hs hcs hv=>VT hs hcs (KH (KJ1 hv ?_ (fun h5 e5=>?_))))
  ·have:=KEq 8 _ hv
   have hw:=qo (List.getElem_mem hlt)
   show (txt 8 l[i]).length≤_
   omega
  ·refine KAo (y:=[10]) (by omega) (KAo (by rw [List.length_append]; omega) ?_)
   rw [w64 (by omega) (by omega),← htk]
   exact hself _ _ ⟨i+1,rfl,hlt,E.trans e5⟩ (by dsimp only; omega)
 ·have hge:i=l.length:=by have:=of_decide_eq_false hend; omega
  subst hge
  rw [List.take_length]
  exact KC (H3 _ (e1.trans E) hc)
theorem KL6 {s:List UInt8} {h:Heap} {Q:Bool→Heap→Prop} (hs:s.length≤1099511627776) (H:Q (KCr s) h):(VY (bs s)).wp h Q:=by
 unfold VY
 rw [show (ByteArray.empty:ByteArray)=bs [] from rfl,zm,ZV]
 refine or_b (c:=decide (s.getLast?=some 10)) (fun hne Q' hq=>?_) (KC ?_)
 ·have hne:s≠[]:=of_decide_eq_false hne
  have hl:0 < s.length:=List.length_pos_iff.2 hne
  rw [w64 (by omega) (by omega)]
  refine N0 (i:=s.length - 1) (by omega) (by omega) (KC ?_)
  rw [List.getLast?_eq_getElem?,List.getElem?_eq_getElem (by omega)] at hq
  rw [u8_c (d:=10) (n:=10) rfl,show decide (s[s.length - 1]=10)=decide (some s[s.length - 1]=some 10) from decide_eq_decide.2 ⟨congrArg some,Option.some.inj⟩]
  exact hq
 ·rw [← Bool.decide_or]
  exact H
theorem zu {s:List UInt8} {h:Heap} {Q:Sl × Int × Int→Heap→Prop} (hs:s.length≤1048576)
  (H1:∀ h' n,KFX s=(none,n)→Ext h h'→Q (Sl.nil,n,230) h')
  (H2:∀ h' r l,KFX s=(some l,0)→Ext h h'→VsRepS (h.size≤·) h' r l→Q (r,0,0) h'):(JI (bs s)).wp h Q:=by
 unfold JI
 have hll:=qM _ s (Nat.le_refl _)
 refine KH (KIY hs (fun h1 x e1 G=>?_))
 have hxl:x.len=(Kp s).length:=by have:=G.len; rw [List.length_map] at this; omega
 have hz1:=e1.size
 refine M.loop_inv (fun (z:Sl × Int) hh=>∃ (i:Nat) (r:Sl) (css:List (Array Value)),z=(r,(i:Int))∧i≤(Kp s).length∧Ext h1 hh∧(∀ k,k < i→okL (Kp s) k=true)∧(i=(Kp s).length→KCr s=true)∧VGw h1.size (OwnS h1.size hh r) hh r css (KBh ((Kp s).take i))) (fun z _=>(((Kp s).length:Int) - z.2).toNat) ?_ ?_
 ·rintro z hh ⟨i,r,css,rfl,hi,E,hok,hend,V⟩ self hself
  unfold VD
  dsimp only
  rw [hxl]
  have hzh:=E.size
  refine KS (fun hlt=>?_) (fun hge=>?_)
  ·have hlt:i < (Kp s).length:=by have:=of_decide_eq_true hlt; omega
   have hget:(Kp s).getD i []=(Kp s)[i]:=by rw [List.getD_eq_getElem?_getD,List.getElem?_eq_getElem hlt]; rfl
   have hoki:okL (Kp s) i=decide ((UJ (Kp s)[i]).2.2=0):=by unfold okL; rw [hget]
   have G1:=G.ext E
   obtain ⟨b,hb,hc⟩:=G1.cell (j:=i) (v:=sv (Kp s)[i]) (by rw [List.getElem?_map,List.getElem?_eq_getElem hlt]; rfl)
   refine GX (by omega) (by omega) hb (XX (n:=bs (Kp s)[i]) ?_ ?_)
   ·rw [Ki,Nat.zero_add,show (i:Int).toNat * 1=i by omega]; exact hc
   refine KH (KIh (by have:=KJU s i hlt; omega) (fun h2 c e2 V2=>?_))
   refine ZW (fun h3 e3 s3 g3=>Zw V2.size (stR g3 (by rw [V2.size]; exact Nat.le_refl 4) V2.to.one (fun h4 u4 g4=>?_)))
   rw [ZB (cs:=vz) (vs:=c.toList) (by rw [Array.length_toList,V2.size]; rfl),Array.toArray_toList] at g4
   have e4:Ext hh h4:=(e2.trans e3).upd u4 e2.size
   have hs2:=e2.size
   have hu4:=u4.size
   rw [w64 (by omega) (by omega),w64 (by omega) (by omega)]
   refine or_b (c:=decide (i=(Kp s).length - 1) && !KCr s) (fun _ Q' hq=>?_) ?_
   ·rw [eqI,show decide ((i:Int)=((Kp s).length:Int) - 1)=decide (i=(Kp s).length - 1) from decide_eq_decide.2 (by omega)]
    refine VI (c:=!KCr s) (fun _ Q2 hq2=>KH (KL6 (by omega) (KC hq2))) (KC hq)
   refine KS (fun hbad=>KC ?_) (fun hgood=>?_)
   ·refine H1 _ _ ?_ (e1.trans (E.trans e4))
    by_cases h0:(UJ (Kp s)[i]).2.2=0
    ·have hlast:i=(Kp s).length - 1∧KCr s=false:=by
      rw [show ((UJ (Kp s)[i]).2.2 != 0)=false by rw [bne,eqI,decide_eq_true h0]; rfl,Bool.false_or,Bool.and_eq_true,decide_eq_true_iff,Bool.not_eq_true'] at hbad
      exact hbad
     have hall:∀ k,k < (Kp s).length→okL (Kp s) k=true:=fun k hk=>by
      rcases Nat.lt_or_ge k i with h | h
      ·exact hok k h
      ·have:k=i:=by omega
       subst this
       rw [hoki]; exact decide_eq_true h0
     unfold KFX
     rw [KDS hall,hlast.2]
     show (none,(((Kp s).length:Nat):Int))=_
     rw [show ((Kp s).length:Int)=(i:Int)+1 by omega]
    ·have hf:okL (Kp s) i=false:=by rw [hoki]; exact decide_eq_false h0
     unfold KFX
     rw [KFy hlt hok hf]
     rfl
   ·rw [Bool.or_eq_false_iff] at hgood
    have h0:(UJ (Kp s)[i]).2.2=0:=by
     refine Classical.not_not.1 (fun hne=>?_)
     rw [bne_iff_ne.2 hne] at hgood
     cases hgood.1
    have hnl:¬ (i=(Kp s).length - 1∧KCr s=false):=fun hh=>by
     rw [decide_eq_true hh.1,hh.2] at hgood
     cases hgood.2
    refine ldR g4 V2.size ?_
    have V4:VGw h1.size (OwnS h1.size h4 r) h4 r css (KBh ((Kp s).take i)):=(V.same (fun k hk=>e4.same k (V.gw.lt hk).1) (fun k hk=>e4.same k hk.2.1)).mono (fun k hk=>⟨hk.1,by have:=hk.2.1; omega,hk.2.2⟩)
    have hv4:ZK (OwnS h1.size h4 r) h4 (UJ (Kp s)[i]).1 c:=((V2.lt2).same (fun k hk=>(u4.ne k (by have:=hk.2; omega)).trans (e3.same k hk.2))).mono (fun k hk=>⟨by have:=hk.1; omega,by have:=hk.2; omega,fun ho=>by have:=(V.gw.lt ho).1; have:=hk.1; omega⟩)
    refine KId V4 (fun k hk=>hk.2) hv4 (by omega) (by unfold KBh; rw [List.length_map,List.length_take]; omega) (fun h5 r5 G5 hs5 same5 on5=>?_)
    refine hself (r5,_) _ ⟨i+1,r5,css++[c],rfl,hlt,⟨by omega,fun k hk=>(same5 k (by omega) (fun ho=>by have:=(V.gw.lt ho).2; omega)).trans ((E.trans e4).same k hk)⟩,fun k hk=>?_,fun he=>?_,?_⟩ (by dsimp only; omega)
    ·rcases Nat.lt_or_ge k i with h | h
     ·exact hok k h
     ·have:k=i:=by omega
      subst this
      rw [hoki]; exact decide_eq_true h0
    ·cases hes:KCr s with
     | true=>rfl
     | false=>exact absurd ⟨by omega,hes⟩ hnl
    ·rw [show KBh ((Kp s).take (i+1))=KBh ((Kp s).take i)++[(UJ (Kp s)[i]).1] by
      unfold KBh
      rw [List.take_succ_eq_append_getElem hlt,List.map_append]; rfl]
     exact G5.mono (fun k hk=>⟨hk.1,by have:=hk.2.1; omega,fun ho=>(on5 k ho).elim hk.2.2 (fun h=>by have:=hk.2.1; omega)⟩)
  ·have hge:i=(Kp s).length:=by have:=of_decide_eq_false hge; omega
   subst hge
   rw [List.take_length] at V
   refine KC (H2 _ r (KBh (Kp s)) ?_ (e1.trans E) ?_)
   ·unfold KFX
    rw [KDS (fun k hk=>hok k hk),hend rfl]
    rfl
   ·refine (V.rep_ (by unfold KBh; rw [List.length_map]; omega)).same (fun _ _=>rfl) (fun k hk=>?_)
    rcases hk with hk | hk
    ·have:=hk.1; omega
    ·have:=(V.gw.lt hk).2; omega
 ·refine ⟨0,Sl.nil,[],rfl,Nat.zero_le _,Ext.refl _,fun k hk=>absurd hk (Nat.not_lt_zero _),fun he=>?_,VGw.nil _ _ _⟩
  have:s=[]:=by
   by_cases h:s=[]
   ·exact h
   ·rw [Wy h] at he; cases he
  subst this
  rfl
theorem KGw {h:Heap} {Q:Bool→Heap→Prop} {x y:Sl} {l:List Vl} (hx:VsRep h x l) (hy:VsRep h y l) (H:∀ h',Ext h h'→Q true h'):(JD x y).wp h Q:=by
 unfold JD
 have hxl:=hx.len
 have hyl:=hy.len
 have hxb:=hx.big
 rw [hxl,hyl]
 refine iteF (by simp) ?_
 refine M.loop_inv (fun (t:Int) h'=>Ext h h'∧∃ i:Nat,t=(i:Int)∧i≤l.length) (fun t _=>((l.length:Int) - t).toNat) ?_ ⟨Ext.refl h,0,rfl,Nat.zero_le _⟩
 rintro t h' ⟨E,i,rfl,hi⟩ self hself
 unfold Vn
 rw [hxl]
 refine KS (fun hc=>?_) (fun hc=>KC (H _ E))
 have hlt:i < l.length:=by have:=of_decide_eq_true hc; omega
 refine zN (hx.ext E) hlt rfl (fun a c hs hcs hv=>zN (hy.ext E) hlt rfl (fun a2 c2 hs2 hcs2 hv2=>VT hs hcs (VT hs2 hcs2 (KH (KJt hv hv2 (fun h3 e3=>?_))))))
 rw [KCm]
 refine iteF rfl ?_
 rw [w64 (by omega) (by omega)]
 exact hself _ _ ⟨E.trans e3,i+1,by simp,hlt⟩ (by omega)
theorem KL7 {h:Heap} {x:Sl} {l:List Vl} {s:List UInt8} (hx:VsRep h x l) (hs:s.length≤1048576) (hW:l.length≤100→wt.wts l≤1048576) (hp:Nc h) (hd:KBH h) (he:ErrV h) {Q:Bool→Heap→Prop} (H:∀ h',Ext h h'→Q true h'):(VQ x (bs s)).wp h Q:=by
 unfold VQ YN
 have hxl:=hx.len
 refine JT (KS (fun hc=>KC (H _ (Ext.refl _))) (fun hc=>?_))
 have hl:l.length≤100:=by
  have:decide ((x.len:Int)≤100)=true:=by simpa using hc
  have:=of_decide_eq_true this; omega
 have hW:=hW hl
 have rest:∀ {h1:Heap} {t:ByteArray} {e:Int},Ext h h1→(do
  let Xx11←Uj (bs s)
  let Xx13←JI (bs s)
  let Xx15←Jo
  let Xx16←M.ite Xx15 (do
   M.pure (sEq (t,e).1 (t,e).1)
   ) (do
   M.pure false
   )
  let Xx17←M.ite Xx16 (do
   M.pure ((t,e).2 == (t,e).2)
   ) (do
   M.pure false
   )
  let Xx18←M.ite Xx17 (do
   let Xx19←JD Xx11.1 Xx13.1
   M.pure Xx19
   ) (do
   M.pure false
   )
  let Xx20←M.ite Xx18 (do
   M.pure (Xx11.2.1 == Xx13.2.1)
   ) (do
   M.pure false
   )
  let Xx21←M.ite Xx20 (do
   M.pure (Xx11.2.2 == Xx13.2.2)
   ) (do
   M.pure false
   )
  M.pure Xx21:M Bool).wp h1 Q:=fun {h1 t e} E=>by
  have s1:sEq t t=true:=by
   have:t=bs t.data.toList:=by simp [bs]
   rw [this,zm]; simp
  have tail:∀ {h2:Heap} {r r':Sl} {m:List Vl} {n:Int} {g:Int},Ext h h2→VsRep h2 r m→VsRep h2 r' m→(do
    let Xx15←Jo
    let Xx16←M.ite Xx15 (do
     M.pure (sEq (t,e).1 (t,e).1)
     ) (do
     M.pure false
     )
    let Xx17←M.ite Xx16 (do
     M.pure ((t,e).2 == (t,e).2)
     ) (do
     M.pure false
     )
    let Xx18←M.ite Xx17 (do
     let Xx19←JD (r,n,g).1 (r',n,g).1
     M.pure Xx19
     ) (do
     M.pure false
     )
    let Xx20←M.ite Xx18 (do
     M.pure ((r,n,g).2.1 == (r',n,g).2.1)
     ) (do
     M.pure false
     )
    let Xx21←M.ite Xx20 (do
     M.pure ((r,n,g).2.2 == (r',n,g).2.2)
     ) (do
     M.pure false
     )
    M.pure Xx21:M Bool).wp h2 Q:=fun {h2 r r' m n g} E2 hr hr'=>by
   refine KH (KHk (hp.ext E2) (hd.ext E2) (fun h3 e3=>KDX rfl (JT ?_)))
   refine KDX s1 (JT ?_)
   refine KDX (by simp) (Jd (KH (KGw (hr.ext e3) (hr'.ext e3) (fun h4 e4=>JT ?_))))
   refine KDX rfl (JT ?_)
   refine KDX (by simp) (JT (KC ?_))
   rw [show ((r,n,g).2.2 == (r',n,g).2.2)=true by simp]
   exact H _ ((E2.trans e3).trans e4)
  have hnil:∀ {h2:Heap},VsRep h2 Sl.nil []:=fun {h2}=>⟨rfl,Nat.le_refl _,by decide,by rw [VsAt]; trivial⟩
  refine KH (KFY hs (he.ext E) (fun h2 n hr e2=>?_) (fun h2 r m hr e2 V2=>?_))
  ·refine KH (zu hs (fun h3 n' hr' e3=>?_) (fun h3 r' m' hr' e3 V3=>by rw [hr] at hr'; cases hr'))
   rw [hr] at hr'
   cases hr'
   exact tail ((E.trans e2).trans e3) hnil hnil
  ·refine KH (zu hs (fun h3 n' hr' e3=>by rw [hr] at hr'; cases hr') (fun h3 r' m' hr' e3 V3=>?_))
   rw [hr] at hr'
   cases hr'
   exact tail ((E.trans e2).trans e3) (V2.to.ext e3) V3.to
 refine KH (KFp hx hp hd (by omega) (fun h1 e1 hne=>?_) (fun h1 e1 h0=>?_))
 ·exact KH (KDg (hx.ext e1) (by omega) (fun h2 e2 _=>rest (e1.trans e2)) (fun h2 e2 h0=>absurd h0 hne))
 ·exact KH (KDg (hx.ext e1) (by omega) (fun h2 e2 hne=>absurd h0 hne) (fun h2 e2 _=>rest (e1.trans e2)))
end Gx
namespace Gx
open Go Go.RowKit Go.ChangeShapes Go.WideShapes Go.ChangeAt Go.Joins
set_option linter.unusedVariables false
section
variable {H:Type} {enc:TypeId × Value→H} {P:Program}
theorem KNH {W W':World} (he:Ext W.heap W'.heap) {p:MemPlace} (hp:p.block < W.heap.size):W.sameAt W' p:=by
 cases p with
 | cell b o=>exact World.cell?_of_block (w:=W) (he.same b hp)
 | map b=>exact he.same b hp
theorem KJV {t:TypeId} (hl:laidOutB P=true) (hr:P.readableRec t=true) (hrow:t < P.types.size) {W W':World} {v:Value} {d:DataW H} {ps:List MemPlace}
  (h:DataW.Trod enc P W 0 (fun _=>true) true t v d ps) (he:Ext W.heap W'.heap) :
  DataW.Trod enc P W' 0 (fun b=>decide (b < W.heap.size)) true t v d ps:=by
 have hlt:∀ x ∈ ps,x.block < W.heap.size:=by
  obtain ⟨m,hm⟩:=h
  exact DataW.trod_lt m _ _ _ hm
 exact WideElems.Trod_stays hl hr hrow h (fun x hx=>KNH he (hlt x hx)) (fun x hx=>by simpa using hlt x hx)
theorem KL8 {W W':World} (he:Ext W.heap W'.heap) (hr:Rest W W') (may:MemPlace→Prop):W.keptBut W' may:=by
 refine ⟨hr.os,hr.output,fun i hi=>?_⟩
 rw [he.same i hi]
 split <;> simp_all
end
end Gx
