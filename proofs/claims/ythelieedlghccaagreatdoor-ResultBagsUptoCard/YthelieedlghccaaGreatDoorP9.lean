/- Own proofs: what those Lean programs compute. No condition. -/
import Derived.Test.YthelieedlghccaaGreatDoorP0
import Derived.Test.YthelieedlghccaaGreatDoorP1
import Derived.Test.YthelieedlghccaaGreatDoorP2
import Derived.Test.YthelieedlghccaaGreatDoorP3
import Derived.Test.YthelieedlghccaaGreatDoorP4
import Derived.Test.YthelieedlghccaaGreatDoorP5
import Derived.Test.YthelieedlghccaaGreatDoorP6
import Derived.Test.YthelieedlghccaaGreatDoorP7
import Derived.Test.YthelieedlghccaaGreatDoorP8
import Derived.WalkKit
import Derived.ProofKit
import Derived.OpenShut
import Derived.ShutString
import Derived.ChangeOld
import Derived.Below
import Derived.SizedLaws
import Derived.Lib.SmallJoins
set_option linter.unusedVariables false
set_option linter.unusedSimpArgs false
namespace Gx
open Go Go.Proofs Go.Shelf Go.RowKit Go.Lib
set_option linter.unusedVariables false
set_option linter.unusedSimpArgs false
set_option maxRecDepth 100000
theorem KOb (S:Nat→Prop) (h:Heap):ZK S h (.mk 0 0 [] []) (ZT 0 0 [] Sl.nil):=KHS S h ⟨by decide,by decide⟩ ⟨by decide,by decide⟩ (by decide)
theorem KJ9 (s:List UInt8):∀ d,d≤8→KQ9 s d
 | 0,_=>fun i h Q b R H1 H2=>by
  unfold Zl
  refine ZU (fun h1 e1 hs1 g1=>iteT (by rfl) (Ww (R.ext e1) (fun h2 u2 X2=>?_)))
  have hbl:=R.lt
  refine KMr (cs:=ZT 0 0 [] Sl.nil) ((u2.ne _ (by omega)).trans g1) rfl rfl (JF _ _ _ _) (fun h3 u3=>?_)
  have Ku:Kb b h1 h2:=Km.upd u2 rfl
  have Kh:Kb b h h2:=(Km.ext e1).trans Ku
  exact H2 i (.mk 0 0 [] []) h3 _ rfl (Kh.own u3 (Nat.le_refl _)) (X2.upd u3 (by omega)) (KOb _ _)
 | d+1,hd=>fun i h Q b R H1 H2=>by
  have IH:=KJ9 s d (by omega)
  unfold Zl
  refine ZU (fun h1 e1 hs1 g1=>iteF (decide_eq_false (by omega)) ?_)
  have R1:=R.ext e1
  have hbl:=R.lt
  have K1:Kb b h h1:=Km.ext e1
  have fin:∀ (v:Vl) (cs:Array Value) (h2:Heap),Kb b h1 h2→ZK (fun k=>h1.size≤k∧k < h2.size) h2 v cs→(∀ h3,Kb b h h3→h3[b]?=h2[b]?→ZK (HS h h3) h3 v cs→Q cs h3) →
    (M.need (cs.size=4)>>=fun _=>stG ⟨h.size,0,none⟩ cs>>=fun _=>ldG 4 ⟨h.size,0,none⟩>>=fun r=>(M.pure r:M (Array Value))).wp h2 Q:=by
   intro v cs h2 K2 V2 hk
   have g2:=K2.blk g1 (show ¬ h.size=b by omega)
   refine KMr g2 rfl V2.size V2.to.one (fun h3 u3=>hk h3 ?_ (u3.ne b (by omega)) ?_)
   ·have:=K1.trans K2
    exact ⟨by rw [u3.size]; exact this.size,fun q hq hqb=>(u3.ne q (by omega)).trans (this.same q hq hqb)⟩
   ·have hu:=u3.size
    exact (V2.same (fun k hk=>u3.ne k (by omega))).mono (fun k hk=>⟨by omega,by omega⟩)
  have finG:∀ (v:Vl) (cs:Array Value) (j:Nat) (h2:Heap),pval s (d+1) i=.ok (v,j)→Kb b h1 h2→Rgd h2 b s j→ZK (fun k=>h1.size≤k∧k < h2.size) h2 v cs →
    (M.need (cs.size=4)>>=fun _=>stG ⟨h.size,0,none⟩ cs>>=fun _=>ldG 4 ⟨h.size,0,none⟩>>=fun r=>(M.pure r:M (Array Value))).wp h2 Q :=
   fun v cs j h2 hv K2 R2 V2=>fin v cs h2 K2 V2 (fun h3 K3 hb3 V3=>H1 v j h3 cs hv K3 ⟨by rw [hb3]; exact R2.blk,R2.le,R2.small⟩ V3)
  have finX:∀ (v:Vl) (cs:Array Value) (e:Nat) (h2:Heap),pval s (d+1) i=.error e→Kb b h1 h2→Rx h2 b s e→ZK (fun k=>h1.size≤k∧k < h2.size) h2 v cs →
    (M.need (cs.size=4)>>=fun _=>stG ⟨h.size,0,none⟩ cs>>=fun _=>ldG 4 ⟨h.size,0,none⟩>>=fun r=>(M.pure r:M (Array Value))).wp h2 Q:=by
   intro v cs e h2 hv K2 X2 V2
   refine fin v cs h2 K2 V2 (fun h3 K3 hb3 V3=>H2 e v h3 cs hv K3 ?_ V3)
   obtain ⟨q,q1,q2,q3⟩:=X2
   exact ⟨q,q1,q2,hb3.trans q3⟩
  have scal:∀ {k n:Int} {t:List UInt8} {S:Nat→Prop} {h2:Heap},I64 k→I64 n→t.length≤1099511627776→ZK S h2 (.mk k n t []) (ZT k n t Sl.nil):=fun hk hn ht=>KHS _ _ hk hn (by omega)
  have hle:=R.le
  have hsm:=R.small
  have i1:I64 1:=⟨by decide,by decide⟩
  have i0:I64 0:=⟨by decide,by decide⟩
  rw [pval] at finG finX
  clear fin
  refine KE (XH R1 ?_)
  refine or_b (c:=digB (KN s i)) (fun _ Q' hq=>KE (NX (KC hq))) ?_
  rw [u8_c (d:=45) (n:=45) rfl]
  refine KP (fun hc=>?_) (fun hc=>?_)
  ·have hc:KN s i=45∨digB (KN s i)=true:=by rwa [Bool.or_eq_true,decide_eq_true_iff] at hc
   rw [if_pos hc] at finG finX
   refine KE (KIV R1 (fun n j h2 hn K2 R2=>?_) (fun e h2 hn K2 X2=>?_))
   ·exact KOa (fun h3 e3=>finG (.mk 1 n [] []) _ j h3 (by rw [hn]) (K2.trans (Km.ext e3)) (R2.ext e3) (scal i1 (KFT hn hle).1 (by decide)))
   ·exact KOa (fun h3 e3=>finX (.mk 1 0 [] []) _ e h3 (by rw [hn]) (K2.trans (Km.ext e3)) (X2.ext e3) (scal i1 i0 (by decide)))
  have hc:¬ (KN s i=45∨digB (KN s i)=true):=fun hh=>by
   rw [← decide_eq_true_iff (p:=KN s i=45),← Bool.or_eq_true,hc] at hh
   cases hh
  rw [if_neg hc] at finG finX
  rw [u8_c (d:=39) (n:=39) rfl]
  refine KP (fun hc=>?_) (fun hc=>?_)
  ·rw [if_pos (of_decide_eq_true hc)] at finG finX
   refine KE (KQ8 R1 (fun t j h2 ht K2 R2=>?_) (fun e h2 ht K2 X2=>?_))
   ·exact KMs (fun h3 e3=>finG (.mk 2 0 t []) _ j h3 (by rw [ht]) (K2.trans (Km.ext e3)) (R2.ext e3) (scal ⟨by decide,by decide⟩ i0 (by have:=(KHQ ht).2.2; omega)))
   ·exact KMs (fun h3 e3=>finX (.mk 2 0 [] []) _ e h3 (by rw [ht]) (K2.trans (Km.ext e3)) (X2.ext e3) (scal ⟨by decide,by decide⟩ i0 (by decide)))
  rw [if_neg (of_decide_eq_false hc)] at finG finX
  rw [u8_c (d:=116) (n:=116) rfl]
  refine KP (fun hc=>?_) (fun hc=>?_)
  ·rw [if_pos (of_decide_eq_true hc)] at finG finX
   refine KE (KAG (lit:=[116,114,117,101]) R1 (by decide) (fun j h2 hj K2 R2=>?_) (fun e h2 hj K2 X2=>?_))
   ·exact KEW (fun h3 e3=>finG (.mk 3 1 [] []) _ j h3 (by rw [hj]) (K2.trans (Km.ext e3)) (R2.ext e3) (scal ⟨by decide,by decide⟩ i1 (by decide)))
   ·exact KEW (fun h3 e3=>finX (.mk 3 1 [] []) _ e h3 (by rw [hj]) (K2.trans (Km.ext e3)) (X2.ext e3) (scal ⟨by decide,by decide⟩ i1 (by decide)))
  rw [if_neg (of_decide_eq_false hc)] at finG finX
  rw [u8_c (d:=102) (n:=102) rfl]
  refine KP (fun hc=>?_) (fun hc=>?_)
  ·rw [if_pos (of_decide_eq_true hc)] at finG finX
   refine KE (KAG (lit:=[102,97,108,115,101]) R1 (by decide) (fun j h2 hj K2 R2=>?_) (fun e h2 hj K2 X2=>?_))
   ·exact KEW (fun h3 e3=>finG (.mk 3 0 [] []) _ j h3 (by rw [hj]) (K2.trans (Km.ext e3)) (R2.ext e3) (scal ⟨by decide,by decide⟩ i0 (by decide)))
   ·exact KEW (fun h3 e3=>finX (.mk 3 0 [] []) _ e h3 (by rw [hj]) (K2.trans (Km.ext e3)) (X2.ext e3) (scal ⟨by decide,by decide⟩ i0 (by decide)))
  rw [if_neg (of_decide_eq_false hc)] at finG finX
  rw [u8_c (d:=118) (n:=118) rfl,u8_c (d:=101) (n:=101) rfl]
  refine or_b (c:=decide (KN s i=101)) (fun _ Q' hq=>KC hq) ?_
  refine KP (fun hc=>?_) (fun hc=>?_)
  ·have hc:KN s i=118∨KN s i=101:=by rwa [Bool.or_eq_true,decide_eq_true_iff,decide_eq_true_iff] at hc
   have hil:i < s.length:=J2 (by rcases hc with h | h <;> (rw [h]; decide))
   suffices body:∀ k:Int,I64 k→(if decide (KN s i=118)=true then k=6 else k=7) →
     (∀ (v:Vl) (cs:Array Value) (j:Nat) (h2:Heap),KAF k s i=.ok (v,j)→Kb b h1 h2→Rgd h2 b s j→ZK (fun k=>h1.size≤k∧k < h2.size) h2 v cs→(M.need (cs.size=4)>>=fun _=>stG ⟨h.size,0,none⟩ cs>>=fun _=>ldG 4 ⟨h.size,0,none⟩>>=fun r=>(M.pure r:M (Array Value))).wp h2 Q) →
     (∀ (v:Vl) (cs:Array Value) (e:Nat) (h2:Heap),KAF k s i=.error e→Kb b h1 h2→Rx h2 b s e→ZK (fun k=>h1.size≤k∧k < h2.size) h2 v cs→(M.need (cs.size=4)>>=fun _=>stG ⟨h.size,0,none⟩ cs>>=fun _=>ldG 4 ⟨h.size,0,none⟩>>=fun r=>(M.pure r:M (Array Value))).wp h2 Q)→_ by
    by_cases h:KN s i=118
    ·rw [if_pos h] at finG finX
     exact body 6 ⟨by decide,by decide⟩ (by rw [if_pos (decide_eq_true h)]) finG finX
    ·rw [if_neg h,if_pos (hc.resolve_left h)] at finG finX
     exact body 7 ⟨by decide,by decide⟩ (by rw [if_neg (by simpa using h)]) finG finX
   clear finG finX
   intro k ik hkk finG finX
   refine NW R1 hil (fun h2 u2 R2=>?_)
   have K2:Kb b h1 h2:=Km.upd u2 rfl
   have g2:h2[h.size]?=some (.cells vz KB (0,0)):=(u2.ne _ (by omega)).trans g1
   have tail:∀ (n:Int) (h3:Heap),Kb b h2 h3→I64 n→(∀ h4,Kb b h1 h4→h4[b]?=h3[b]?→h4[h3.size]?=some (.cells (ZT k n [] Sl.nil) KB (0,0))→h4[h.size]?=some (.cells vz KB (0,0))→h3.size < h4.size→(Kn (some ⟨b,0,none⟩) ⟨h.size,0,none⟩ ⟨h3.size,0,none⟩).wp h4 Q) →
     (mkB KB (#[.int .i64 0,.int .i64 0,.string ByteArray.empty,.slice none 0 0]:Array Value)>>=fun Xx54 =>
      M.need ((ZT 7 n [] Sl.nil).size=4)>>=fun _=>stG Xx54 (ZT 7 n [] Sl.nil)>>=fun _ =>
      M.ite (decide (KN s i=118)) (stV ((Xx54).add 0) (.int .i64 6)>>=fun _=>Kn (some ⟨b,0,none⟩) ⟨h.size,0,none⟩ Xx54) (Kn (some ⟨b,0,none⟩) ⟨h.size,0,none⟩ Xx54):M (Array Value)).wp h3 Q:=by
    intro n h3 K3 hn hk
    have hK3:=K3.size
    have hu2:=u2.size
    have hb3:b < h3.size:=by omega
    refine ZU (fun h4 e4 hs4 g4=>Z0 rfl (stR (cs:=vz) (vs:=ZT 7 n [] Sl.nil) g4 (Nat.le_refl 4) (JF _ _ _ _) (fun h5 u5 g5=>?_)))
    rw [K0 (cs:=vz) (vs:=(ZT 7 n [] Sl.nil).toList) rfl] at g5
    have hu5:=u5.size
    have K5:Kb b h1 h5:=K2.trans (K3.trans ⟨by omega,fun q hq _=>(u5.ne q (by omega)).trans (e4.same q hq)⟩)
    have hb5:h5[b]?=h3[b]?:=(u5.ne b (by omega)).trans (e4.same b hb3)
    have hv5:h5[h.size]?=some (.cells vz KB (0,0)):=(u5.ne _ (by omega)).trans ((e4.same _ (by omega)).trans (K3.blk g2 (show ¬ h.size=b by omega)))
    by_cases hv:KN s i=118
    ·rw [decide_eq_true hv] at hkk ⊢
     rw [if_pos rfl] at hkk
     subst hkk
     refine iteT rfl (Wl (x:=.int .i64 7) (by rw [Kg,KU g5]; rfl) (by rw [Kg]; exact KZ g5) rfl ?_)
     rw [Kg,Nat.zero_add]
     have u6:=Upd.hset h5 h3.size 0 (.int .i64 6)
     have g6:(hset h5 ⟨h3.size,0,none⟩ (.int .i64 6))[h3.size]?=some (.cells (ZT 6 n [] Sl.nil) KB (0,0)):=V8 g5
     exact hk _ ⟨by rw [u6.size]; exact K5.size,fun q hq hqb=>(u6.ne q (by have:=K2.size; omega)).trans (K5.same q hq hqb)⟩ ((u6.ne b (by omega)).trans hb5) g6 ((u6.ne _ (by omega)).trans hv5) (by rw [u6.size]; omega)
    ·rw [decide_eq_false hv] at hkk ⊢
     rw [if_neg (by decide)] at hkk
     subst hkk
     exact iteF rfl (hk h5 K5 hb5 g5 hv5 (by omega))
   have j1X:∀ (n:Int) (h3 h4:Heap) (e:Nat),KAF k s i=.error e→I64 n→Rx h3 b s e→h1.size≤h3.size→Kb b h1 h4→h4[b]?=h3[b]?→h4[h3.size]?=some (.cells (ZT k n [] Sl.nil) KB (0,0))→h3.size < h4.size→(Kn (some ⟨b,0,none⟩) ⟨h.size,0,none⟩ ⟨h3.size,0,none⟩).wp h4 Q:=by
    intro n h3 h4 e he hn X3 hs3 K4 hb4 g4 hlt
    have X4:Rx h4 b s e:=by obtain ⟨q,q1,q2,q3⟩:=X3; exact ⟨q,q1,q2,hb4.trans q3⟩
    unfold Kn
    refine KE (KHT (c:=93) (r:=[]) X4 (by decide) (ldR g4 rfl ?_))
    exact finX (.mk k n [] []) _ e h4 he K4 X4 (scal ik hn (by decide))
   refine KE (KAG (lit:=[91]) R2 (by decide) (fun j h3 hj K3 R3=>?_) (fun e h3 hj K3 X3=>?_))
   ·refine KE (KIV R3 (fun n j2 h4 hn K4 R4=>?_) (fun e h4 hn K4 X4=>?_))
    ·have in_:=(KFT hn R3.le).1
     refine tail n h4 (K3.trans K4) in_ (fun h5 K5 hb5 g5 hv5 hlt=>?_)
     have R5:Rgd h5 b s j2:=⟨by rw [hb5]; exact R4.blk,R4.le,R4.small⟩
     have hs4:h1.size≤h4.size:=by have:=(K2.trans (K3.trans K4)).size; exact this
     have hbl1:b < h1.size:=by omega
     unfold Kn
     refine KE (KAG (lit:=[93]) R5 (by decide) (fun j3 h6 hj3 K6 R6=>?_) (fun e h6 hj3 K6 X6=>?_))
     ·refine ldR (K6.blk g5 (show ¬ h4.size=b by omega)) rfl ?_
      refine finG (.mk k n [] []) _ j3 h6 ?_ (K5.trans K6) R6 (scal ik in_ (by decide))
      unfold KAF; rw [hj]; dsimp only; rw [hn]; dsimp only; rw [hj3]
     ·refine ldR (K6.blk g5 (show ¬ h4.size=b by omega)) rfl ?_
      refine finX (.mk k n [] []) _ e h6 ?_ (K5.trans K6) X6 (scal ik in_ (by decide))
      unfold KAF; rw [hj]; dsimp only; rw [hn]; dsimp only; rw [hj3]
    ·refine tail 0 h4 (K3.trans K4) i0 (fun h5 K5 hb5 g5 hv5 hlt=>?_)
     exact j1X 0 h4 h5 e (by unfold KAF; rw [hj]; dsimp only; rw [hn]) i0 X4 (by have:=(K2.trans (K3.trans K4)).size; exact this) K5 hb5 g5 hlt
   ·refine KE (KMq X3 ?_)
    refine tail 0 h3 K3 i0 (fun h5 K5 hb5 g5 hv5 hlt=>?_)
    exact j1X 0 h3 h5 e (by unfold KAF; rw [hj]) i0 X3 (by have:=(K2.trans K3).size; exact this) K5 hb5 g5 hlt
  have hc:¬ KN s i=118∧¬ KN s i=101:=by
   rw [Bool.or_eq_false_iff,decide_eq_false_iff_not,decide_eq_false_iff_not] at hc
   exact hc
  rw [if_neg hc.1,if_neg hc.2] at finG finX
  rw [u8_c (d:=91) (n:=91) rfl,u8_c (d:=123) (n:=123) rfl,show ((8 - (d+1):Nat):Int)=((7 - d:Nat):Int) by omega]
  refine KP (fun hc=>?_) (fun hc=>?_)
  ·have hcc:=of_decide_eq_true hc
   have hil:i < s.length:=J2 (by rw [hcc]; decide)
   rw [if_pos hcc] at finG finX
   refine NW R1 hil (fun h2 u2 R2=>?_)
   have hu2:=u2.size
   have Ku:Kb b h1 h2:=Km.upd u2 rfl
   refine KE (WX (Wq _ _ _ _) (KMt (two:=false) (en:=93) (by omega) IH (by decide) (by decide) R2 hil (fun l j h3 r hl K3 R3 V3=>?_) (fun e h3 hl K3 X3=>?_)))
   ·exact finG (.mk 4 0 [] l) _ j h3 (by rw [hl]) (Ku.trans K3) R3 (KEV ⟨by decide,by decide⟩ i0 (V3.same (fun _ _=>rfl) (fun k hk=>⟨by have:=hk.1; omega,hk.2⟩)))
   ·exact finX (.mk 4 0 [] []) _ e h3 (by rw [hl]) (Ku.trans K3) X3 (scal ⟨by decide,by decide⟩ i0 (by decide))
  rw [if_neg (of_decide_eq_false hc)] at finG finX
  refine KP (fun hc=>?_) (fun hc=>?_)
  ·have hcc:=of_decide_eq_true hc
   have hil:i < s.length:=J2 (by rw [hcc]; decide)
   rw [if_pos hcc] at finG finX
   refine NW R1 hil (fun h2 u2 R2=>?_)
   have hu2:=u2.size
   have Ku:Kb b h1 h2:=Km.upd u2 rfl
   refine KE (WX (Wq _ _ _ _) (KMt (two:=true) (en:=125) (by omega) IH (by decide) (by decide) R2 hil (fun l j h3 r hl K3 R3 V3=>?_) (fun e h3 hl K3 X3=>?_)))
   ·exact finG (.mk 5 0 [] l) _ j h3 (by rw [hl]) (Ku.trans K3) R3 (KEV ⟨by decide,by decide⟩ i0 (V3.same (fun _ _=>rfl) (fun k hk=>⟨by have:=hk.1; omega,hk.2⟩)))
   ·exact finX (.mk 5 0 [] []) _ e h3 (by rw [hl]) (Ku.trans K3) X3 (scal ⟨by decide,by decide⟩ i0 (by decide))
  rw [if_neg (of_decide_eq_false hc)] at finX
  exact Ww R1 (fun h2 u2 X2=>finX (.mk 0 0 [] []) (ZT 0 0 [] Sl.nil) i h2 rfl (Km.upd u2 rfl) X2 (KOb _ _))
theorem KJP {s:List UInt8} {h:Heap} {Q:Array Value × Int × Int→Heap→Prop} (hs:s.length≤1099511627776)
  (H:∀ h' c,Ext h h'→ZK (h.size≤·) h' (VL s).1 c→Q (c,((VL s).2.1:Int),(VL s).2.2) h'):(VF (bs s)).wp h Q:=by
 unfold VF
 refine ZU (fun h1 e1 s1 g1=>KNR ?_)
 have e2:=Ext.push h1 (.cells (#[.string (bs s),.int .i64 0,.int .i64 (-1)]:Array Value) Za)
 have g2:(h1.push (.cells (#[.string (bs s),.int .i64 0,.int .i64 (-1)]:Array Value) Za))[h1.size]?=some (.cells (#[.string (bs s),.int .i64 0,.int .i64 (-1)]:Array Value) Za (0,0)):=Kf
 have s2:(h1.push (.cells (#[.string (bs s),.int .i64 0,.int .i64 (-1)]:Array Value) Za)).size=h1.size+1:=Array.size_push ..
 generalize h1.push (.cells (#[.string (bs s),.int .i64 0,.int .i64 (-1)]:Array Value) Za)=h2 at e2 g2 s2 ⊢
 have R2:Rgd h2 h1.size s 0:=⟨g2,Nat.zero_le _,hs⟩
 have g1':h2[h.size]?=some (.cells vz KB (0,0)):=e2.blk g1
 have endX:∀ (e:Nat) (h5:Heap) (p:Nat),VL s=(vl0,e,22)→Kb h1.size h2 h5→Rx h5 h1.size s e→(JT ⟨h.size,0,none⟩ (some ⟨h1.size,0,none⟩) ⟨p,0,none⟩).wp h5 Q:=by
  intro e h5 p hP K5 X5
  rw [hP] at H
  have g5:=K5.blk g1' (show ¬ h.size=h1.size by omega)
  unfold JT
  refine ZD (KJO X5 (iteT (decide_eq_true (by omega)) (ZD (KJO X5 ?_))))
  refine Z0 rfl (stR (cs:=vz) (vs:=ZT 0 0 [] Sl.nil) g5 (Nat.le_refl 4) (JF 0 0 [] Sl.nil) (fun h6 u6 g6=>?_))
  rw [K0 (cs:=vz) (vs:=(ZT 0 0 [] Sl.nil).toList) rfl] at g6
  have X6:=X5.upd u6 (by omega)
  refine KEn ?_ (ldR g6 rfl (KC (H h6 _ ?_ (KAB _ _))))
  ·obtain ⟨q,_,_,q3⟩:=X6
   rw [Kg,KU q3]; rfl
  ·refine ⟨by have:=K5.size; have:=u6.size; omega,fun i hi=>?_⟩
   exact (u6.ne i (by omega)).trans ((K5.same i (by omega) (by omega)).trans ((e2.same i (by omega)).trans (e1.same i hi)))
 refine KE (KJ9 s 8 (by decide) 0 h2 _ h1.size R2 (fun v j h3 c hv K3 R3 V3=>?_) (fun e v h3 c hv K3 X3 V3=>?_))
 ·refine ZU (fun h4 e4 s4 g4=>Z0 V3.size (stR g4 (by rw [V3.size]; exact Nat.le_refl 4) V3.to.one (fun h5 u5 g5=>?_)))
  rw [K0 (cs:=vz) (vs:=c.toList) (by rw [Array.length_toList,V3.size]; rfl),Array.toArray_toList] at g5
  have hK3:=K3.size
  have hu5:=u5.size
  have K5:Kb h1.size h2 h5:=K3.trans ⟨by omega,fun q hq _=>(u5.ne q (by omega)).trans (e4.same q hq)⟩
  have R5:Rgd h5 h1.size s j:=⟨(u5.ne _ (by omega)).trans (e4.blk R3.blk),R3.le,R3.small⟩
  have V5:ZK (HS h2 h3) h5 v c:=V3.same (fun k hk=>(u5.ne k (by have:=hk.2; omega)).trans (e4.same k hk.2))
  refine ZD (KKx R5 ?_)
  refine U1 (c:=decide (j < s.length)) (fun _ Q' hq=>ZD (KFU R5 (KC ?_))) ?_
  ·rw [ZO,show decide ((j:Int) < (s.length:Int))=decide (j < s.length) from decide_eq_decide.2 (by omega)]
   exact hq
  refine KP (fun hc=>?_) (fun hc=>?_)
  ·have hj:j < s.length:=by simpa using hc
   have hP:VL s=(vl0,j,22):=by unfold VL KF4; rw [hv]; dsimp only; rw [if_pos hj]
   exact Ww R5 (fun h6 u6 X6=>endX j h6 _ hP (K5.trans (Km.upd u6 rfl)) X6)
  ·have hj:¬ j < s.length:=by simpa using hc
   have hR:KF4 s=.ok v:=by unfold KF4; rw [hv]; dsimp only; rw [if_neg hj]
   unfold JT
   have g5':=K5.blk g1' (show ¬ h.size=h1.size by omega)
   refine ZD (KKx R5 (iteF rfl (ldR g5 V3.size (KE (KE9 V5.to (fun h6 e6=>?_))))))
   have g6:=e6.blk g5
   have g6':=e6.blk g5'
   have E6:Ext h h6:=⟨by have:=e6.size; omega,fun i hi=>(e6.same i (by omega)).trans ((K5.same i (by omega) (by omega)).trans ((e2.same i (by omega)).trans (e1.same i hi)))⟩
   unfold Nz
   by_cases hm:mayV 8 v=true
   ·rw [if_pos hm]
    have hP:VL s=(v,0,0):=by unfold VL; rw [hR]; dsimp only; rw [if_pos hm]
    rw [hP] at H
    refine iteF rfl (ldR g6 V3.size (Z0 V3.size (stR g6' (by rw [V3.size]; exact Nat.le_refl 4) V3.to.one (fun h7 u7 g7=>?_))))
    rw [K0 (cs:=vz) (vs:=c.toList) (by rw [Array.length_toList,V3.size]; rfl),Array.toArray_toList] at g7
    refine ldR g7 V3.size (KC (H h7 c (E6.upd u7 (Nat.le_refl _)) ?_))
    exact (V5.same (fun k hk=>(u7.ne k (by have:=hk.1; omega)).trans (e6.same k (by have:=hk.2; omega)))).mono (fun k hk=>by have:=hk.1; omega)
   ·rw [if_neg hm]
    have hP:VL s=(vl0,0,20):=by unfold VL; rw [hR]; dsimp only; rw [if_neg hm]
    rw [hP] at H
    refine iteT rfl (Z0 rfl (stR (cs:=vz) (vs:=ZT 0 0 [] Sl.nil) g6' (Nat.le_refl 4) (JF 0 0 [] Sl.nil) (fun h7 u7 g7=>?_)))
    rw [K0 (cs:=vz) (vs:=(ZT 0 0 [] Sl.nil).toList) rfl] at g7
    exact ldR g7 rfl (KC (H h7 _ (E6.upd u7 (Nat.le_refl _)) (KAB _ _)))
 ·have hP:VL s=(vl0,e,22):=by unfold VL KF4; rw [hv]
  refine ZU (fun h4 e4 s4 g4=>Z0 V3.size (stR g4 (by rw [V3.size]; exact Nat.le_refl 4) V3.to.one (fun h5 u5 g5=>?_)))
  have hK3:=K3.size
  have hu5:=u5.size
  have K5:Kb h1.size h2 h5:=K3.trans ⟨by omega,fun q hq _=>(u5.ne q (by omega)).trans (e4.same q hq)⟩
  have X5:Rx h5 h1.size s e:=(X3.ext e4).upd u5 (by omega)
  refine ZD (KJO X5 ?_)
  refine U1 (c:=false) (fun hh=>absurd (of_decide_eq_true hh) (by omega)) ?_
  rw [Bool.and_false]
  exact iteF rfl (endX e h5 _ hP K5 X5)
end Gx
namespace Gx
open Go
set_option linter.unusedVariables false
set_option linter.unusedSimpArgs false
def KDC (s:List UInt8):Bool:=decide (s=[]∨s.getLast?=some 10)
theorem KKy {s:List UInt8} {h:Heap} {Q:Bool→Heap→Prop} (hs:s.length≤1099511627776) (H:Q (decide (s.getLast?=some 10)) h):(WR (bs s) (⟨#[10]⟩:ByteArray)).wp h Q:=by
 unfold WR
 refine KE ?_
 unfold Z3
 rw [ZO,show ((⟨#[10]⟩:ByteArray).size:Int)=1 from rfl]
 refine KE (KP (fun hc=>?_) (fun hc=>KC (KC (KC ?_))))
 ·have hc:1≤s.length:=by have:=of_decide_eq_true hc; omega
  rw [w64 (by omega) (by omega)]
  refine KHL (a:=s.length - 1) (b:=s.length) (by omega) rfl (by omega) (Nat.le_refl _) (KC (KC (KC ?_)))
  have hl:(s.drop (s.length - 1)).take (s.length - (s.length - 1))=[s[s.length - 1]]:=by
   rw [show s.length - (s.length - 1)=1 by omega,List.drop_eq_getElem_cons (by omega)]
   rfl
  rw [hl,show (⟨#[10]⟩:ByteArray)=bs [10] from rfl,zy]
  rw [List.getLast?_eq_getElem?,List.getElem?_eq_getElem (by omega)] at H
  rw [show decide ([s[s.length - 1]]=[(10:UInt8)])=decide (some s[s.length - 1]=some (10:UInt8)) from decide_eq_decide.2 ⟨fun h=>congrArg some (List.cons.inj h).1,fun h=>congrArg (fun x=>[x]) (Option.some.inj h)⟩]
  exact H
 ·have hc:s=[]:=List.length_eq_zero_iff.1 (by have:=of_decide_eq_false hc; omega)
  subst hc
  exact H
def KOc (c3 c4 c5 c6:Addr):(Int × ByteArray)→M Nat:=fun x=>match x with
 | (x11,x12)=>do
  let x13←ldV c3
  let x15←V7 Go.Proofs.Tryz.prog (fun r:Bool=>.bool r) x13 [.string x12]
  M.ite (!x15) (do
   stV c4 (.int .i64 x11)
   stV c5 (.int .i64 230)
   M.pure 1
   ) (do
   stV c6 (.int .i64 x11)
   M.pure 0
   )
structure RdJ (h0:Heap) (one:Value) (n:Nat) (h:Heap):Prop where
 size:h0.size+7≤h.size
 c0:h[h0.size]?=some (.cells #[one] KLi (0,0))
 c1:∃ v,h[h0.size+1]?=some (.cells #[v] VY (0,0))
 c2:∃ v,h[h0.size+2]?=some (.cells #[v] UP (0,0))
 c3:h[h0.size+3]?=some (.cells #[.int .i64 (n:Int)] VY (0,0))
 df:h[h0.size+5]?=some (.deferred (some []))
structure RdE (h0:Heap) (n:Nat) (h:Heap):Prop where
 size:h0.size+7≤h.size
 c1:h[h0.size+1]?=some (.cells #[.int .i64 (n:Int)] VY (0,0))
 c2:h[h0.size+2]?=some (.cells #[.int .i64 230] UP (0,0))
 df:h[h0.size+5]?=some (.deferred (some []))
theorem KJQ {s:List UInt8} {one:Value} {ok:Nat→Bool} {I:Nat→Heap→Prop} {E:Heap→Prop} {h:Heap} {Q:Int × Int→Heap→Prop} (hs:s.length≤1048576) (hone1:Gx.one one=true)
  (hI:∀ i h1 h2 k,I i h1→Upd k h1 h2→h.size≤k→k < h.size+7→I i h2) (hE:∀ h1 h2 k,E h1→Upd k h1 h2→h.size≤k→k < h.size+7→E h2)
  (h0:∀ h1,Ext h h1→h1.size=h.size+7→I 0 h1)
  (hone:∀ i (hi:i < (Ko s).length) h1,h.size+7≤h1.size→I i h1→(V7 Go.Proofs.Tryz.prog (fun r:Bool=>.bool r) one [.string (bs (Ko s)[i])]).wp h1 (fun r h2=>h1.size≤h2.size∧(∀ k,h.size≤k→k < h.size+7→h2[k]?=h1[k]?)∧r=ok i∧(ok i=true→I (i+1) h2)∧(ok i=false→E h2)))
  (H0:(∀ i,i < (Ko s).length→ok i=true)→∀ h',h.size+7≤h'.size→I (Ko s).length h'→Q (if KDC s=true then (0,0) else (((Ko s).length:Int),230)) h')
  (H1:∀ i,i < (Ko s).length→(∀ k,k < i→ok k=true)→ok i=false→∀ h',h.size+7≤h'.size→E h'→Q (((i+1:Nat):Int),230) h'):(Y5 (bs s) one).wp h Q:=by
 unfold Y5
 have hll:=qf _ s (Nat.le_refl _)
 rw [show Value.cells one=#[one] by cases one <;> first | rfl | cases hone1]
 refine ZU (fun h1 e1 s1 g1=>ZU (fun h2 e2 s2 g2=>ZU (fun h3 e3 s3 g3=>ZU (fun h4 e4 s4 g4=>?_))))
 rw [show h1.size=h.size+1 from s1] at g2 ⊢
 rw [show h2.size=h.size+2 by omega] at g3 ⊢
 rw [show h3.size=h.size+3 by omega] at g4 ⊢
 refine Wl (ZA g4) (KZ g4) rfl ?_
 have u5:=Upd.hset h4 (h.size+3) 0 (.int .i64 0)
 have g5:(hset h4 ⟨h.size+3,0,none⟩ (.int .i64 0))[h.size+3]?=some (.cells #[.int .i64 0] VY (0,0)):=KAD g4
 generalize hset h4 ⟨h.size+3,0,none⟩ (.int .i64 0)=h5 at u5 g5 ⊢
 have hu5:=u5.size
 have g1':h5[h.size]?=some (.cells #[one] KLi (0,0)):=(u5.ne _ (by omega)).trans ((e2.trans (e3.trans e4)).blk g1)
 have g2':h5[h.size+1]?=some (.cells #[.int .i64 0] VY (0,0)):=(u5.ne _ (by omega)).trans ((e3.trans e4).blk g2)
 have g3':h5[h.size+2]?=some (.cells #[.int .i64 0] UP (0,0)):=(u5.ne _ (by omega)).trans (e4.blk g3)
 unfold zt
 refine Ud (ZU (fun hA e6 s6 g6=>Jr ?_))
 have hz6:hA.size=h.size+5:=by omega
 rw [show h5.size=h.size+4 by omega] at g6 ⊢
 have EA:Ext h hA:=((e1.trans (e2.trans (e3.trans e4))).upd u5 (by omega)).trans e6
 have hkeep:∀ k,k < h.size+4→hA[k]?=h5[k]?:=fun k hk=>e6.same k (by omega)
 have fin:∀ (h7:Heap) (P:Int × Int→Prop) (c:Nat × Nat) (v1 v2:Int),h7[h.size+1]?=some (.cells #[.int .i64 v1] VY (0,0))→h7[h.size+2]?=some (.cells #[.int .i64 v2] UP (0,0))→h7[h.size+5]?=some (.deferred (some []))→c.2=h.size+5 →
   (∀ h8,Upd (h.size+5) h7 h8→Q (v1,v2) h8)→(shut (c.2::[])>>=fun _=>ldI .i64 ⟨h.size+1,0,none⟩>>=fun r4=>ldI .i64 ⟨h.size+2,0,none⟩>>=fun r5=>(M.pure (r4,r5):M (Int × Int))).wp h7 Q:=by
  intro h7 P c v1 v2 q1 q2 q5 hc hq
  rw [hc]
  have u8:=Upd.set_ h7 (h.size+5) (.deferred none)
  refine ⟨q5,?_⟩
  exact Zm (ZA ((u8.ne _ (by omega)).trans q1)) (Zm (ZA ((u8.ne _ (by omega)).trans q2)) (KC (hq _ u8)))
 have hupd:∀ {k:Nat} {h1 h2:Heap} {n:Nat},RdJ h one n h1→Upd k h1 h2→(k=h.size+4∨k=h.size+6)→RdJ h one n h2:=by
  intro k h1 h2 n J u hk
  obtain ⟨v1,c1⟩:=J.c1
  obtain ⟨v2,c2⟩:=J.c2
  exact ⟨by rw [u.size]; exact J.size,(u.ne _ (by omega)).trans J.c0,⟨v1,(u.ne _ (by omega)).trans c1⟩,⟨v2,(u.ne _ (by omega)).trans c2⟩,(u.ne _ (by omega)).trans J.c3,(u.ne _ (by omega)).trans J.df⟩
 have hupE:∀ {k:Nat} {h1 h2:Heap} {n:Nat},RdE h n h1→Upd k h1 h2→(k=h.size+4∨k=h.size+6)→RdE h n h2:=by
  intro k h1 h2 n J u hk
  exact ⟨by rw [u.size]; exact J.size,(u.ne _ (by omega)).trans J.c1,(u.ne _ (by omega)).trans J.c2,(u.ne _ (by omega)).trans J.df⟩
 refine KE (KRw (Yb:=KOc ⟨h.size,0,none⟩ ⟨h.size+1,0,none⟩ ⟨h.size+2,0,none⟩ ⟨h.size+3,0,none⟩) (fun l x=>rfl) (c:=.ret) rfl (fun l hh=>by cases hh) (xs:=lnP 1 (Ko s)) (b:=h.size+4)
  (fun i h7=>(∀ k,k < i→ok k=true)∧RdJ h one i h7∧I i h7)
  (fun h7=>∃ i,i < (Ko s).length∧(∀ k,k < i→ok k=true)∧ok i=false∧RdE h (i+1) h7∧E h7) ?_ ?_ ?_ g6 (KKp (by omega)) ?_ ?_ ?_ ?_)
 ·rw [hz6]
  exact fun i h7 h8 hj u=>⟨hj.1,hupd hj.2.1 u (.inr rfl),hI _ _ _ _ hj.2.2 u (by omega) (by omega)⟩
 ·rw [hz6]
  rintro h7 h8 ⟨i,a1,a2,a3,a4,a5⟩ u
  exact ⟨i,a1,a2,a3,hupE a4 u (.inr rfl),hE _ _ _ a5 u (by omega) (by omega)⟩
 ·exact fun i h7 h8 hj u=>⟨hj.1,hupd hj.2.1 u (.inl rfl),hI _ _ _ _ hj.2.2 u (by omega) (by omega)⟩
 ·intro r
  have e7:Ext hA ((hA.push (.deferred (some []))).push (XN r .ready none)):=(Ext.push _ _).pushed _
  have hk:∀ k,k < h.size+4→((hA.push (.deferred (some []))).push (XN r .ready none))[k]?=h5[k]?:=fun k hk=>(e7.same k (by omega)).trans (hkeep k hk)
  refine ⟨fun k hk=>absurd hk (Nat.not_lt_zero _),⟨by simp; omega,(hk _ (by omega)).trans g1',⟨_,(hk _ (by omega)).trans g2'⟩,⟨_,(hk _ (by omega)).trans g3'⟩,(hk _ (by omega)).trans g5,?_⟩,h0 _ (EA.trans e7) (by simp; omega)⟩
  rw [Wy (by simp; omega),← hz6]; exact Kf
 ·rintro i hi h7 o ⟨hok,J,hIi⟩ ho
  rw [KB3] at hi
  rw [KMZ (by rw [KB3]; exact hi)]
  unfold KOc
  dsimp only
  refine ⟨one,ZA J.c0,KE ((V7 _ _ _ _).mono ?_ (hone i hi h7 J.size hIi))⟩
  rintro r h8 ⟨hs8,hk8,rfl,ht,hf⟩
  have k8:∀ {k:Nat} {o:Obj},h7[k]?=some o→h.size≤k→k < h.size+7→h8[k]?=some o:=fun hq ha hb=>(hk8 _ ha hb).trans hq
  obtain ⟨v1,c1⟩:=J.c1
  obtain ⟨v2,c2⟩:=J.c2
  have hz:=J.size
  have hz6':h.size+6=hA.size+1:=by omega
  cases hoi:ok i with
  | true =>
   refine iteF rfl ?_
   have c3:=k8 J.c3 (by omega) (by omega)
   refine Wl (ZA c3) (KZ c3) rfl (KC ?_)
   have u9:=Upd.hset h8 (h.size+3) 0 (.int .i64 ((1+i:Nat):Int))
   have g9:=KAD (u:=.int .i64 ((1+i:Nat):Int)) c3
   rw [show 1+i=i+1 by omega] at u9 g9 ⊢
   refine ⟨(u9.ne _ (by omega)).trans (k8 ho (by omega) (by omega)),(u9.ne _ (by omega)).trans (hk8 _ (by omega) (by omega)),.inl ⟨rfl,fun k hk=>?_,⟨by rw [u9.size]; omega,(u9.ne _ (by omega)).trans (k8 J.c0 (by omega) (by omega)),⟨v1,(u9.ne _ (by omega)).trans (k8 c1 (by omega) (by omega))⟩,⟨v2,(u9.ne _ (by omega)).trans (k8 c2 (by omega) (by omega))⟩,g9,(u9.ne _ (by omega)).trans (k8 J.df (by omega) (by omega))⟩,hI _ _ _ _ (ht hoi) u9 (by omega) (by omega)⟩⟩
   rcases Nat.lt_or_ge k i with h' | h'
   ·exact hok k h'
   ·have:k=i:=by omega
    subst this; exact hoi
  | false =>
   refine iteT rfl ?_
   have c1':=k8 c1 (by omega) (by omega)
   refine Wl (ZA c1') (KZ c1') rfl ?_
   have u9:=Upd.hset h8 (h.size+1) 0 (.int .i64 ((1+i:Nat):Int))
   have g9:=KAD (u:=.int .i64 ((1+i:Nat):Int)) c1'
   generalize hset h8 ⟨h.size+1,0,none⟩ (.int .i64 ((1+i:Nat):Int))=h9 at u9 g9 ⊢
   have c2':h9[h.size+2]?=some (.cells #[v2] UP (0,0)):=(u9.ne _ (by omega)).trans (k8 c2 (by omega) (by omega))
   refine Wl (ZA c2') (KZ c2') rfl (KC ?_)
   have uA:=Upd.hset h9 (h.size+2) 0 (.int .i64 230)
   have gA:=KAD (u:=.int .i64 230) c2'
   rw [show 1+i=i+1 by omega] at g9
   have hz9:=u9.size
   refine ⟨(uA.ne _ (by omega)).trans ((u9.ne _ (by omega)).trans (k8 ho (by omega) (by omega))),(uA.ne _ (by omega)).trans ((u9.ne _ (by omega)).trans (hk8 _ (by omega) (by omega))),.inr ⟨rfl,i,hi,hok,hoi,⟨by rw [uA.size]; omega,(uA.ne _ (by omega)).trans g9,gA,(uA.ne _ (by omega)).trans ((u9.ne _ (by omega)).trans (k8 J.df (by omega) (by omega)))⟩,?_⟩⟩
   exact hE _ _ _ (hE _ _ _ (hf hoi) u9 (by omega) (by omega)) uA (by omega) (by omega)
 ·rintro h7 ⟨hok,J,hIn⟩
  rw [KB3] at hok J hIn
  refine iteF rfl ?_
  obtain ⟨v1,c1⟩:=J.c1
  obtain ⟨v2,c2⟩:=J.c2
  have hz:=J.size
  rw [show (ByteArray.empty:ByteArray)=bs [] from rfl,zy]
  refine U1 (c:=!decide (s.getLast?=some 10)) (fun _ Q' hq=>KE (KKy (by omega) (KC hq))) ?_
  rw [show (!decide (s=[]) && !decide (s.getLast?=some 10))=!KDC s by unfold KDC; rw [Bool.decide_or,Bool.not_or]]
  have hstep:∀ (x1 x2:Int),(∀ h8,h.size+7≤h8.size→I (Ko s).length h8→Q (x1,x2) h8)→(stV ⟨h.size+1,0,none⟩ (.int .i64 x1)>>=fun _=>stV ⟨h.size+2,0,none⟩ (.int .i64 x2)>>=fun _=>shut (((0:Nat),hA.size).2::[])>>=fun _=>ldI .i64 ⟨h.size+1,0,none⟩>>=fun r4=>ldI .i64 ⟨h.size+2,0,none⟩>>=fun r5=>(M.pure (r4,r5):M (Int × Int))).wp h7 Q:=by
   intro x1 x2 hq
   refine Wl (ZA c1) (KZ c1) rfl ?_
   have u8:=Upd.hset h7 (h.size+1) 0 (.int .i64 x1)
   have g8:=KAD (u:=.int .i64 x1) c1
   generalize hset h7 ⟨h.size+1,0,none⟩ (.int .i64 x1)=h8 at u8 g8 ⊢
   have c2':h8[h.size+2]?=some (.cells #[v2] UP (0,0)):=(u8.ne _ (by omega)).trans c2
   refine Wl (ZA c2') (KZ c2') rfl ?_
   have u9:=Upd.hset h8 (h.size+2) 0 (.int .i64 x2)
   have g9:=KAD (u:=.int .i64 x2) c2'
   generalize hset h8 ⟨h.size+2,0,none⟩ (.int .i64 x2)=h9 at u9 g9 ⊢
   have hz8:=u8.size
   have hz9:=u9.size
   refine fin h9 (fun _=>True) (0,hA.size) x1 x2 ((u9.ne _ (by omega)).trans g8) g9 ((u9.ne _ (by omega)).trans ((u8.ne _ (by omega)).trans J.df)) hz6 (fun hB uB=>hq hB (by rw [uB.size]; omega) ?_)
   exact hI _ _ _ _ (hI _ _ _ _ (hI _ _ _ _ hIn u8 (by omega) (by omega)) u9 (by omega) (by omega)) uB (by omega) (by omega)
  refine KP (fun hb=>?_) (fun hb=>?_)
  ·have hb:KDC s=false:=by simpa using hb
   rw [hb] at H0
   refine Zm (ZA J.c3) ?_
   exact hstep _ _ (fun h8 hz8 hI8=>H0 hok h8 hz8 hI8)
  ·have hb:KDC s=true:=by simpa using hb
   rw [hb] at H0
   exact hstep _ _ (fun h8 hz8 hI8=>H0 hok h8 hz8 hI8)
 ·rintro h7 ⟨i,hi,hok,hoi,J,hEi⟩
  refine iteT rfl ?_
  have hz:=J.size
  refine fin h7 (fun _=>True) (1,hA.size) _ _ J.c1 J.c2 J.df hz6 (fun h8 u8=>H1 i hi hok hoi h8 (by rw [u8.size]; omega) (hE _ _ _ hEi u8 (by omega) (by omega)))
end Gx
namespace Gx
open Go
set_option linter.unusedVariables false
set_option linter.unusedSimpArgs false
theorem ErrV.lt5 {h:Heap} (he:ErrV h):5 < h.size:=by
 obtain ⟨t,p,hc⟩:=he
 exact KAO hc
theorem KPl:∀ s:List UInt8,(cutL s).1.length≤s.length∧(cutL s).2.length≤s.length:=fun s=>by
 obtain ⟨_,h2⟩:=KJG s
 by_cases hm:(10:UInt8) ∈ s
 ·rw [if_pos hm] at h2
  have:=congrArg List.length h2
  rw [List.length_append,List.length_cons] at this
  omega
 ·rw [if_neg hm] at h2
  rw [h2]
  simp
theorem KKA (s:List UInt8):∀ i (hi:i < (Ko s).length),(Ko s)[i].length≤s.length:=by
 have key:∀ (m:Nat) (s:List UInt8),s.length≤m→∀ t ∈ Ko s,t.length≤s.length:=by
  intro m
  induction m with
  | zero =>
   intro s hs t ht
   have:s=[]:=List.length_eq_zero_iff.1 (by omega)
   subst this
   rw [WU] at ht
   cases ht
  | succ m ih =>
   intro s hs t ht
   by_cases h:s=[]
   ·subst h; rw [WU] at ht; cases ht
   ·rw [YD h] at ht
    have h1:=KPl s
    have h2:=KDB s h
    rcases List.mem_cons.1 ht with rfl | ht
    ·exact h1.1
    ·have:=ih _ (by omega) t ht
     omega
 exact fun i hi=>key _ s (Nat.le_refl _) _ (List.getElem_mem hi)
abbrev OwnS (lo:Nat) (h:Heap) (r:Sl):Nat→Prop:=fun k=>lo≤k∧k < h.size∧¬ Sl.on r k
def KMu (ok:Nat→Bool) (n:Nat):Option Nat:=(List.range n).find? (fun i=>!ok i)
theorem KDs {ok:Nat→Bool} {n:Nat} (h:∀ i,i < n→ok i=true):KMu ok n=none:=by
 unfold KMu
 rw [List.find?_eq_none]
 intro i hi
 rw [h i (List.mem_range.1 hi)]
 decide
theorem KGS {ok:Nat→Bool} {n i:Nat} (hi:i < n) (h:∀ k,k < i→ok k=true) (hf:ok i=false):KMu ok n=some i:=by
 unfold KMu
 rw [List.find?_eq_some_iff_append]
 refine ⟨by rw [hf]; rfl,List.range i,List.range' (i+1) (n - (i+1)),?_,fun k hk=>by rw [h k (List.mem_range.1 hk)]; rfl⟩
 rw [List.range_eq_range',List.range_eq_range',show n=i+(1+(n - (i+1))) by omega,← List.range'_append_1,Nat.zero_add]
 congr 1
 rw [show i+(1+(n - (i+1))) - (i+1)=n - (i+1) by omega,Nat.add_comm 1,List.range'_succ]
end Gx
namespace Gx
open Go
set_option linter.unusedVariables false
set_option linter.unusedSimpArgs false
theorem KMv {s:List UInt8} {h:Heap} {Q:Bool→Heap→Prop} (hs:s.length≤1099511627776) (H:Q (KDC s) h):(Vb (bs s)).wp h Q:=by
 unfold Vb
 rw [show (ByteArray.empty:ByteArray)=bs [] from rfl,zy,ZO]
 refine or_b (c:=decide (s.getLast?=some 10)) (fun hne Q' hq=>?_) (KC ?_)
 ·have hne:s≠[]:=of_decide_eq_false hne
  have hl:0 < s.length:=List.length_pos_iff.2 hne
  rw [w64 (by omega) (by omega)]
  refine Nn (i:=s.length - 1) (by omega) (by omega) (KC ?_)
  rw [List.getLast?_eq_getElem?,List.getElem?_eq_getElem (by omega)] at hq
  rw [u8_c (d:=10) (n:=10) rfl,show decide (s[s.length - 1]=10)=decide (some s[s.length - 1]=some 10) from decide_eq_decide.2 ⟨congrArg some,Option.some.inj⟩]
  exact hq
 ·rw [← Bool.decide_or]
  exact H
end Gx
namespace Gx
open Go
set_option linter.unusedVariables false
set_option linter.unusedSimpArgs false
abbrev Ct:=Vl × Int
structure CsRep (h:Heap) (x:Sl) (l:List Ct):Prop where
 len:x.len=l.length
 cap:x.len≤x.cap
 big:x.len≤9223372036854775807
 at_:∀ j (hj:j < l.length),∃ a c,x.base=some a∧c.size=4∧(∀ m,m < 4→KO h (a.add (j * 5+m))=c[m]?)∧KO h (a.add (j * 5+4))=some (.int .i64 l[j].2)∧I64 l[j].2∧VRep h l[j].1 c
theorem CsRep.ext {h h':Heap} {x:Sl} {l:List Ct} (H:CsRep h x l) (e:Ext h h'):CsRep h' x l :=
 ⟨H.len,H.cap,H.big,fun j hj=>by
  obtain ⟨a,c,h1,h2,h3,h4,h5,h6⟩:=H.at_ j hj
  exact ⟨a,c,h1,h2,e.row h2 h3,e.cell h4,h5,h6.ext e⟩⟩
theorem CsRep.nil (h:Heap):CsRep h Sl.nil []:=⟨rfl,Nat.le_refl _,by decide,fun j hj=>by cases hj⟩
theorem KB4 {β:Type} {h:Heap} {Q:β→Heap→Prop} {x:Sl} {l:List Ct} {i:Nat} {t:Int} {f:Addr→M β} (H:CsRep h x l) (hi:i < l.length) (ht:t=(i:Int))
  (hq:∀ a c,c.size=4→(∀ m,m < 4→KO h (a.add m)=c[m]?)→KO h (a.add 4)=some (.int .i64 l[i].2)→I64 l[i].2→VRep h l[i].1 c→(f a).wp h Q):(ixL x t 5>>=f).wp h Q:=by
 obtain ⟨a,c,ha,hs,hcs,hn,hI,hv⟩:=H.at_ i hi
 have:=H.len
 subst ht
 refine Xi (by omega) (by omega) ha (hq _ c hs (fun m hm=>?_) ?_ hI hv)
 ·rw [Addr.add_add,show (i:Int).toNat * 5=i * 5 by omega]
  exact hcs m hm
 ·rw [Addr.add_add,show (i:Int).toNat * 5=i * 5 by omega]
  exact hn
theorem Ext.row0 {h h':Heap} (e:Ext h h') {a:Addr} {cs:Array Value} {n:Nat} (hs:cs.size=n) (H:∀ m,m < n→KO h (a.add m)=cs[m]?):∀ m,m < n→KO h' (a.add m)=cs[m]?:=fun m hm=>by
 have:=e.row (i:=0) hs (fun m hm=>by rw [Nat.zero_add]; exact H m hm) m hm
 rwa [Nat.zero_add] at this
def crow (c:Array Value) (n:Int):Array Value:=c.push (.int .i64 n)
theorem Wx {c:Array Value} {n:Int} (hc:c.size=4):(crow c n).size=5:=by simp [crow,hc]
theorem KKB {h:Heap} {a:Addr} {c:Array Value} {n:Int} (hc:c.size=4) (hcs:∀ m,m < 4→KO h (a.add m)=c[m]?) (hn:KO h (a.add 4)=some (.int .i64 n)):∀ m,m < 5→KO h (a.add m)=(crow c n)[m]?:=fun m hm=>by
 unfold crow
 by_cases h4:m < 4
 ·rw [Array.getElem?_push,if_neg (by omega)]; exact hcs m h4
 ·have:m=4:=by omega
  subst this
  rw [Array.getElem?_push,if_pos hc.symm]; exact hn
theorem KHU {h:Heap} {v:Vl} {c:Array Value} {n:Int} (hv:VRep h v c):∀ u ∈ (crow c n).toList,one u=true:=fun u hu=>by
 unfold crow at hu
 rw [Array.toList_push,List.mem_append] at hu
 rcases hu with hu | hu
 ·exact hv.one u hu
 ·simp at hu; subst hu; rfl
theorem KN8 {c:Array Value} {n:Int} (hc:c.size=4):∀ m,m < 4→(crow c n)[m]?=c[m]?:=fun m hm=>by
 unfold crow
 rw [Array.getElem?_push,if_neg (by omega)]
theorem KN9 {c:Array Value} {n:Int} (hc:c.size=4):(crow c n)[4]?=some (.int .i64 n):=by
 unfold crow
 rw [Array.getElem?_push,if_pos hc.symm]
def bagI:Int→Option Vl→List Ct→Bool
 | _,_,[]=>true
 | left,p,(v,n)::r=>(decide (1≤n) && decide (n≤left)) && (mayV 8 v && ((p.all fun q=>decide (cmpV q v < 0)) && bagI (left - n) (some v) r))
def KDt (l:List Ct):Bool:=bagI 9007199254740992 none l
def bagE (l:List Ct):Int:=if KDt l=true then 0 else 210
def KFY (l:List Ct) (i:Nat):Option Vl:=if i=0 then none else (l[i - 1]?).map (·.1)
theorem KIW {left:Int} {l:List Ct} {i:Nat} (hi:i < l.length):bagI left (KFY l i) (l.drop i)=((decide (1≤l[i].2) && decide (l[i].2≤left)) && (mayV 8 l[i].1 && (((KFY l i).all fun q=>decide (cmpV q l[i].1 < 0)) && bagI (left - l[i].2) (KFY l (i+1)) (l.drop (i+1))))):=by
 rw [List.drop_eq_getElem_cons hi,bagI]
 have:KFY l (i+1)=some l[i].1:=by
  unfold KFY
  rw [if_neg (by omega),Nat.add_sub_cancel,List.getElem?_eq_getElem hi]; rfl
 rw [this]
theorem KIX (v:Vl):(Nz v != 0)=!mayV 8 v:=by
 unfold Nz
 cases mayV 8 v <;> rfl
theorem KFZ {h:Heap} {Q:Int→Heap→Prop} {x:Sl} {l:List Ct} (hx:CsRep h x l) (H:∀ h',Ext h h'→Q (bagE l) h'):(Vk x).wp h Q:=by
 unfold Vk
 have hxl:=hx.len
 have hxb:=hx.big
 refine M.loop_inv (fun (z:Int × Int) hh=>∃ i:Nat,z.2=(i:Int)∧i≤l.length∧Ext h hh∧0≤z.1∧z.1≤9007199254740992∧KDt l=bagI z.1 (KFY l i) (l.drop i)) (fun z _=>((l.length:Int) - z.2).toNat) ?_ ⟨0,rfl,Nat.zero_le _,Ext.refl _,by decide,by decide,rfl⟩
 rintro ⟨left,z⟩ hh ⟨i,hz,hi,E,l0,l1,hb⟩ self hself
 dsimp only at hz l0 l1 hb
 subst hz
 unfold Y6
 dsimp only
 rw [hxl]
 refine KP (fun hlt=>?_) (fun hge=>?_)
 ·have hlt:i < l.length:=by have:=of_decide_eq_true hlt; omega
  rw [KIW hlt] at hb
  have bad:∀ {h2:Heap},Ext h h2→KDt l=false→Q 210 h2:=fun {h2} e2 h0=>by
   have:=H _ e2
   unfold bagE at this
   rw [h0] at this
   exact this
  refine KB4 (hx.ext E) hlt rfl (fun a c hs hcs hn hI hv=>Uc (Wx hs) (KKB hs hcs hn) (ZU (fun h3 e3 z3 g3=>Z0 (Wx hs) (stR g3 (by rw [Wx hs]; decide) (KHU hv) (fun h4 u4 g4=>?_)))))
  rw [K0 (by rw [Array.length_toList,Wx hs]; rfl),Array.toArray_toList] at g4
  have E4:Ext hh h4:=e3.upd u4 (Nat.le_refl _)
  have hv4:VRep h4 l[i].1 c:=hv.ext E4
  have cN:KO h4 ((⟨hh.size,0,none⟩:Addr).add 4)=some (.int .i64 l[i].2):=by
   rw [Kg,KU g4]; exact KN9 hs
  have cV:∀ m,m < 4→KO h4 (((⟨hh.size,0,none⟩:Addr).add 0).add m)=c[m]?:=fun m hm=>by
   rw [add_zero,Kg,KU g4,Nat.zero_add]; exact KN8 hs m hm
  refine Zm cN ?_
  refine or_b (c:=decide (l[i].2 > left)) (fun _ Q' hq=>Zm cN (KC hq)) ?_
  refine KP (fun hc=>KC (bad (E.trans E4) ?_)) (fun hc=>?_)
  ·rw [hb]
   rw [Bool.or_eq_true,decide_eq_true_iff,decide_eq_true_iff] at hc
   rcases hc with hc | hc
   ·rw [decide_eq_false (by omega)]; rfl
   ·rw [decide_eq_false (p:=l[i].2≤left) (by omega),Bool.and_false]; rfl
  rw [Bool.or_eq_false_iff,decide_eq_false_iff_not,decide_eq_false_iff_not] at hc
  rw [decide_eq_true (show 1≤l[i].2 by omega),decide_eq_true (show l[i].2≤left by omega),Bool.true_and,Bool.true_and] at hb
  refine Uc hs cV (KE (KB0 hv4 (fun h5 e5=>?_)))
  rw [KIX]
  refine KP (fun hc2=>KC (bad ((E.trans E4).trans e5) ?_)) (fun hc2=>?_)
  ·rw [hb,show mayV 8 l[i].1=false by simpa using hc2]; rfl
  rw [show mayV 8 l[i].1=true by simpa using hc2,Bool.true_and] at hb
  have fin:∀ {h6:Heap} {t:Bool},Ext h5 h6→((KFY l i).all fun q=>decide (cmpV q l[i].1 < 0))=!t→(VG self left ⟨hh.size,0,none⟩ (i:Int) t).wp h6 Q:=fun {h6 t} e6 ht=>by
   unfold VG
   rw [ht] at hb
   refine KP (fun h0=>KC (bad (((E.trans E4).trans e5).trans e6) ?_)) (fun h0=>?_)
   ·subst h0; rw [hb]; rfl
   ·subst h0
    refine Zm ((e5.trans e6).cell cN) ?_
    rw [w64 (by omega) (by omega),w64 (by omega) (by omega)]
    refine hself _ _ ⟨i+1,by dsimp only; omega,hlt,((E.trans E4).trans e5).trans e6,by dsimp only; omega,by dsimp only; omega,?_⟩ (by dsimp only; omega)
    rw [hb]; rfl
  refine KP (fun h0=>?_) (fun h0=>?_)
  ·have h0:0 < i:=by have:=of_decide_eq_true h0; omega
   rw [w64 (by omega) (by omega)]
   refine KB4 (i:=i - 1) (hx.ext ((E.trans E4).trans e5)) (by omega) (by omega) (fun a2 c2 hs2 hcs2 hn2 hI2 hv2=>Uc hs2 (fun m hm=>by rw [add_zero]; exact hcs2 m hm) (Uc hs (e5.row0 hs cV) (KE (Gf hv2 (hv4.ext e5) (fun h6 e6=>fin e6 ?_)))))
   unfold KFY
   rw [if_neg (by omega),List.getElem?_eq_getElem (show i - 1 < l.length by omega)]
   show decide (cmpV l[i - 1].1 l[i].1 < 0)=_
   rw [← decide_not]
   exact decide_eq_decide.2 (by omega)
  ·have h0:i=0:=by have:=of_decide_eq_false h0; omega
   subst h0
   exact fin (Ext.refl _) rfl
 ·have hge:i=l.length:=by have:=of_decide_eq_false hge; omega
  subst hge
  rw [List.drop_length] at hb
  refine KC ?_
  have:=H _ E
  unfold bagE at this
  rw [hb] at this
  exact this
end Gx
namespace Gx
open Go
set_option linter.unusedVariables false
set_option linter.unusedSimpArgs false
theorem KEA {h:Heap} {Q:Int→Heap→Prop} {x:Sl} {l:List Ct} (hx:CsRep h x l) (H:∀ h',Ext h h'→Q (bagE l) h'):(US x).wp h Q:=by
 unfold US
 have hxl:=hx.len
 have hxb:=hx.big
 refine M.loop_inv (fun (z:Int × Int) hh=>∃ i:Nat,z.2=(i:Int)∧i≤l.length∧Ext h hh∧0≤z.1∧z.1≤9007199254740992∧KDt l=bagI z.1 (KFY l i) (l.drop i)) (fun z _=>((l.length:Int) - z.2).toNat) ?_ ⟨0,rfl,Nat.zero_le _,Ext.refl _,by decide,by decide,rfl⟩
 rintro ⟨left,z⟩ hh ⟨i,hz,hi,E,l0,l1,hb⟩ self hself
 dsimp only at hz l0 l1 hb
 subst hz
 unfold Wi
 dsimp only
 rw [hxl]
 refine KP (fun hlt=>?_) (fun hge=>?_)
 ·have hlt:i < l.length:=by have:=of_decide_eq_true hlt; omega
  rw [KIW hlt] at hb
  have bad:∀ {h2:Heap},Ext h h2→KDt l=false→Q 210 h2:=fun {h2} e2 h0=>by
   have:=H _ e2
   unfold bagE at this
   rw [h0] at this
   exact this
  have badJ:∀ {h2:Heap},Ext h h2→KDt l=false→(ZI self x left (i:Int) true).wp h2 Q:=fun {h2} e2 h0=>by
   unfold ZI
   exact iteT rfl (KC (bad e2 h0))
  refine KB4 (hx.ext E) hlt rfl (fun a c hs hcs hn hI hv=>Zm hn ?_)
  refine KP (fun hc=>badJ E ?_) (fun hc=>?_)
  ·rw [hb,decide_eq_false (by have:=of_decide_eq_true hc; omega)]; rfl
  refine KB4 (hx.ext E) hlt rfl (fun a2 c2 hs2 hcs2 hn2 _ hv2=>Zm hn2 ?_)
  refine KP (fun hc2=>badJ E ?_) (fun hc2=>?_)
  ·rw [hb,decide_eq_false (p:=l[i].2≤left) (by have:=of_decide_eq_true hc2; omega),Bool.and_false]; rfl
  have hc:=of_decide_eq_false hc
  have hc2:=of_decide_eq_false hc2
  rw [decide_eq_true (show 1≤l[i].2 by omega),decide_eq_true (show l[i].2≤left by omega),Bool.true_and,Bool.true_and] at hb
  refine KB4 (hx.ext E) hlt rfl (fun a3 c3 hs3 hcs3 hn3 _ hv3=>Uc hs3 (fun m hm=>by rw [add_zero]; exact hcs3 m hm) (KE (KE9 hv3 (fun h5 e5=>?_))))
  rw [KIX]
  refine KP (fun hc3=>badJ (E.trans e5) ?_) (fun hc3=>?_)
  ·rw [hb,show mayV 8 l[i].1=false by simpa using hc3]; rfl
  rw [show mayV 8 l[i].1=true by simpa using hc3,Bool.true_and] at hb
  have fin:∀ {h6:Heap} {t:Bool},Ext hh h6→((KFY l i).all fun q=>decide (cmpV q l[i].1 < 0))=!t→(ZI self x left (i:Int) t).wp h6 Q:=fun {h6 t} e6 ht=>by
   rw [ht] at hb
   cases t with
   | true=>exact badJ (E.trans e6) (by rw [hb]; rfl)
   | false =>
    unfold ZI
    refine iteF rfl (KB4 ((hx.ext E).ext e6) hlt rfl (fun a4 c4 hs4 hcs4 hn4 _ hv4=>Zm hn4 ?_))
    rw [w64 (by omega) (by omega),w64 (by omega) (by omega)]
    refine hself _ _ ⟨i+1,by dsimp only; omega,hlt,E.trans e6,by dsimp only; omega,by dsimp only; omega,?_⟩ (by dsimp only; omega)
    rw [hb]; rfl
  refine KP (fun h0=>?_) (fun h0=>?_)
  ·have h0:0 < i:=by have:=of_decide_eq_true h0; omega
   rw [w64 (by omega) (by omega)]
   have E5:=E.trans e5
   refine KB4 (i:=i - 1) (hx.ext E5) (by omega) (by omega) (fun a4 c4 hs4 hcs4 hn4 hI4 hv4=>KB4 (hx.ext E5) hlt rfl (fun a6 c6 hs6 hcs6 hn6 _ hv6=>Uc hs4 (fun m hm=>by rw [add_zero]; exact hcs4 m hm) (Uc hs6 (fun m hm=>by rw [add_zero]; exact hcs6 m hm) (KE (zE hv4 hv6 (fun h6 e6=>fin (e5.trans e6) ?_))))))
   unfold KFY
   rw [if_neg (by omega),List.getElem?_eq_getElem (show i - 1 < l.length by omega)]
   show decide (cmpV l[i - 1].1 l[i].1 < 0)=_
   rw [← decide_not]
   exact decide_eq_decide.2 (by omega)
  ·have h0:i=0:=by have:=of_decide_eq_false h0; omega
   subst h0
   exact fin e5 rfl
 ·have hge:i=l.length:=by have:=of_decide_eq_false hge; omega
  subst hge
  rw [List.drop_length] at hb
  refine KC ?_
  have:=H _ E
  unfold bagE at this
  rw [hb] at this
  exact this
def ctT (c:Ct):List UInt8:=Lib.itoa c.2++[32]++txV c.1++[10]
def bagT (l:List Ct):List UInt8:=l.flatMap ctT
def bagW:List Ct→Nat
 | []=>0
 | (v,_)::r=>wt v+8+bagW r
theorem KHV:∀ l:List Ct,l.length≤bagW l
 | []=>Nat.zero_le _
 | (v,n)::r=>by have:=KHV r; rw [bagW,List.length_cons]; omega
theorem KPm {h:Heap} {c:Ct} {cs:Array Value} (hv:VRep h c.1 cs) (hn:I64 c.2):(ctT c).length≤26 * wt c.1+21:=by
 have h1:=KES hn
 have h2:=KFN 8 _ hv
 have:(txV c.1).length+2≤26 * wt c.1:=h2
 unfold ctT
 simp only [List.length_append,List.length_cons,List.length_nil]
 omega
theorem KHW:∀ {l:List Ct},(∀ c ∈ l,I64 c.2∧∃ h cs,VRep h c.1 cs)→(bagT l).length≤26 * bagW l
 | [],_=>Nat.zero_le _
 | (v,n)::r,H=>by
  obtain ⟨hn,h,cs,hv⟩:=H (v,n) (by simp)
  have h1:=KPm (c:=(v,n)) hv hn
  have h2:=KHW (l:=r) (fun c hc=>H c (List.mem_cons_of_mem _ hc))
  unfold bagT at h2 ⊢
  rw [List.flatMap_cons,List.length_append,bagW]
  dsimp only at h1
  omega
theorem CsRep.all {h:Heap} {x:Sl} {l:List Ct} (hx:CsRep h x l):∀ c ∈ l,I64 c.2∧∃ h cs,VRep h c.1 cs:=fun c hc=>by
 obtain ⟨j,hj,rfl⟩:=List.getElem_of_mem hc
 obtain ⟨a,cs,_,_,_,_,hI,hv⟩:=hx.at_ j hj
 exact ⟨hI,h,cs,hv⟩
theorem KDD {l:List Ct} {i:Nat} (hi:i < l.length):bagT (l.take (i+1))=bagT (l.take i)++ctT l[i]:=by
 unfold bagT
 rw [List.take_succ_eq_append_getElem hi,List.flatMap_append]; simp
theorem KEX (l:List Ct) (i:Nat):(bagT (l.take i)).length≤(bagT l).length:=by
 unfold bagT
 conv=>rhs; rw [← List.take_append_drop i l,List.flatMap_append,List.length_append]
 omega
theorem KMw {h:Heap} {Q:ByteArray × Int→Heap→Prop} {x:Sl} {l:List Ct} (hx:CsRep h x l) (hp:Gu h) (hd:KAx h) (hW:bagW l≤1099511627)
  (H1:∀ h',Ext h h'→bagE l≠0→Q (ByteArray.empty,bagE l) h')
  (H3:∀ h',Ext h h'→bagE l=0→Q (bs (bagT l),0) h'):(qV x).wp h Q:=by
 unfold qV
 have hxl:=hx.len
 have hwl:=KHV l
 refine KE (KFZ hx (fun h1 e1=>?_))
 refine KP (fun hc=>KC (H1 _ e1 (by simpa using hc))) (fun hc=>?_)
 have hc:bagE l=0:=by simpa using hc
 refine ZU (fun h2 e2 z2 g2=>?_)
 have hT:=KHW hx.all
 refine M.loop_inv (fun (s:Int) hh=>∃ (i:Nat) (r:Sl),s=(i:Int)∧i≤l.length∧Ext h1 hh∧Bld h1.size hh h1.size r (bagT (l.take i))) (fun s _=>((l.length:Int) - s).toNat) ?_ ⟨0,Sl.nil,rfl,Nat.zero_le _,e2,by simpa [bagT] using Bld.new (Nat.le_refl _) g2⟩
 rintro s hh ⟨i,r,rfl,hi,E,B⟩ self hself
 unfold q9
 rw [hxl]
 have hpi:=KEX l i
 refine KP (fun hlt=>?_) (fun hend=>?_)
 ·have hlt:i < l.length:=by have:=of_decide_eq_true hlt; omega
  have hpi1:=KEX l (i+1)
  rw [KDD hlt,List.length_append] at hpi1
  have E0:=e1.trans E
  refine KB4 (hx.ext E0) hlt rfl (fun a c hs hcs hn hI hv=>Uc (Wx hs) (KKB hs hcs hn) (ZU (fun h3 e3 z3 g3=>Z0 (Wx hs) (stR g3 (by rw [Wx hs]; decide) (KHU hv) (fun h4 u4 g4=>?_)))))
  rw [K0 (by rw [Array.length_toList,Wx hs]; rfl),Array.toArray_toList] at g4
  have E4:Ext hh h4:=e3.upd u4 (Nat.le_refl _)
  have hv4:VRep h4 l[i].1 c:=hv.ext E4
  have cN:KO h4 ((⟨hh.size,0,none⟩:Addr).add 4)=some (.int .i64 l[i].2):=by
   rw [Kg,KU g4]; exact KN9 hs
  have cV:∀ m,m < 4→KO h4 (((⟨hh.size,0,none⟩:Addr).add 0).add m)=c[m]?:=fun m hm=>by
   rw [add_zero,Kg,KU g4,Nat.zero_add]; exact KN8 hs m hm
  have hcl:(ctT l[i]).length=(Lib.itoa l[i].2).length+1+(txV l[i].1).length+1:=by
   unfold ctT; simp only [List.length_append,List.length_cons,List.length_nil]
  refine Zm cN (Uc hs cV (KE (KAP hI (hp.ext (E0.trans E4)) (fun h5 e5=>?_))))
  refine KEn ⟨e5.cell cN,hs,e5.row0 hs cV⟩ ?_
  refine NT (y:=[32]) (by simp only [List.length_cons,List.length_nil]; omega) ?_
  have E5:=E4.trans e5
  refine KE (KAQ (hv4.ext e5) (hp.ext (E0.trans E5)) (hd.ext (E0.trans E5)) (by omega) (fun h6 e6=>?_))
  have E6:=E5.trans e6
  refine NT (by rw [List.length_append,List.length_cons,List.length_nil]; omega) (NT (y:=[10]) (by simp only [List.length_append,List.length_cons,List.length_nil]; omega) ?_)
  have E6':=E.trans E6
  refine KE (Ws (B.ext E6) E6'.size (by simp only [List.length_append,List.length_cons,List.length_nil]; omega) (fun h7 r7 n7 B7 K7=>?_))
  have E7:=K7.ext E6' (B.ext E6) (Nat.le_refl _)
  rw [w64 (by omega) (by omega)]
  exact hself _ _ ⟨i+1,r7,by simp,by omega,E7,by rw [KDD hlt]; exact B7⟩ (by omega)
 ·have hge:i=l.length:=by have:=of_decide_eq_false hend; omega
  subst hge
  rw [List.take_length] at B
  exact KE (KAC B (by omega) (fun h3 K3 _=>KC (H3 _ (e1.trans (K3.ext E B (Nat.le_refl _))) hc)))
theorem KIY {h:Heap} {Q:ByteArray × Int→Heap→Prop} {x:Sl} {l:List Ct} (hx:CsRep h x l) (hW:bagW l≤1099511627)
  (H1:∀ h',Ext h h'→bagE l≠0→Q (ByteArray.empty,bagE l) h')
  (H3:∀ h',Ext h h'→bagE l=0→Q (bs (bagT l),0) h'):(WM x).wp h Q:=by
 unfold WM
 have hxl:=hx.len
 have hwl:=KHV l
 refine KE (KEA hx (fun h1 e1=>?_))
 refine KP (fun hc=>KC (H1 _ e1 (by simpa using hc))) (fun hc=>?_)
 have hc:bagE l=0:=by simpa using hc
 have hT:=KHW hx.all
 refine M.loop_inv (fun (z:ByteArray × Int) hh=>∃ i:Nat,z=(bs (bagT (l.take i)),(i:Int))∧i≤l.length∧Ext h1 hh) (fun z _=>((l.length:Int) - z.2).toNat) ?_ ⟨0,rfl,Nat.zero_le _,Ext.refl _⟩
 rintro z hh ⟨i,rfl,hi,E⟩ self hself
 unfold Yc
 dsimp only
 rw [hxl]
 have hpi:=KEX l i
 refine KP (fun hlt=>?_) (fun hend=>?_)
 ·have hlt:i < l.length:=by have:=of_decide_eq_true hlt; omega
  have hpi1:=KEX l (i+1)
  rw [KDD hlt,List.length_append] at hpi1
  have E0:=e1.trans E
  have hcl:(ctT l[i]).length=(Lib.itoa l[i].2).length+1+(txV l[i].1).length+1:=by
   unfold ctT; simp only [List.length_append,List.length_cons,List.length_nil]
  refine KB4 (hx.ext E0) hlt rfl (fun a c hs hcs hn hI hv=>KB4 (hx.ext E0) hlt rfl (fun a2 c2 hs2 hcs2 hn2 _ hv2=>Zm hn (Uc hs2 (fun m hm=>by rw [add_zero]; exact hcs2 m hm) (KE (zG hI (fun h5 e5=>?_))))))
  refine KEn ⟨e5.cell hn,hs2,e5.row0 hs2 (fun m hm=>by rw [add_zero]; exact hcs2 m hm)⟩ ?_
  refine NT (y:=[32]) (by simp only [List.length_cons,List.length_nil]; omega) ?_
  refine KE (KKj (hv2.ext e5) (by omega) (fun h6 e6=>?_))
  refine NT (by rw [List.length_append,List.length_cons,List.length_nil]; omega) (NT (y:=[10]) (by simp only [List.length_append,List.length_cons,List.length_nil]; omega) (NT (by simp only [List.length_append,List.length_cons,List.length_nil]; omega) ?_))
  rw [w64 (by omega) (by omega),show Lib.itoa l[i].2++[32]++txV l[i].1++[10]=ctT l[i] from rfl,← KDD hlt]
  exact hself _ _ ⟨i+1,rfl,hlt,E.trans (e5.trans e6)⟩ (by dsimp only; omega)
 ·have hge:i=l.length:=by have:=of_decide_eq_false hend; omega
  subst hge
  rw [List.take_length]
  exact KC (H3 _ (e1.trans E) hc)
theorem KIZ {h:Heap} {Q:Bool→Heap→Prop} {x y:Sl} {l:List Ct} (hx:CsRep h x l) (hy:CsRep h y l) (H:∀ h',Ext h h'→Q true h'):(UA x y).wp h Q:=by
 unfold UA
 have hxl:=hx.len
 have hyl:=hy.len
 have hxb:=hx.big
 rw [hxl,hyl]
 refine iteF (by simp) ?_
 refine M.loop_inv (fun (t:Int) h'=>Ext h h'∧∃ i:Nat,t=(i:Int)∧i≤l.length) (fun t _=>((l.length:Int) - t).toNat) ?_ ⟨Ext.refl h,0,rfl,Nat.zero_le _⟩
 rintro t h' ⟨E,i,rfl,hi⟩ self hself
 unfold YC
 rw [hxl]
 refine KP (fun hc=>?_) (fun hc=>KC (H _ E))
 have hlt:i < l.length:=by have:=of_decide_eq_true hc; omega
 refine KB4 (hx.ext E) hlt rfl (fun a c hs hcs hn hI hv=>KB4 (hy.ext E) hlt rfl (fun a2 c2 hs2 hcs2 hn2 _ hv2=>Zm hn (Zm hn2 (iteF (by simp) ?_))))
 refine KB4 (hx.ext E) hlt rfl (fun a3 c3 hs3 hcs3 hn3 _ hv3=>KB4 (hy.ext E) hlt rfl (fun a4 c4 hs4 hcs4 hn4 _ hv4=>Uc hs3 (fun m hm=>by rw [add_zero]; exact hcs3 m hm) (Uc hs4 (fun m hm=>by rw [add_zero]; exact hcs4 m hm) (KE (KKb hv3 hv4 (fun h3 e3=>?_))))))
 rw [KC7]
 unfold VV
 refine iteF rfl ?_
 rw [w64 (by omega) (by omega)]
 exact hself _ _ ⟨E.trans e3,i+1,by simp,hlt⟩ (by omega)
end Gx
namespace Gx
open Go
set_option linter.unusedVariables false
set_option linter.unusedSimpArgs false
def cutC (c:UInt8):List UInt8→List UInt8 × List UInt8
 | []=>([],[])
 | x::r=>if x=c then ([],r) else (x::(cutC c r).1,(cutC c r).2)
theorem KDu (c:UInt8):∀ s:List UInt8,Lib.indexByte s c=(if c ∈ s then ((cutC c s).1.length:Int) else -1)∧(if c ∈ s then s=(cutC c s).1++c::(cutC c s).2 else cutC c s=(s,[]))
 | []=>by simp [Lib.indexByte,cutC]
 | x::r=>by
  obtain ⟨h1,h2⟩:=KDu c r
  rw [Lib.indexByte,cutC]
  by_cases hc:x=c
  ·subst hc; simp
  ·have hb:(x == c)=false:=by simpa using hc
   have hm:(c ∈ x::r)↔c ∈ r:=by
    rw [List.mem_cons]
    exact ⟨fun h=>h.elim (fun e=>absurd e.symm hc) id,.inr⟩
   rw [hb,if_neg hc]
   by_cases hr:c ∈ r
   ·rw [if_pos hr] at h1 h2
    rw [if_pos (hm.2 hr),if_pos (hm.2 hr),h1]
    refine ⟨?_,?_⟩
    ·have:¬ (((cutC c r).1.length:Int) == -1)=true:=by simp
     simp only [Bool.false_eq_true,if_false]
     rw [if_neg this]; simp
    ·rw [List.cons_append,← h2]
   ·rw [if_neg hr] at h1 h2
    rw [if_neg (fun h=>hr (hm.1 h)),if_neg (fun h=>hr (hm.1 h)),h1,h2]
    simp
theorem KJR (c:UInt8) (s:List UInt8):(cutC c s).1.length≤s.length∧(cutC c s).2.length≤s.length:=by
 obtain ⟨_,h2⟩:=KDu c s
 by_cases hm:c ∈ s
 ·rw [if_pos hm] at h2
  have:=congrArg List.length h2
  rw [List.length_append,List.length_cons] at this
  omega
 ·rw [if_neg hm] at h2
  rw [h2]
  simp
theorem KAR {c:UInt8} {s:List UInt8} (hm:c ∈ s):s.take (cutC c s).1.length=(cutC c s).1∧s.drop ((cutC c s).1.length+1)=(cutC c s).2∧s.length=(cutC c s).1.length+(1+(cutC c s).2.length):=by
 obtain ⟨_,h2⟩:=KDu c s
 rw [if_pos hm] at h2
 refine ⟨(show ∀ p:List UInt8 × List UInt8,s=p.1++c::p.2→s.take p.1.length=p.1 by rintro p rfl; simp) _ h2,(show ∀ p:List UInt8 × List UInt8,s=p.1++c::p.2→s.drop (p.1.length+1)=p.2 by rintro p rfl; rw [List.drop_append,List.drop_eq_nil_iff.2 (by omega)]; simp) _ h2,?_⟩
 have:=congrArg List.length h2
 rw [List.length_append,List.length_cons] at this
 omega
theorem KMx {c:UInt8} {s:List UInt8} {h:Heap} {Q:ByteArray × ByteArray × Bool→Heap→Prop} (hs:s.length≤1099511627776) (H:Q (bs (cutC c s).1,bs (cutC c s).2,decide (c ∈ s)) h):(WN (bs s) (⟨#[c]⟩:ByteArray)).wp h Q:=by
 unfold WN
 obtain ⟨h1,h2⟩:=KDu c s
 refine KE ?_
 unfold ZX
 refine KE ⟨c,rfl,?_⟩
 rw [show (bs s).data.toList=s by simp [bs],h1]
 by_cases hm:c ∈ s
 ·obtain ⟨p1,p2,hl⟩:=KAR hm
  rw [if_pos hm] at h2 ⊢
  refine iteT (decide_eq_true (by omega)) ?_
  have hw:IntKind.wrap .i64 (((cutC c s).1.length:Int)+((⟨#[c]⟩:ByteArray).size:Int))=(((cutC c s).1.length+1:Nat):Int):=by
   rw [show ((⟨#[c]⟩:ByteArray).size:Int)=1 from rfl,w64 (by omega) (by omega)]; simp
  rw [hw]
  refine KHL (a:=0) (b:=(cutC c s).1.length) rfl rfl (Nat.zero_le _) (by omega) (KHL (a:=(cutC c s).1.length+1) (b:=s.length) rfl (by rw [ZO]) (by omega) (Nat.le_refl _) (KC (KC ?_)))
  have e1:(s.drop 0).take ((cutC c s).1.length - 0)=(cutC c s).1:=by
   rw [List.drop_zero,Nat.sub_zero]; exact p1
  have e2:(s.drop ((cutC c s).1.length+1)).take (s.length - ((cutC c s).1.length+1))=(cutC c s).2:=by
   rw [List.take_of_length_le (by rw [List.length_drop]; omega)]; exact p2
  rw [e1,e2]
  rw [decide_eq_true hm] at H
  exact H
 ·rw [if_neg hm] at h2 ⊢
  refine iteF (by decide) (KC (KC ?_))
  rw [h2,decide_eq_false hm] at H
  exact H
theorem KKC {c:UInt8}:∀ {s:List UInt8},∀ i (hi:i < s.length),i < (cutC c s).1.length→s[i]≠c
 | [],i,hi,_=>by cases hi
 | x::r,i,hi,h=>by
  unfold cutC at h
  split at h
  ·cases h
  ·rename_i hx
   cases i with
   | zero=>exact hx
   | succ i=>exact KKC (s:=r) i (by simpa using hi) (by simpa using h)
theorem KKz {s:List UInt8} {h:Heap} {Q:Int→Heap→Prop} (hs:s.length≤1099511627776) (H:Q (if (32:UInt8) ∈ s then ((cutC 32 s).1.length:Int) else -1) h):(VI (bs s)).wp h Q:=by
 unfold VI
 refine M.loop_inv (fun (z:Int) hh=>∃ i:Nat,z=(i:Int)∧hh=h∧i≤(cutC 32 s).1.length) (fun z _=>((s.length:Int) - z).toNat) ?_ ⟨0,rfl,rfl,Nat.zero_le _⟩
 rintro z hh ⟨i,rfl,rfl,hi⟩ self hself
 unfold Wj
 dsimp only
 rw [ZO]
 have hle:=KJR 32 s
 refine KP (fun hlt=>?_) (fun hge=>?_)
 ·have hlt:i < s.length:=by have:=of_decide_eq_true hlt; omega
  refine Nn (i:=i) rfl hlt ?_
  rw [u8_c (d:=32) (n:=32) rfl]
  by_cases hm:(32:UInt8) ∈ s
  ·obtain ⟨p1,p2,hl⟩:=KAR hm
   obtain ⟨_,h2⟩:=KDu 32 s
   rw [if_pos hm] at h2
   by_cases he:i=(cutC 32 s).1.length
   ·have hg:s[i]=32:=by
     have:s[i]?=some 32:=by
      rw [h2,he,List.getElem?_append_right (Nat.le_refl _),Nat.sub_self]; rfl
     rw [List.getElem?_eq_getElem hlt] at this
     exact Option.some.inj this
    refine iteT (decide_eq_true hg) (KC ?_)
    rw [if_pos hm,← he] at H
    exact H
   ·refine iteF (decide_eq_false (KKC i hlt (by omega))) ?_
    rw [w64 (by omega) (by omega)]
    exact hself _ _ ⟨i+1,by simp,rfl,by omega⟩ (by omega)
  ·have hne:s[i]≠32:=fun e=>hm (by rw [← e]; exact List.getElem_mem hlt)
   obtain ⟨_,h2⟩:=KDu 32 s
   rw [if_neg hm] at h2
   refine iteF (decide_eq_false hne) ?_
   rw [w64 (by omega) (by omega)]
   exact hself _ _ ⟨i+1,by simp,rfl,by rw [h2]; exact hlt⟩ (by omega)
 ·have hge:s.length≤i:=by have:=of_decide_eq_false hge; omega
  by_cases hm:(32:UInt8) ∈ s
  ·obtain ⟨p1,p2,hl⟩:=KAR hm
   omega
  ·rw [if_neg hm] at H
   exact KC H
def W5 (css:List (Array Value)):Prop:=∀ c ∈ css,c.size=5∧∀ u ∈ c.toList,one u=true
theorem KDE:∀ {css:List (Array Value)},W5 css→(Jq css).length=css.length * 5
 | [],_=>rfl
 | c::r,h=>by
  have:=KDE (css:=r) (fun x hx=>h x (List.mem_cons_of_mem _ hx))
  have hc:=(h c (by simp)).1
  unfold Jq at this ⊢
  rw [List.flatMap_cons,List.length_append,this,Array.length_toList,hc,List.length_cons]; omega
theorem KIa:∀ {css:List (Array Value)},W5 css→∀ (i j:Nat),j < 5→(Jq css)[i * 5+j]?=(css[i]?).bind (fun c=>c[j]?)
 | [],_,i,j,_=>by simp [Jq]
 | c::r,h,i,j,hj=>by
  have hc:=(h c (by simp)).1
  unfold Jq
  rw [List.flatMap_cons]
  cases i with
  | zero=>rw [List.getElem?_append_left (by rw [Array.length_toList]; omega)]; simp
  | succ i =>
   rw [List.getElem?_append_right (by rw [Array.length_toList]; omega),Array.length_toList,hc,show (i+1) * 5+j - 5=i * 5+j by omega]
   have:=KIa (css:=r) (fun x hx=>h x (List.mem_cons_of_mem _ hx)) i j hj
   unfold Jq at this
   rw [this]; simp
theorem KMy {css:List (Array Value)} (h:W5 css):∀ v ∈ Jq css,one v=true:=fun v hv=>by
 obtain ⟨c,hc,hv⟩:=List.mem_flatMap.1 hv
 exact (h c hc).2 v hv
theorem W5.append {a b:List (Array Value)} (ha:W5 a) (hb:W5 b):W5 (a++b):=fun c hc=>(List.mem_append.1 hc).elim (ha c) (hb c)
theorem Gw.row5 {lo:Nat} {h:Heap} {r:Sl} {css:List (Array Value)} (G:Gw lo h r 5 (Jq css)) (hw:W5 css) {i:Nat} (hi:i < css.length):∃ b,r.base=some ⟨b,0,none⟩∧Sl.on r b∧∀ j,j < 5→KO h ((⟨b,0,none⟩:Addr).add (i * 5+j))=css[i][j]?:=by
 have hl:=KDE hw
 rcases G with ⟨rfl,he⟩ | ⟨b,ty,cells,R⟩
 ·rw [he] at hl; simp at hl; omega
 ·refine ⟨b,R.base,⟨_,R.base,rfl⟩,fun j hj=>?_⟩
  rw [Kg,Nat.zero_add,KU R.blk]
  have h1:=KIa hw i j hj
  rw [List.getElem?_eq_getElem hi] at h1
  have hc:=(hw _ (List.getElem_mem hi)).1
  have h2:css[i][j]?=some (css[i][j]'(by omega)):=Array.getElem?_eq_getElem (by omega)
  rw [h2]
  refine R.get _ _ ?_
  rw [h1]
  exact h2
theorem Gw.len5 {lo:Nat} {h:Heap} {r:Sl} {css:List (Array Value)} (G:Gw lo h r 5 (Jq css)) (hw:W5 css):r.len=css.length:=by
 have:=G.len
 rw [KDE hw] at this
 omega
structure CGw (lo:Nat) (S:Nat→Prop) (h:Heap) (r:Sl) (css:List (Array Value)) (l:List Ct):Prop where
 gw:Gw lo h r 5 (Jq css)
 w5:W5 css
 len:css.length=l.length
 rep:∀ j (h1:j < l.length) (h2:j < css.length),∃ c,css[j]=crow c l[j].2∧I64 l[j].2∧ZK S h l[j].1 c
theorem CGw.nil (lo:Nat) (S:Nat→Prop) (h:Heap):CGw lo S h Sl.nil [] []:=⟨Gw.nil _ _ _,fun c hc=>(by cases hc),rfl,fun j h1=>(by cases h1)⟩
theorem CGw.to {lo:Nat} {S:Nat→Prop} {h:Heap} {r:Sl} {css:List (Array Value)} {l:List Ct} (G:CGw lo S h r css l) (hl:l.length≤9223372036854775807):CsRep h r l :=
 ⟨by rw [G.gw.len5 G.w5,G.len],G.gw.cap,by rw [G.gw.len5 G.w5,G.len]; exact hl,fun j hj=>by
  have hj':j < css.length:=by rw [G.len]; exact hj
  obtain ⟨b,hb,hon,hc⟩:=G.gw.row5 G.w5 (i:=j) hj'
  obtain ⟨c,e,hI,hv⟩:=G.rep j hj hj'
  rw [e] at hc
  exact ⟨_,c,hb,hv.size,fun m hm=>(hc m (by omega)).trans (KN8 hv.size m hm),(hc 4 (by omega)).trans (KN9 hv.size),hI,hv.to⟩⟩
theorem CGw.same {lo:Nat} {S:Nat→Prop} {h h':Heap} {r:Sl} {css:List (Array Value)} {l:List Ct} (G:CGw lo S h r css l) (e1:∀ b,Sl.on r b→h'[b]?=h[b]?) (e2:∀ b,S b→h'[b]?=h[b]?):CGw lo S h' r css l :=
 ⟨G.gw.same e1,G.w5,G.len,fun j h1 h2=>by
  obtain ⟨c,e,hI,hv⟩:=G.rep j h1 h2
  exact ⟨c,e,hI,hv.same e2⟩⟩
theorem CGw.mono {lo:Nat} {S T:Nat→Prop} {h:Heap} {r:Sl} {css:List (Array Value)} {l:List Ct} (G:CGw lo S h r css l) (e:∀ b,S b→T b):CGw lo T h r css l :=
 ⟨G.gw,G.w5,G.len,fun j h1 h2=>by
  obtain ⟨c,e',hI,hv⟩:=G.rep j h1 h2
  exact ⟨c,e',hI,hv.mono e⟩⟩
theorem KKD {β:Type} {lo:Nat} {S:Nat→Prop} {h:Heap} {Q:β→Heap→Prop} {r:Sl} {css:List (Array Value)} {l:List Ct} {v:Vl} {n:Int} {c:Array Value} {f:Sl→M β} (G:CGw lo S h r css l) (hS:∀ k,S k→k < h.size∧¬ Sl.on r k) (hv:ZK S h v c) (hn:I64 n) (hlo:lo≤h.size) (hm:l.length≤1099511627776)
  (H:∀ h' r',CGw lo S h' r' (css++[crow c n]) (l++[(v,n)])→h.size≤h'.size→(∀ i,i < h.size→¬ Sl.on r i→h'[i]?=h[i]?)→(∀ i,Sl.on r' i→Sl.on r i∨h.size≤i)→(f r').wp h' Q) :
  (KLP [(0,4),(4,1)] (#[.int .i64 0,.int .i64 0,.string ByteArray.empty,.slice none 0 0,.int .i64 0]:Array Value) [(0,.agg c),(1,.int .i64 n)]>>=fun x32 =>
   NY 5 1 (#[.int .i64 0,.int .i64 0,.string ByteArray.empty,.slice none 0 0,.int .i64 0]:Array Value) [(0,.agg x32)]>>=fun y=>bdL JZ 1 y>>=fun x=>apL JZ 5 64 (#[.int .i64 0,.int .i64 0,.string ByteArray.empty,.slice none 0 0,.int .i64 0]:Array Value) r x>>=f).wp h Q:=by
 have hc:=hv.size
 refine ⟨crow c n,?_,?_⟩
 ·show Instr.fill _ _ _=_
  rw [zg (off:=0) (size:=4) (v:=Value.agg c) rfl hc (by decide),zg (off:=4) (size:=1) (v:=Value.int .i64 n) rfl rfl (by rw [GE]; exact Nat.le_refl 5)]
  show some _=some _
  congr 1
  apply Array.ext'
  rw [Vi _ _ _ (by rw [GE]; exact Nat.le_refl 5),Vi _ _ _ (by show 0+c.toList.length≤_; rw [Array.length_toList,hc]; decide)]
  have hcl:c.toList.length=4:=by rw [Array.length_toList,hc]
  show List.take 4 (_++c.toList++_)++_++_=_
  unfold crow
  rw [Array.toList_push]
  match hcc:c.toList,hcl with
  | [a,b,d,e],_=>rfl
 refine KGd (Wx hc) (qK ?_)
 have e1:=Ext.push h (.cells (crow c n) JZ)
 have g1:(h.push (.cells (crow c n) JZ))[h.size]?=some (.cells (crow c n) JZ (0,0)):=Kf
 generalize h.push (.cells (crow c n) JZ)=h1 at e1 g1 ⊢
 have hs1:=e1.size
 have hrl:=G.gw.len5 G.w5
 have hgl:=G.len
 have hw':W5 [crow c n]:=fun x hx=>by simp at hx; subst hx; exact ⟨Wx hc,KHU hv.to⟩
 have G1:Gw lo h1 r 5 (Jq css):=G.gw.same (fun k hk=>e1.same k (G.gw.lt hk).1)
 refine KE (KBH (vs:=Jq css) (news:=Jq [crow c n]) rfl G1 (by rw [KDE hw']; rfl) (.inr ⟨_,rfl,fun j u hj=>?_⟩) (KMy hw') (by simp only []; omega) (by simp only []; omega) (by omega) (fun h' r' G' hlen hs same on_=>?_))
 ·rw [Kg,Nat.zero_add,KU g1]
  have:Jq [crow c n]=(crow c n).toList:=by simp [Jq]
  rw [this,Array.getElem?_toList] at hj
  exact hj
 ·have he:∀ b,S b→h'[b]?=h[b]?:=fun b hb=>(same b (by have:=(hS b hb).1; omega) (hS b hb).2).trans (e1.same b (hS b hb).1)
  refine H h' r' ⟨?_,G.w5.append hw',by simp [hgl],fun j h1 h2=>?_⟩ (by omega) (fun i hi ho=>(same i (by omega) ho).trans (e1.same i hi)) (fun i hi=>(on_ i hi).imp id (fun h=>by omega))
  ·unfold Jq at G' ⊢
   rw [List.flatMap_append]
   exact G'
  ·by_cases hj:j < l.length
   ·rw [List.getElem_append_left hj,List.getElem_append_left (by omega)]
    obtain ⟨c2,e,hI,hv2⟩:=G.rep j hj (by omega)
    exact ⟨c2,e,hI,hv2.same he⟩
   ·have hj':j=l.length:=by simp at h1; omega
    subst hj'
    rw [List.getElem_append_right (Nat.le_refl _),List.getElem_append_right (by omega)]
    have h0:l.length - css.length=0:=by omega
    simp only [Nat.sub_self,h0,List.getElem_cons_zero]
    exact ⟨c,rfl,hn,hv.same he⟩
end Gx
namespace Gx
open Go
set_option linter.unusedVariables false
set_option linter.unusedSimpArgs false
theorem KOA (t:List UInt8):(numP t).2=0∨(numP t).1=0:=by
 unfold numP
 split
 ·exact .inr rfl
 split
 ·exact .inr rfl
 split
 ·exact .inr rfl
 split
 ·exact .inl rfl
 ·exact .inr rfl
theorem KKE (t:List UInt8):I64 (numP t).1:=by
 rcases KOA t with h | h
 ·exact KHP h
 ·rw [h]; exact ⟨by decide,by decide⟩
def cntL (t:List UInt8):Ct:=((VL (cutC 32 t).2).1,(numP (cutC 32 t).1).1)
def KIb (t:List UInt8):Bool:=(decide ((32:UInt8) ∈ t) && decide ((numP (cutC 32 t).1).2=0)) && decide ((VL (cutC 32 t).2).2.2=0)
def KAH (ls:List (List UInt8)):List Ct:=ls.map cntL
def okB (ls:List (List UInt8)) (i:Nat):Bool:=KIb (ls.getD i []) && KDt (KAH (ls.take (i+1)))
def KF5 (s:List UInt8):Option (List Ct) × Int:=match KMu (okB (Ko s)) (Ko s).length with
 | some i=>(none,((i+1:Nat):Int))
 | none=>if KDC s=true then (some (KAH (Ko s)),0) else (none,((Ko s).length:Int))
theorem KAS {ls:List (List UInt8)} {i:Nat} (hi:i < ls.length):KAH (ls.take (i+1))=KAH (ls.take i)++[cntL ls[i]]:=by
 unfold KAH
 rw [List.take_succ_eq_append_getElem hi,List.map_append]; rfl
theorem KIc {c:Ct}:∀ {l:List Ct} {left:Int} {p:Option Vl},bagI left p (l++[c])=true→1≤c.2
 | [],left,p,h=>by
  rw [List.nil_append,show c=(c.1,c.2) from rfl,bagI,Bool.and_eq_true,Bool.and_eq_true] at h
  exact of_decide_eq_true h.1.1
 | (v,n)::r,left,p,h=>by
  rw [List.cons_append,bagI,Bool.and_eq_true,Bool.and_eq_true,Bool.and_eq_true,Bool.and_eq_true] at h
  exact KIc h.2.2.2
theorem KOB (l:List Ct):(bagE l == 0)=KDt l:=by
 unfold bagE
 cases KDt l <;> rfl
theorem KOC (l:List Ct):(bagE l != 0)=!KDt l:=by
 unfold bagE
 cases KDt l <;> rfl
theorem KK0 {t:List UInt8} {p lo:Nat} {h:Heap} {Q:Bool→Heap→Prop} {r:Sl} {css:List (Array Value)} {l:List Ct} (ht:t.length≤1099511627776) (he:ErrV h) (hp:h[p]?=some (.cells #[r.v] Gl (0,0))) (G:CGw lo (OwnS lo h r) h r css l) (hpl:p < lo) (hlo:lo≤h.size) (hm:l.length≤1099511627776)
  (H:∀ h' r' css',h.size≤h'.size→(∀ k,k < lo→k≠p→h'[k]?=h[k]?)→h'[p]?=some (.cells #[r'.v] Gl (0,0))→CGw lo (OwnS lo h' r') h' r' css' (l++[cntL t])→Q (KIb t && KDt (l++[cntL t])) h'):(Y7 (bs t) ⟨p,0,none⟩).wp h Q:=by
 unfold Y7
 have hcl:=KJR 32 t
 refine KE (KMx (c:=32) (by omega) ?_)
 dsimp only
 refine KE (WX (KE4 _) (KBC (by omega) he (fun h1 e1=>?_)))
 refine KE (KJM (by omega) (he.ext e1) (fun h2 c e2 V2=>?_))
 dsimp only
 refine ZU (fun h3 e3 s3 g3=>Z0 V2.size (stR g3 (by rw [V2.size]; exact Nat.le_refl 4) V2.to.one (fun h4 u4 g4=>?_)))
 rw [K0 (cs:=vz) (vs:=c.toList) (by rw [Array.length_toList,V2.size]; rfl),Array.toArray_toList] at g4
 have e4:Ext h h4:=((e1.trans e2).trans e3).upd u4 (e1.trans e2).size
 have hs1:=e1.size
 have hs2:=e2.size
 have hu4:=u4.size
 have hp4:=e4.blk hp
 refine Jw (ZA hp4) (ldR g4 V2.size ?_)
 have G4:CGw lo (OwnS lo h4 r) h4 r css l:=(G.same (fun k hk=>e4.same k (G.gw.lt hk).1) (fun k hk=>e4.same k hk.2.1)).mono (fun k hk=>⟨hk.1,by have:=hk.2.1; omega,hk.2.2⟩)
 have V4:ZK (OwnS lo h4 r) h4 (VL (cutC 32 t).2).1 c:=((V2.lt2).same (fun k hk=>(u4.ne k (by have:=hk.2; omega)).trans (e3.same k hk.2))).mono (fun k hk=>⟨by have:=hk.1; omega,by have:=hk.2; omega,fun ho=>by have:=(G.gw.lt ho).1; have:=hk.1; omega⟩)
 refine KKD G4 (fun k hk=>hk.2) V4 (KKE _) (by omega) hm (fun h5 r5 G5 hs5 same5 on5=>?_)
 have hps:=UD hp
 have hp5:h5[p]?=some (.cells #[r.v] Gl (0,0)):=(same5 p (by omega) (fun ho=>by have:=(G.gw.lt ho).2; omega)).trans hp4
 refine Wl (ZA hp5) (KZ hp5) (KEo _) ?_
 have u6:=Upd.hset h5 p 0 r5.v
 have hp6:=KAD (u:=r5.v) hp5
 generalize hset h5 ⟨p,0,none⟩ r5.v=h6 at u6 hp6 ⊢
 have hu6:=u6.size
 have G6:CGw lo (OwnS lo h6 r5) h6 r5 (css++[crow c (numP (cutC 32 t).1).1]) (l++[cntL t]):=(G5.same (fun k hk=>u6.ne k (fun e=>by have:=(G5.gw.lt hk).2; omega)) (fun k hk=>u6.ne k (fun e=>by have:=hk.1; omega))).mono (fun k hk=>⟨hk.1,by have:=hk.2.1; omega,fun ho=>(on5 k ho).elim hk.2.2 (fun h=>by have:=hk.2.1; omega)⟩)
 have same6:∀ k,k < lo→k≠p→h6[k]?=h[k]?:=fun k hk hkp=>by
  rw [u6.ne k hkp,same5 k (by omega) (fun ho=>by have:=(G.gw.lt ho).2; omega),e4.same k (by omega)]
 refine U1 (c:=decide ((numP (cutC 32 t).1).2=0)) (fun _ Q' hq=>KC (by rw [eqI]; exact hq)) ?_
 refine U1 (c:=decide ((VL (cutC 32 t).2).2.2=0)) (fun _ Q' hq=>KC (by rw [eqI]; exact hq)) ?_
 show (M.ite (KIb t) _ _>>=_).wp h6 Q
 have hlen:(l++[cntL t]).length≤9223372036854775807:=by rw [List.length_append]; simp only [List.length_cons,List.length_nil]; omega
 refine KE (KP (fun hb=>Jw (ZA hp6) (KE (KFZ (G6.to hlen) (fun h7 e7=>KC (KC ?_))))) (fun hb=>KC (KC ?_)))
 ·rw [KOB]
  have G7:CGw lo (OwnS lo h7 r5) h7 r5 (css++[crow c (numP (cutC 32 t).1).1]) (l++[cntL t]):=(G6.same (fun k hk=>e7.same k (G6.gw.lt hk).1) (fun k hk=>e7.same k hk.2.1)).mono (fun k hk=>⟨hk.1,by have:=hk.2.1; have:=e7.size; omega,hk.2.2⟩)
  have:=H h7 r5 _ (by have:=e7.size; omega) (fun k hk hkp=>(e7.same k (by omega)).trans (same6 k hk hkp)) (e7.blk hp6) G7
  rw [hb,Bool.true_and] at this
  exact this
 ·have:=H h6 r5 _ (by omega) same6 hp6 G6
  rw [hb,Bool.false_and] at this
  exact this
theorem KHX {s:List UInt8} {h:Heap} {Q:Sl × Int × Int→Heap→Prop} (hs:s.length≤1048576) (he:ErrV h)
  (H1:∀ h' n,KF5 s=(none,n)→Ext h h'→Q (Sl.nil,n,230) h')
  (H2:∀ h' r l,KF5 s=(some l,0)→Ext h h'→CsRep h' r l→Q (r,0,0) h'):(VH (bs s)).wp h Q:=by
 unfold VH
 have hll:=qf _ s (Nat.le_refl _)
 refine ZU (fun h1 e1 s1 g1=>?_)
 have hlen:∀ i (hi:i < (Ko s).length),(Ko s)[i].length≤s.length:=KKA s
 have hcl:∀ i,(KAH ((Ko s).take i)).length≤s.length:=fun i=>by unfold KAH; rw [List.length_map,List.length_take]; omega
 refine KE (KJQ (ok:=okB (Ko s)) (I:=fun i h2=>ErrV h2∧h1.size+7≤h2.size∧(∀ k,k < h.size→h2[k]?=h[k]?)∧∃ r css,h2[h.size]?=some (.cells #[r.v] Gl (0,0))∧CGw (h1.size+7) (OwnS (h1.size+7) h2 r) h2 r css (KAH ((Ko s).take i)))
  (E:=fun h2=>h1.size+7≤h2.size∧∀ k,k < h.size→h2[k]?=h[k]?) hs rfl ?_ ?_ ?_ ?_ ?_ ?_)
 ·rintro i h2 h3 k ⟨a1,a2,a3,r,css,a4,G⟩ u k1 k2
  have hu:=u.size
  refine ⟨?_,by omega,fun j hj=>(u.ne j (by omega)).trans (a3 j hj),r,css,(u.ne _ (by omega)).trans a4,(G.same (fun j hj=>u.ne j (by have:=(G.gw.lt hj).2; omega)) (fun j hj=>u.ne j (by have:=hj.1; omega))).mono (fun j hj=>⟨hj.1,by rw [hu]; exact hj.2.1,hj.2.2⟩)⟩
  have h5:=he.lt5
  exact ErrV.km a1 (b:=k) (Km.upd u rfl) (by omega)
 ·rintro h2 h3 k ⟨a1,a2⟩ u k1 k2
  exact ⟨by rw [u.size]; exact a1,fun j hj=>(u.ne j (by omega)).trans (a2 j hj)⟩
 ·intro h2 e2 hs2
  exact ⟨(he.ext e1).ext e2,by omega,fun k hk=>(e2.same k (by omega)).trans (e1.same k hk),Sl.nil,[],e2.blk g1,CGw.nil _ _ _⟩
 ·rintro i hi h2 hz ⟨a1,a2,a3,r,css,a4,G⟩
  refine N1 KAt (KBy _ _) ?_
  refine KK0 (by have:=hlen i hi; omega) a1 a4 G (by omega) (by omega) (by have:=hcl i; omega) (fun h3 r3 css3 hs3 same3 hp3 G3=>?_)
  have hget:(Ko s).getD i []=(Ko s)[i]:=by rw [List.getD_eq_getElem?_getD,List.getElem?_eq_getElem hi]; rfl
  have he3:ErrV h3:=by
   obtain ⟨t,q,hq⟩:=a1
   refine ⟨t,q,?_⟩
   have h5:=he.lt5
   unfold KO at hq ⊢
   rw [same3 5 (by omega) (by omega)]
   exact hq
  rw [← KAS hi] at G3 ⊢
  exact ⟨hs3,fun k k1 k2=>same3 k (by omega) (by omega),by unfold okB; rw [hget],fun _=>⟨he3,by omega,fun k hk=>(same3 k (by omega) (by omega)).trans (a3 k hk),r3,css3,hp3,G3⟩,fun _=>⟨by omega,fun k hk=>(same3 k (by omega) (by omega)).trans (a3 k hk)⟩⟩
 ·rintro hok h2 hz ⟨a1,a2,a3,r,css,a4,G⟩
  have hb:=KDs hok
  have E2:Ext h h2:=⟨by omega,a3⟩
  cases hend:KDC s with
  | true =>
   rw [if_pos rfl]
   rw [List.take_length] at G
   refine iteF rfl (Jw (ZA a4) (KC (H2 h2 r _ (by unfold KF5; rw [hb,hend]; rfl) E2 (G.to ?_))))
   unfold KAH; rw [List.length_map]; omega
  | false =>
   rw [if_neg (by decide)]
   exact iteT rfl (KC (H1 h2 _ (by unfold KF5; rw [hb,hend]; rfl) E2))
 ·rintro i hi hok hf h2 hz ⟨a1,a2⟩
  exact iteT rfl (KC (H1 h2 _ (by unfold KF5; rw [KGS hi hok hf]) ⟨by omega,a2⟩))
theorem KBE {s:List UInt8} {h:Heap} {Q:Sl × Int × Int→Heap→Prop} (hs:s.length≤1048576)
  (H1:∀ h' n,KF5 s=(none,n)→Ext h h'→Q (Sl.nil,n,230) h')
  (H2:∀ h' r l,KF5 s=(some l,0)→Ext h h'→CsRep h' r l→Q (r,0,0) h'):(JU (bs s)).wp h Q:=by
 unfold JU
 have hll:=qf _ s (Nat.le_refl _)
 refine KE (KJH hs (fun h1 x e1 G=>?_))
 have hxl:x.len=(Ko s).length:=by have:=G.len; rw [List.length_map] at this; omega
 have hz1:=e1.size
 have hcl:∀ i,(KAH ((Ko s).take i)).length≤s.length:=fun i=>by unfold KAH; rw [List.length_map,List.length_take]; omega
 refine M.loop_inv (fun (z:Sl × Int) hh=>∃ (i:Nat) (r:Sl) (css:List (Array Value)),z=(r,(i:Int))∧i≤(Ko s).length∧Ext h1 hh∧(∀ k,k < i→okB (Ko s) k=true)∧(i=(Ko s).length→KDC s=true)∧CGw h1.size (OwnS h1.size hh r) hh r css (KAH ((Ko s).take i))) (fun z _=>(((Ko s).length:Int) - z.2).toNat) ?_ ?_
 ·rintro z hh ⟨i,r,css,rfl,hi,E,hok,hend,V⟩ self hself
  unfold VU
  dsimp only
  rw [hxl]
  have hzh:=E.size
  refine KP (fun hlt=>?_) (fun hge=>?_)
  ·have hlt:i < (Ko s).length:=by have:=of_decide_eq_true hlt; omega
   have hget:(Ko s).getD i []=(Ko s)[i]:=by rw [List.getD_eq_getElem?_getD,List.getElem?_eq_getElem hlt]; rfl
   have hoki:okB (Ko s) i=(KIb (Ko s)[i] && KDt (KAH ((Ko s).take i)++[cntL (Ko s)[i]])):=by unfold okB; rw [hget,KAS hlt]
   have badF:okB (Ko s) i=false→∀ {h':Heap},Ext h h'→Q (Sl.nil,(i:Int)+1,230) h':=fun hf {h'} e'=>by
    refine H1 h' _ ?_ e'
    unfold KF5
    rw [KGS hlt hok hf]
    rfl
   have badL:okB (Ko s) i=true→i=(Ko s).length - 1→KDC s=false→∀ {h':Heap},Ext h h'→Q (Sl.nil,(i:Int)+1,230) h':=fun ht hl hes {h'} e'=>by
    have hall:∀ k,k < (Ko s).length→okB (Ko s) k=true:=fun k hk=>by
     rcases Nat.lt_or_ge k i with h | h
     ·exact hok k h
     ·have:k=i:=by omega
      subst this
      exact ht
    refine H1 h' _ ?_ e'
    unfold KF5
    rw [KDs hall,hes]
    show (none,(((Ko s).length:Nat):Int))=_
    rw [show ((Ko s).length:Int)=(i:Int)+1 by omega]
   have G1:=G.ext E
   have hll2:=KKA s i hlt
   obtain ⟨b,hb,hc⟩:=G1.cell (j:=i) (v:=sv (Ko s)[i]) (by rw [List.getElem?_map,List.getElem?_eq_getElem hlt]; rfl)
   have hrd:∀ {h':Heap},Ext hh h'→KO h' ((⟨b,0,none⟩:Addr).add ((i:Int).toNat * 1))=some (.string (bs (Ko s)[i])):=fun {h'} e'=>by
    refine e'.cell ?_
    rw [Kg,Nat.zero_add,show (i:Int).toNat * 1=i by omega]; exact hc
   generalize hline:(Ko s)[i]=t at hoki hll2 hrd
   refine Xi (by omega) (by omega) hb (Yx (n:=bs t) (hrd (Ext.refl _)) ?_)
   refine KE (KKz (by omega) ?_)
   have hcl2:=KJR 32 t
   by_cases hm:¬ (32:UInt8) ∈ t
   ·rw [if_neg hm]
    refine iteT rfl (KC ?_)
    rw [w64 (by omega) (by omega)]
    refine badF ?_ (e1.trans E)
    rw [hoki]
    unfold KIb
    rw [decide_eq_false hm]; rfl
   have hm:=Classical.not_not.1 hm
   rw [if_pos hm]
   obtain ⟨p1,p2,hl3⟩:=KAR hm
   refine iteF (decide_eq_false (by omega)) ?_
   refine Xi (by omega) (by omega) hb (Yx (n:=bs t) (hrd (Ext.refl _)) ?_)
   refine KHL (a:=0) (b:=(cutC 32 t).1.length) rfl rfl (Nat.zero_le _) (by omega) ?_
   rw [List.drop_zero,Nat.sub_zero,p1]
   refine KE (KDr (by omega) ?_)
   refine Xi (by omega) (by omega) hb (Yx (n:=bs t) (hrd (Ext.refl _)) ?_)
   rw [w64 (by omega) (by omega)]
   refine KHL (a:=(cutC 32 t).1.length+1) (b:=t.length) (by omega) (by rw [ZO]) (by omega) (Nat.le_refl _) ?_
   rw [List.take_of_length_le (by rw [List.length_drop]; omega),p2]
   refine KE (KJP (by omega) (fun h2 c e2 V2=>?_))
   dsimp only
   refine ZU (fun h3 e3 s3 g3=>Z0 V2.size (stR g3 (by rw [V2.size]; exact Nat.le_refl 4) V2.to.one (fun h4 u4 g4=>?_)))
   rw [K0 (cs:=vz) (vs:=c.toList) (by rw [Array.length_toList,V2.size]; rfl),Array.toArray_toList] at g4
   have e4:Ext hh h4:=(e2.trans e3).upd u4 e2.size
   have hs2:=e2.size
   have hu4:=u4.size
   rw [w64 (by omega) (by omega),w64 (by omega) (by omega)]
   refine or_b (c:=decide ((VL (cutC 32 t).2).2.2≠0)) (fun _ Q' hq=>KC (by rw [bne,eqI,← decide_not]; exact hq)) ?_
   refine or_b (c:=decide ((numP (cutC 32 t).1).1 < 1)) (fun _ Q' hq=>KC hq) ?_
   refine or_b (c:=decide (i=(Ko s).length - 1) && !KDC s) (fun _ Q' hq=>?_) ?_
   ·rw [eqI,show decide ((i:Int)=((Ko s).length:Int) - 1)=decide (i=(Ko s).length - 1) from decide_eq_decide.2 (by omega)]
    refine U1 (c:=!KDC s) (fun _ Q2 hq2=>KE (KMv (by omega) (KC hq2))) (KC hq)
   have E4:=e1.trans (E.trans e4)
   refine KP (fun hbad=>KC ?_) (fun hgood=>?_)
   ·cases hck:okB (Ko s) i with
    | false=>exact badF hck E4
    | true =>
     have hck':=hck
     rw [hoki,Bool.and_eq_true] at hck'
     have h1:=KIc (c:=cntL t) hck'.2
     have h2:=hck'.1
     unfold KIb at h2
     rw [Bool.and_eq_true,Bool.and_eq_true,decide_eq_true_iff,decide_eq_true_iff,decide_eq_true_iff] at h2
     have h3:¬ (numP (cutC 32 t).1).1 < 1:=by
      have:1≤(numP (cutC 32 t).1).1:=h1
      omega
     rw [h2.1.2,h2.2,decide_eq_false h3] at hbad
     have hbad:(decide (i=(Ko s).length - 1) && !KDC s)=true:=by simpa using hbad
     rw [Bool.and_eq_true,decide_eq_true_iff,Bool.not_eq_true'] at hbad
     exact badL hck hbad.1 hbad.2 E4
   ·rw [Bool.or_eq_false_iff,Bool.or_eq_false_iff,Bool.or_eq_false_iff,decide_eq_false_iff_not,decide_eq_false_iff_not] at hgood
    obtain ⟨⟨⟨n1,n2⟩,n3⟩,n4⟩:=hgood
    have hlb:KIb t=true:=by
     unfold KIb
     have n1:(numP (cutC 32 t).1).2=0:=by simpa using n1
     rw [decide_eq_true hm,decide_eq_true n1,decide_eq_true (Classical.not_not.1 n2)]; rfl
    rw [hlb,Bool.true_and] at hoki
    refine ldR g4 V2.size ?_
    have V4:CGw h1.size (OwnS h1.size h4 r) h4 r css (KAH ((Ko s).take i)):=(V.same (fun k hk=>e4.same k (V.gw.lt hk).1) (fun k hk=>e4.same k hk.2.1)).mono (fun k hk=>⟨hk.1,by have:=hk.2.1; omega,hk.2.2⟩)
    have hv4:ZK (OwnS h1.size h4 r) h4 (VL (cutC 32 t).2).1 c:=((V2.lt2).same (fun k hk=>(u4.ne k (by have:=hk.2; omega)).trans (e3.same k hk.2))).mono (fun k hk=>⟨by have:=hk.1; omega,by have:=hk.2; omega,fun ho=>by have:=(V.gw.lt ho).1; have:=hk.1; omega⟩)
    refine KKD V4 (fun k hk=>hk.2) hv4 (KKE _) (by omega) (by have:=hcl i; omega) (fun h5 r5 G5 hs5 same5 on5=>?_)
    have G5':CGw h1.size (OwnS h1.size h5 r5) h5 r5 (css++[crow c (numP (cutC 32 t).1).1]) (KAH ((Ko s).take (i+1))):=by
     rw [KAS hlt,hline]
     exact G5.mono (fun k hk=>⟨hk.1,by have:=hk.2.1; omega,fun ho=>(on5 k ho).elim hk.2.2 (fun h=>by have:=hk.2.1; omega)⟩)
    have e5:Ext h1 h5:=⟨by omega,fun k hk=>(same5 k (by omega) (fun ho=>by have:=(V.gw.lt ho).2; omega)).trans ((E.trans e4).same k hk)⟩
    refine KE (KEA (G5'.to (by have:=hcl (i+1); omega)) (fun h6 e6=>?_))
    rw [KOC,KAS hlt,hline,← hoki]
    have hs6:=e6.size
    refine KP (fun hb0=>KC (badF (by simpa using hb0) (e1.trans (e5.trans e6)))) (fun hb0=>?_)
    have hb0:okB (Ko s) i=true:=by simpa using hb0
    refine hself (r5,_) _ ⟨i+1,r5,css++[crow c (numP (cutC 32 t).1).1],rfl,hlt,e5.trans e6,fun k hk=>?_,fun hee=>?_,?_⟩ (by dsimp only; omega)
    ·rcases Nat.lt_or_ge k i with h | h
     ·exact hok k h
     ·have:k=i:=by omega
      subst this
      exact hb0
    ·cases hes:KDC s with
     | true=>rfl
     | false =>
      rw [hes,decide_eq_true (show i=(Ko s).length - 1 by omega)] at n4
      cases n4
    ·exact (G5'.same (fun k hk=>e6.same k (G5'.gw.lt hk).1) (fun k hk=>e6.same k hk.2.1)).mono (fun k hk=>⟨hk.1,by have:=hk.2.1; omega,hk.2.2⟩)
  ·have hge:i=(Ko s).length:=by have:=of_decide_eq_false hge; omega
   subst hge
   rw [List.take_length] at V
   refine KC (H2 _ r (KAH (Ko s)) ?_ (e1.trans E) (V.to ?_))
   ·unfold KF5
    rw [KDs (fun k hk=>hok k hk),hend rfl]
    rfl
   ·unfold KAH; rw [List.length_map]; omega
 ·refine ⟨0,Sl.nil,[],rfl,Nat.zero_le _,Ext.refl _,fun k hk=>absurd hk (Nat.not_lt_zero _),fun hee=>?_,CGw.nil _ _ _⟩
  have:s=[]:=by
   by_cases h:s=[]
   ·exact h
   ·rw [YD h] at hee; cases hee
  subst this
  rfl
theorem KOD {h:Heap} {x:Sl} {l:List Ct} {s:List UInt8} (hx:CsRep h x l) (hs:s.length≤1048576) (hW:l.length≤100→bagW l≤4194304) (hp:Gu h) (hd:KAx h) (he:ErrV h) {Q:Bool→Heap→Prop} (H:∀ h',Ext h h'→Q true h'):(Vr x (bs s)).wp h Q:=by
 unfold Vr
 have hxl:=hx.len
 refine or_b (c:=decide ((Lib.countByte s 10:Int) > 200)) (fun _ Q' hq=>KE ⟨10,rfl,?_⟩) ?_
 ·rw [show (bs s).data.toList=s by simp [bs]]
  exact KC hq
 refine KP (fun hc=>KC (H _ (Ext.refl _))) (fun hc=>?_)
 have hl:l.length≤100:=by
  rw [Bool.or_eq_false_iff,decide_eq_false_iff_not] at hc
  have:=hc.1
  omega
 have hW:=hW hl
 have tail:∀ {h2:Heap} {r r':Sl} {m:List Ct} {n:Int} {g:Int} {t:ByteArray} {e:Int},Ext h h2→CsRep h2 r m→CsRep h2 r' m→(do
  let Xx16←Jm
  let Xx17←M.ite Xx16 (do
   M.pure (sEq (t,e).1 (t,e).1)
   ) (do
   M.pure false
   )
  let Xx18←M.ite Xx17 (do
   M.pure ((t,e).2 == (t,e).2)
   ) (do
   M.pure false
   )
  let Xx19←M.ite Xx18 (do
   let Xx20←UA (r,n,g).1 (r',n,g).1
   M.pure Xx20
   ) (do
   M.pure false
   )
  let Xx21←M.ite Xx19 (do
   M.pure ((r,n,g).2.1 == (r',n,g).2.1)
   ) (do
   M.pure false
   )
  let Xx22←M.ite Xx21 (do
   M.pure ((r,n,g).2.2 == (r',n,g).2.2)
   ) (do
   M.pure false
   )
  M.pure Xx22:M Bool).wp h2 Q:=fun {h2 r r' m n g t e} E2 hr hr'=>by
  have s1:sEq t t=true:=by
   have:t=bs t.data.toList:=by simp [bs]
   rw [this,zy]; simp
  refine KE (KIM (hp.ext E2) (hd.ext E2) (fun h3 e3=>KD0 rfl (Jr ?_)))
  refine KD0 s1 (Jr ?_)
  refine KD0 (by simp) (Ud (KE (KIZ (hr.ext e3) (hr'.ext e3) (fun h4 e4=>Jr ?_))))
  refine KD0 rfl (Jr ?_)
  refine KD0 (by simp) (Jr (KC ?_))
  rw [show ((r,n,g).2.2 == (r',n,g).2.2)=true by simp]
  exact H _ ((E2.trans e3).trans e4)
 have rest:∀ {h1:Heap} {t:ByteArray} {e:Int},Ext h h1→(do
   let Xx12←VH (bs s)
   let Xx14←JU (bs s)
   let Xx16←Jm
   let Xx17←M.ite Xx16 (do
    M.pure (sEq (t,e).1 (t,e).1)
    ) (do
    M.pure false
    )
   let Xx18←M.ite Xx17 (do
    M.pure ((t,e).2 == (t,e).2)
    ) (do
    M.pure false
    )
   let Xx19←M.ite Xx18 (do
    let Xx20←UA Xx12.1 Xx14.1
    M.pure Xx20
    ) (do
    M.pure false
    )
   let Xx21←M.ite Xx19 (do
    M.pure (Xx12.2.1 == Xx14.2.1)
    ) (do
    M.pure false
    )
   let Xx22←M.ite Xx21 (do
    M.pure (Xx12.2.2 == Xx14.2.2)
    ) (do
    M.pure false
    )
   M.pure Xx22:M Bool).wp h1 Q:=fun {h1 t e} E=>by
  refine KE (KHX hs (he.ext E) (fun h2 n hr e2=>?_) (fun h2 r m hr e2 V2=>?_))
  ·refine KE (KBE hs (fun h3 n' hr' e3=>?_) (fun h3 r' m' hr' e3 V3=>by rw [hr] at hr'; cases hr'))
   rw [hr] at hr'
   cases hr'
   exact tail ((E.trans e2).trans e3) (CsRep.nil _) (CsRep.nil _)
  ·refine KE (KBE hs (fun h3 n' hr' e3=>by rw [hr] at hr'; cases hr') (fun h3 r' m' hr' e3 V3=>?_))
   rw [hr] at hr'
   cases hr'
   exact tail ((E.trans e2).trans e3) (V2.ext e3) V3
 refine KE (KMw hx hp hd (by omega) (fun h1 e1 hne=>?_) (fun h1 e1 h0=>?_))
 ·exact KE (KIY (hx.ext e1) (by omega) (fun h2 e2 _=>rest (e1.trans e2)) (fun h2 e2 h0=>absurd h0 hne))
 ·exact KE (KIY (hx.ext e1) (by omega) (fun h2 e2 hne=>absurd h0 hne) (fun h2 e2 _=>rest (e1.trans e2)))
end Gx
namespace Go.Proofs.YthelieedlghccaaGreatDoor
open Go Go.RowKit Gx
set_option linter.unusedVariables false
set_option maxRecDepth 100000
theorem c124:Tryz.prog.cellsOf 124=5:=by kernel_rfl
theorem KId {H:Type}:∀ (l:List Ct) (es:List (DataW H)),l.length=es.length→(∀ i (h1:i < l.length) (h2:i < es.length),wt l[i].1+2≤Rows.uptoBulk es[i])→bagW l≤4 * Rows.uptoBulkAll es
 | [],[],_,_=>by simp [bagW]
 | [],_::_,h,_=>by simp at h
 | _::_,[],h,_=>by simp at h
 | (v,n)::l,d::es,h,hk=>by
  have h0:=hk 0 (by simp) (by simp)
  have:=KId l es (by simpa using h) (fun i h1 h2=>by
   have:=hk (i+1) (by simpa using h1) (by simpa using h2)
   simpa using this)
  simp only [List.getElem_cons_zero] at h0
  rw [bagW]
  simp only [Rows.uptoBulkAll]
  omega
section
variable {H:Type} {enc:TypeId × Value→H}
theorem KK1 {W:World} {sp:Nat→Bool} {held:Bool} {base:Nat} (m:Nat) (cs:List Value) (x:DataW H × List MemPlace) (h:DataW.trod enc Tryz.prog W base sp held m 124 cs=some x):∃ (c:Ct) (c4:Array Value),cs.toArray=crow c4 c.2∧I64 c.2∧VRep W.heap c.1 c4∧wt c.1+2≤Rows.uptoBulk x.1:=by
 obtain ⟨xs,n,hn,hx,hcl,hxl,hf⟩:=DataW.trod_struct Tryz.underlying124 h
 rw [c124] at hcl
 have hxl:xs.length=2:=hxl
 match cs,hcl with
 | [a0,a1,a2,a3,a4],_ =>
 match xs,hxl with
 | [y0,y1],_ =>
 have f0:DataW.trod enc Tryz.prog W base sp held n 24 (([a0,a1,a2,a3,a4].drop 0).take (Tryz.prog.cellsOf 24))=some y0:=hf 0 _ rfl
 have f1:DataW.trod enc Tryz.prog W base sp held n 2 (([a0,a1,a2,a3,a4].drop 4).take (Tryz.prog.cellsOf 2))=some y1:=hf 1 _ rfl
 rw [c24] at f0
 rw [c2] at f1
 obtain ⟨v,hv,hw⟩:=(KL6 n).1 _ _ f0
 obtain ⟨z,hz,hI,b1⟩:=KHA Tryz.underlying2 f1
 have hz:a4=.int .i64 z:=hz
 refine ⟨(v,z),#[a0,a1,a2,a3],by rw [hz]; rfl,hI,hv,?_⟩
 rw [hx]
 simp only [List.map_cons,List.map_nil,Rows.uptoBulk,Rows.uptoBulkAll]
 omega
theorem KMz {W:World} {sp:Nat→Bool} {held:Bool} {base:Nat} (m:Nat) (v:Value) (x:DataW H × List MemPlace) (h:DataW.trod enc Tryz.prog W base sp held m 57 [v]=some x):∃ (s:Sl) (l:List Ct),v=s.v∧CsRep W.heap s l∧bagW l+1≤4 * Rows.uptoBulk x.1:=by
 rcases DataW.trod_slice Tryz.underlying57 h with ⟨h0,hx⟩ | ⟨a,len,cap,elems,rest,n,hn,h1,hx,_,hle,hm,hlen,hel,_,_⟩
 ·cases h0
  refine ⟨Sl.nil,[],rfl,CsRep.nil _,?_⟩
  rw [hx]; simp [bagW,Rows.uptoBulk]
 ·cases h1
  rw [c124] at hel
  have key:∀ i,i < len→∃ (c:Ct) (c4:Array Value),c4.size=4∧(∀ j,j < 4→KO W.heap (a.add (i * 5+j))=c4[j]?)∧KO W.heap (a.add (i * 5+4))=some (.int .i64 c.2)∧I64 c.2∧VRep W.heap c.1 c4∧∀ (h:i < elems.length),wt c.1+2≤Rows.uptoBulk (elems[i]).1:=fun i hi=>by
   have h2:=hel i hi
   rw [List.getElem?_eq_getElem (by omega),Option.bind_eq_some_iff] at h2
   obtain ⟨cs,hcs,ht⟩:=h2
   obtain ⟨_,hl1,hc⟩:=World.cells?_some hcs
   obtain ⟨c,c4,e,hI,hv,hw⟩:=KK1 _ _ _ ht
   have hg:∀ j,j < 5→KO W.heap (a.add (i * 5+j))=(crow c4 c.2)[j]?:=fun j hj=>by
    have:=hc j hj
    rw [Addr.add_add] at this
    rw [KDw] at this
    rw [this,← e]; simp
   exact ⟨c,c4,hv.size,fun j hj=>(hg j (by omega)).trans (KN8 hv.size j hj),(hg 4 (by omega)).trans (KN9 hv.size),hI,hv,fun _=>hw⟩
  let l:=List.ofFn (fun i:Fin len=>Classical.choose (key i i.2))
  have hL:l.length=len:=by simp [l]
  have hget:∀ i (h:i < l.length),∃ c4:Array Value,c4.size=4∧(∀ j,j < 4→KO W.heap (a.add (i * 5+j))=c4[j]?)∧KO W.heap (a.add (i * 5+4))=some (.int .i64 l[i].2)∧I64 l[i].2∧VRep W.heap l[i].1 c4∧∀ (h:i < elems.length),wt l[i].1+2≤Rows.uptoBulk (elems[i]).1:=fun i h=>by
   have:=Classical.choose_spec (key i (by omega))
   simpa [l] using this
  have hmx:len≤9223372036854775807:=by unfold maxLen at hm; omega
  refine ⟨⟨some a,len,cap⟩,l,rfl,⟨hL.symm,hle,hmx,fun j hj=>?_⟩,?_⟩
  ·obtain ⟨c4,h1,h2,h3,h4,h5,_⟩:=hget j hj
   exact ⟨a,c4,rfl,h1,h2,h3,h4,h5⟩
  ·rw [hx]
   have:=KId l (elems.map (·.1)) (by rw [hL,List.length_map,hlen]) (fun i h1 h2=>by
    obtain ⟨_,_,_,_,_,_,h6⟩:=hget i h1
    rw [List.getElem_map]
    exact h6 (by simpa using h2))
   simp only [Rows.uptoBulk]
   omega
end
end Go.Proofs.YthelieedlghccaaGreatDoor
namespace Gx
open Go Go.RowKit Go.ChangeShapes Go.WideShapes Go.ChangeAt Go.Joins
set_option linter.unusedVariables false
section
variable {H:Type} {enc:TypeId × Value→H} {P:Program}
theorem KOE {W W':World} (he:Ext W.heap W'.heap) {p:MemPlace} (hp:p.block < W.heap.size):W.sameAt W' p:=by
 cases p with
 | cell b o=>exact World.cell?_of_block (w:=W) (he.same b hp)
 | map b=>exact he.same b hp
theorem KKF {t:TypeId} (hl:laidOutB P=true) (hr:P.readableRec t=true) (hrow:t < P.types.size) {W W':World} {v:Value} {d:DataW H} {ps:List MemPlace}
  (h:DataW.Trod enc P W 0 (fun _=>true) true t v d ps) (he:Ext W.heap W'.heap) :
  DataW.Trod enc P W' 0 (fun b=>decide (b < W.heap.size)) true t v d ps:=by
 have hlt:∀ x ∈ ps,x.block < W.heap.size:=by
  obtain ⟨m,hm⟩:=h
  exact DataW.trod_lt m _ _ _ hm
 exact WideElems.Trod_stays hl hr hrow h (fun x hx=>KOE he (hlt x hx)) (fun x hx=>by simpa using hlt x hx)
theorem KM0 {W W':World} (he:Ext W.heap W'.heap) (hr:Rest W W') (may:MemPlace→Prop):W.keptBut W' may:=by
 refine ⟨hr.os,hr.output,fun i hi=>?_⟩
 rw [he.same i hi]
 split <;> simp_all
end
end Gx
