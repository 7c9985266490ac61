/- Own proofs: what those Lean programs compute. No condition. -/
import Derived.Test.YtpibdohdkfkcnaaGreatDoorP0
import Derived.Test.YtpibdohdkfkcnaaGreatDoorP1
import Derived.Test.YtpibdohdkfkcnaaGreatDoorP2
import Derived.Test.YtpibdohdkfkcnaaGreatDoorP3
import Derived.Test.YtpibdohdkfkcnaaGreatDoorP4
import Derived.Test.YtpibdohdkfkcnaaGreatDoorP5
import Derived.Test.YtpibdohdkfkcnaaGreatDoorP6
import Derived.Test.YtpibdohdkfkcnaaGreatDoorP7
import Derived.Test.YtpibdohdkfkcnaaGreatDoorTie
import Derived.KernelRfl
import Derived.ChangeArms
import Derived.DataReads
import Derived.WalkKit
import Derived.ProofKit
import Derived.OpenShut
import Derived.ShutString
import Derived.ChangeOld
import Derived.Below
import Derived.SizedLaws
import Derived.Lib.SmallJoins
import Derived.Deep.DeepHandedRow
import Derived.Lib.LaidTab
import Derived.JoinedCond
import Derived.SevenTiedAt
set_option linter.unusedVariables false
set_option linter.unusedSimpArgs false
namespace Gx
open Go Go.Proofs Go.Shelf Go.RowKit Go.Lib
set_option linter.unusedVariables false
set_option linter.unusedSimpArgs false
set_option maxRecDepth 100000
def negB (t:List UInt8):Bool:=decide (t.head?=some 45)
def topN (t:List UInt8):Nat:=if negB t=true then 9223372036854775808 else 9223372036854775807
def sgnV (t:List UInt8):Int:=if negB t=true then -(dcv 0 (numD t):Int) else (dcv 0 (numD t):Int)
theorem KD4 {M:Nat} (hM:M < 18446744073709551616) {l:List UInt8} (h:l.all digB=true):parseUintM M 0 l=if dcv 0 l≤M then .ok (dcv 0 l) else .range:=by
 split
 ·rename_i hv; exact q8 M hM l 0 h hv
 ·rename_i hv
  have h1:=za M l 0 h
  cases hp:parseUintM M 0 l with
  | ok u =>
   have:=GT M l 0 u hp
   exact absurd (this.1 ▸ this.2 (Nat.zero_le _)) hv
  | range=>rfl
  | _=>rw [hp] at h1; cases h1
theorem KHi {t:List UInt8} (h1:numD t≠[]) (h2:(numD t).all digB=true):Lib.parseIntB 64 t=if dcv 0 (numD t)≤topN t then .ok (sgnV t) else .range:=by
 have e63:(2:Nat) ^ (64 - 1)=9223372036854775808:=by decide
 have e64:(2:Nat) ^ 64 - 1=18446744073709551615:=by decide
 cases t with
 | nil=>exact absurd rfl h1
 | cons c r =>
  by_cases h45:c=45
  ·subst h45
   have hD:numD (45::r)=r:=rfl
   have hN:negB (45::r)=true:=rfl
   unfold topN sgnV
   rw [hD] at h1 h2 ⊢
   rw [if_pos hN,if_pos hN]
   unfold parseIntB
   dsimp only
   rw [if_pos (by right; rfl)]
   unfold parseUintB
   rw [if_neg h1,e64,KD4 (by decide) h2,e63]
   have h45:(45:UInt8).toNat=45:=rfl
   by_cases hb:dcv 0 r≤18446744073709551615
   ·rw [if_pos hb]
    dsimp only
    rw [if_neg (fun hh=>hh.1 h45)]
    by_cases hv:dcv 0 r≤9223372036854775808
    ·rw [if_pos hv,if_neg (fun hh=>by have:=hh.2; omega),if_pos h45]
    ·rw [if_neg hv,if_pos ⟨h45,by omega⟩]
   ·rw [if_neg hb,if_neg (by omega)]
  ·have hD:numD (c::r)=c::r:=by unfold numD; rw [List.head?_cons,if_neg (by simpa using h45)]
   have hN:negB (c::r)=false:=by unfold negB; rw [List.head?_cons]; exact decide_eq_false (by simpa using h45)
   unfold topN sgnV
   rw [hD] at h1 h2 ⊢
   rw [hN,if_neg Bool.false_ne_true,if_neg Bool.false_ne_true]
   have hc:digB c=true:=by rw [List.all_cons,Bool.and_eq_true] at h2; exact h2.1
   unfold digB at hc
   rw [Bool.and_eq_true,decide_eq_true_iff,decide_eq_true_iff] at hc
   unfold parseIntB
   dsimp only
   rw [if_neg (by omega)]
   unfold parseUintB
   rw [if_neg h1,e64,KD4 (by decide) h2,e63]
   by_cases hb:dcv 0 (c::r)≤18446744073709551615
   ·rw [if_pos hb]
    dsimp only
    by_cases hv:dcv 0 (c::r)≤9223372036854775807
    ·rw [if_pos hv,if_neg (fun hh=>by have:=hh.2; omega),if_neg (fun hh=>by have:=hh.1; omega),if_neg (by omega)]
    ·rw [if_neg hv,if_pos ⟨by omega,by omega⟩]
   ·rw [if_neg hb,if_neg (by omega)]
theorem KEl (t:List UInt8):numP t=if numD t=[] then (0,10) else if (numD t).all digB=false then (0,10) else if (numD t).head?=some 48∧t≠[48] then (0,10)
  else if dcv 0 (numD t)≤topN t then (sgnV t,0) else (0,7):=by
 unfold numP
 split
 ·rfl
 rename_i h1
 split
 ·rfl
 rename_i h2
 split
 ·rfl
 rw [KHi h1 (by cases hh:(numD t).all digB with | true=>rfl | false=>exact absurd hh h2)]
 by_cases hv:dcv 0 (numD t)≤topN t
 ·rw [if_pos hv,if_pos hv]
 ·rw [if_neg hv,if_neg hv]
theorem KHj {c:UInt8} (h:digB c=true):48≤c.toNat∧c.toNat≤57:=by
 unfold digB at h
 rwa [Bool.and_eq_true,decide_eq_true_iff,decide_eq_true_iff] at h
theorem KIu {l:List UInt8} {k:Nat} (hk:k < l.length):dcv 0 (l.take (k+1))=dcv 0 (l.take k) * 10+((l[k]).toNat - 48):=by
 rw [List.take_succ_eq_append_getElem hk,KCt]
theorem KKS (l r:List UInt8) (acc:Nat):dcv acc (l++r)=dcv (dcv acc l) r:=by unfold dcv; rw [List.foldl_append]
theorem KIv {h:Heap} {Q:Int→Heap→Prop} {neg:Bool} {u:Nat} (hu:u≤9223372036854775808) (hn:neg=false→u≤9223372036854775807) (H:Q (if neg=true then -(u:Int) else (u:Int)) h):(UB neg (u:Int)).wp h Q:=by
 unfold UB
 cases neg with
 | true =>
  refine iteT rfl (KC ?_)
  rw [show IntKind.wrap .i64 (IntKind.wrap .u64 (0 - (u:Int)))=-(u:Int) by rw [IntKind.wrap_i64,IntKind.wrap_u64]; omega]
  exact H
 | false =>
  have:=hn rfl
  refine iteF rfl (KC ?_)
  rw [w64 (by omega) (by omega)]
  exact H
theorem KBr {t:List UInt8} {h:Heap} {Q:Int × Int→Heap→Prop} (ht:t.length≤1099511627776) (H:Q (numP t) h):(Jk (bs t)).wp h Q:=by
 unfold Jk
 rw [Ko]
 have hj1:∀ (d:List UInt8),d=numD t→(Jf (negB t) (bs d)).wp h Q:=by
  intro d hd
  have hdl:d.length≤t.length:=by rw [hd]; unfold numD; split <;> simp
  unfold Jf
  rw [show (ByteArray.empty:ByteArray)=bs [] from rfl,KFI]
  refine or_b (c:=decide (d.head?=some 48∧t≠[48])) (fun hne Q' hq=>?_) ?_
  ·have hne:d≠[]:=of_decide_eq_false hne
   have hl:0 < d.length:=List.length_pos_iff.2 hne
   refine UX (i:=0) rfl hl ?_
   have h0:d.head?=some d[0]:=by rw [List.head?_eq_getElem?,List.getElem?_eq_getElem hl]
   refine Jt (c:=decide (t≠[48])) (fun h48 Q2 hq2=>?_) (KC ?_)
   ·rw [KG9,decide_eq_true_iff] at h48
    rw [Ko]
    refine or_b (c:=negB t) (fun _ Q3 hq3=>KC hq3) (KC ?_)
    have e:(decide ((d.length:Int) > 1) || negB t)=decide (t≠[48]):=by
     rw [Bool.eq_iff_iff,Bool.or_eq_true,decide_eq_true_iff,decide_eq_true_iff]
     unfold negB
     rw [decide_eq_true_iff]
     constructor
     ·rintro (h1 | h1) e
      ·subst e
       rw [hd] at h1
       exact absurd h1 (by decide)
      ·subst e; cases h1
     ·intro h1
      by_cases hn:t.head?=some 45
      ·exact .inr hn
      ·refine .inl ?_
       have:d=t:=by rw [hd]; unfold numD; rw [if_neg hn]
       have h3:¬ d.length=1:=by
        intro e1
        refine h1 ?_
        have hh:=h0.trans h48
        rw [← this]
        obtain ⟨c,hc⟩:=List.length_eq_one_iff.1 e1
        rw [hc] at hh ⊢
        exact congrArg (fun x=>[x]) (Option.some.inj hh)
       omega
    rw [e]
    exact hq2
   ·rw [KG9,← h0,← Bool.decide_and]
    exact hq
  ·rw [show (decide (d=[]) || decide (d.head?=some 48∧t≠[48]))=decide (d=[]∨(d.head?=some 48∧t≠[48])) by rw [Bool.decide_or]]
   rw [KEl,← hd] at H
   refine KX (fun hb=>KC ?_) (fun hb=>?_)
   ·have hb:=of_decide_eq_true hb
    by_cases h1:d=[]
    ·rw [if_pos h1] at H; exact H
    ·rw [if_neg h1] at H
     split at H
     ·exact H
     ·rw [if_pos (hb.resolve_left h1)] at H; exact H
   ·have hb:=of_decide_eq_false hb
    rw [if_neg (fun e=>hb (.inl e))] at H
    have hz:¬ (d.head?=some 48∧t≠[48]):=fun e=>hb (.inr e)
    rw [if_neg hz] at H
    refine M.loop_inv (fun (x:Int) hh=>∃ k:Nat,x=(k:Int)∧k≤d.length∧hh=h∧(d.take k).all digB=true) (fun x _=>((d.length:Int) - x).toNat) ?_ ⟨0,rfl,Nat.zero_le _,rfl,rfl⟩
    rintro x hh ⟨k,rfl,hk,rfl,hall⟩ self hself
    unfold VP
    rw [Ko]
    refine KX (fun hc=>?_) (fun hc=>?_)
    ·have hkl:k < d.length:=by have:=of_decide_eq_true hc; omega
     refine UX rfl hkl ?_
     refine or_b (c:=decide (((d[k]).toNat:Int) > 57)) (fun _ Q' hq=>UX rfl hkl (KC hq)) ?_
     rw [show (decide (((d[k]).toNat:Int) < 48) || decide (((d[k]).toNat:Int) > 57))=!digB d[k] by
      unfold digB
      rw [Bool.not_and,← decide_not,← decide_not]
      congr 1
      ·exact decide_eq_decide.2 (by omega)
      ·exact decide_eq_decide.2 (by omega)]
     refine KX (fun hn=>KC ?_) (fun hn=>?_)
     ·rw [if_pos] at H
      ·exact H
      ·cases ha:d.all digB with
       | false=>rfl
       | true =>
        rw [List.all_eq_true] at ha
        rw [ha _ (List.getElem_mem hkl)] at hn
        cases hn
     ·have hn:digB d[k]=true:=by simpa using hn
      rw [w64 (by omega) (by omega)]
      refine hself _ _ ⟨k+1,by omega,hkl,rfl,?_⟩ (by omega)
      rw [List.take_succ_eq_append_getElem hkl,List.all_append,hall,List.all_cons,hn]
      rfl
    ·have hkl:k=d.length:=by have:=of_decide_eq_false hc; omega
     subst hkl
     rw [List.take_length] at hall
     rw [if_neg (by rw [hall]; decide)] at H
     have hj2:∀ top:Nat,top=topN t→(Je (negB t) (bs d) (top:Int)).wp hh Q:=by
      intro top htop
      have htop2:top≤9223372036854775808:=by rw [htop]; unfold topN; split <;> omega
      have htop3:9223372036854775807≤top:=by rw [htop]; unfold topN; split <;> omega
      unfold Je
      refine M.loop_inv (fun (x:Int × Int) h2=>∃ k:Nat,x=(((dcv 0 (d.take k):Nat):Int),(k:Int))∧k≤d.length∧h2=hh∧dcv 0 (d.take k)≤top) (fun x _=>((d.length:Int) - x.2).toNat) ?_ ⟨0,rfl,Nat.zero_le _,rfl,Nat.zero_le _⟩
      rintro x h2 ⟨k,rfl,hk,rfl,hv⟩ self hself
      unfold VO
      dsimp only
      rw [Ko]
      refine KX (fun hc=>?_) (fun hc=>?_)
      ·have hkl:k < d.length:=by have:=of_decide_eq_true hc; omega
       refine UX rfl hkl ?_
       have hd9:=KHj (List.all_eq_true.1 hall _ (List.getElem_mem hkl))
       have e1:IntKind.wrap .u64 (IntKind.wrap .u8 (((d[k]).toNat:Int) - 48))=((d[k]).toNat:Int) - 48:=by rw [IntKind.wrap_u8,IntKind.wrap_u64]; omega
       rw [e1]
       have e2:IntKind.wrap .u64 (Int.tdiv (IntKind.wrap .u64 ((top:Int) - (((d[k]).toNat:Int) - 48))) 10)=(((top - ((d[k]).toNat - 48)) / 10:Nat):Int):=by
        rw [show IntKind.wrap .u64 ((top:Int) - (((d[k]).toNat:Int) - 48))=((top - ((d[k]).toNat - 48):Nat):Int) by rw [IntKind.wrap_u64]; omega]
        rw [show Int.tdiv ((top - ((d[k]).toNat - 48):Nat):Int) 10=(((top - ((d[k]).toNat - 48)) / 10:Nat):Int) from (Int.ofNat_tdiv _ 10).symm]
        rw [IntKind.wrap_u64]; omega
       rw [e2]
       have hnext:=KIu hkl
       refine KX (fun ho=>KC ?_) (fun ho=>?_)
       ·have ho:=of_decide_eq_true ho
        rw [if_neg] at H
        ·exact H
        ·have hge:dcv 0 (d.take (k+1))≤dcv 0 d:=by
          conv=>rhs; rw [← List.take_append_drop (k+1) d,KKS]
          exact KHS _ _
         rw [← htop]
         omega
       ·have ho:=of_decide_eq_false ho
        rw [show IntKind.wrap .u64 ((IntKind.wrap .u64 (((dcv 0 (d.take k):Nat):Int) * 10))+(((d[k]).toNat:Int) - 48))=((dcv 0 (d.take (k+1)):Nat):Int) by rw [IntKind.wrap_u64,IntKind.wrap_u64,hnext]; omega]
        rw [w64 (by omega) (by omega)]
        exact hself _ _ ⟨k+1,rfl,hkl,rfl,by rw [hnext]; omega⟩ (by dsimp only; omega)
      ·have hkl:k=d.length:=by have:=of_decide_eq_false hc; omega
       subst hkl
       rw [List.take_length] at hv ⊢
       rw [if_pos (htop ▸ hv)] at H
       refine KJ (KIv (by omega) (fun hneg=>?_) (KC ?_))
       ·have:topN t=9223372036854775807:=by unfold topN; rw [hneg]; rfl
        omega
       ·unfold sgnV at H
        rw [← hd] at H
        exact H
     refine KX (fun hneg=>?_) (fun hneg=>?_)
     ·have hneg:negB t=false:=by simpa using hneg
      have:=hj2 9223372036854775807 (by unfold topN; rw [hneg]; rfl)
      rw [show IntKind.wrap .u64 (9223372036854775808 - 1)=((9223372036854775807:Nat):Int) by decide]
      exact this
     ·have hneg:negB t=true:=by simpa using hneg
      exact hj2 9223372036854775808 (by unfold topN; rw [hneg]; rfl)
 have hN:∀ Q':Bool→Heap→Prop,Q' (negB t) h→(M.ite (decide ((t.length:Int) > 0)) (ixS (bs t) 0>>=fun x=>M.pure (x == 45)) (M.pure false):M Bool).wp h Q':=by
  intro Q' hq
  refine KX (fun hc=>?_) (fun hc=>KC ?_)
  ·have hl:0 < t.length:=by have:=of_decide_eq_true hc; omega
   refine UX (i:=0) rfl hl (KC ?_)
   rw [KG8]
   unfold negB at hq
   rw [List.head?_eq_getElem?,List.getElem?_eq_getElem hl] at hq
   exact hq
  ·have hl:t=[]:=List.length_eq_zero_iff.1 (by have:=of_decide_eq_false hc; omega)
   subst hl
   exact hq
 refine KJ (hN _ ?_)
 refine KX (fun hc=>?_) (fun hc=>?_)
 ·have hc':=hc
  unfold negB at hc'
  have hc':=of_decide_eq_true hc'
  have hl:0 < t.length:=by cases t with | nil=>cases hc' | cons c r=>simp
  refine KDj (a:=1) (b:=t.length) rfl rfl (by omega) (Nat.le_refl _) ?_
  refine hj1 _ ?_
  unfold numD
  rw [if_pos hc',← List.length_tail,← List.drop_one,List.take_length]
 ·refine hj1 _ ?_
  unfold numD
  unfold negB at hc
  rw [if_neg (of_decide_eq_false hc)]
end Gx
namespace Gx
open Go Go.Proofs Go.Shelf Go.RowKit Go.Lib
set_option linter.unusedVariables false
set_option linter.unusedSimpArgs false
set_option maxRecDepth 100000
structure Rgd (h:Heap) (b:Nat) (s:List UInt8) (i:Nat):Prop where
 blk:h[b]?=some (.cells #[.string (bs s),.int .i64 (i:Int),.int .i64 (-1)] ZL (0,0))
 le:i≤s.length
 small:s.length≤1099511627776
def Rx (h:Heap) (b:Nat) (s:List UInt8) (e:Nat):Prop:=∃ i:Nat,i≤s.length∧s.length≤1099511627776∧h[b]?=some (.cells #[.string (bs s),.int .i64 (i:Int),.int .i64 (e:Int)] ZL (0,0))
theorem Rgd.ext {h h':Heap} {b:Nat} {s:List UInt8} {i:Nat} (R:Rgd h b s i) (e:Ext h h'):Rgd h' b s i:=⟨e.blk R.blk,R.le,R.small⟩
theorem Rgd.lt {h:Heap} {b:Nat} {s:List UInt8} {i:Nat} (R:Rgd h b s i):b < h.size:=Vm R.blk
theorem Rgd.upd {h h':Heap} {b g:Nat} {s:List UInt8} {i:Nat} (R:Rgd h b s i) (u:Upd g h h') (hg:b≠g):Rgd h' b s i:=⟨(u.ne b hg).trans R.blk,R.le,R.small⟩
theorem Rx.ext {h h':Heap} {b:Nat} {s:List UInt8} {i:Nat} (R:Rx h b s i) (e:Ext h h'):Rx h' b s i:=let ⟨k,h1,h2,h3⟩:=R; ⟨k,h1,h2,e.blk h3⟩
theorem Rx.upd {h h':Heap} {b g:Nat} {s:List UInt8} {i:Nat} (R:Rx h b s i) (u:Upd g h h') (hg:b≠g):Rx h' b s i:=let ⟨k,h1,h2,h3⟩:=R; ⟨k,h1,h2,(u.ne b hg).trans h3⟩
theorem Rx.lt {h:Heap} {b:Nat} {s:List UInt8} {i:Nat} (R:Rx h b s i):b < h.size:=let ⟨k,h1,h2,h3⟩:=R; Vm h3
section
variable {β:Type} {h:Heap} {Q:β→Heap→Prop} {b i e:Nat} {s:List UInt8}
theorem KGC {f:ByteArray→M β} (R:Rgd h b s i) (H:(f (bs s)).wp h Q):(ldS ((⟨b,0,none⟩:Addr).add 0)>>=f).wp h Q:=Vp (by rw [Kp,KU R.blk]; rfl) H
theorem KA7 {f:Int→M β} (R:Rgd h b s i) (H:(f (i:Int)).wp h Q):(ldI .i64 ((⟨b,0,none⟩:Addr).add 1)>>=f).wp h Q:=Zl (by rw [Kp,KU R.blk]; rfl) H
theorem KGD {f:Int→M β} (R:Rgd h b s i) (H:(f (-1)).wp h Q):(ldI .i64 ((⟨b,0,none⟩:Addr).add 2)>>=f).wp h Q:=Zl (by rw [Kp,KU R.blk]; rfl) H
theorem KEm {f:Int→M β} (R:Rx h b s e) (H:(f (e:Int)).wp h Q):(ldI .i64 ((⟨b,0,none⟩:Addr).add 2)>>=f).wp h Q:=let ⟨_,_,_,g⟩:=R; Zl (by rw [Kp,KU g]; rfl) H
theorem KLy {f:Int→M β} (R:Rx h b s e) (H:∀ i:Nat,i≤s.length→(f (i:Int)).wp h Q):(ldI .i64 ((⟨b,0,none⟩:Addr).add 1)>>=f).wp h Q:=let ⟨i,hi,_,g⟩:=R; Zl (n:=(i:Int)) (by rw [Kp,KU g]; rfl) (H i hi)
theorem KMh {f:Unit→M β} (R:Rgd h b s i) (hi:i < s.length) (H:∀ h',Upd b h h'→Rgd h' b s (i+1)→(f ()).wp h' Q):(stV ((⟨b,0,none⟩:Addr).add 1) (.int .i64 (IntKind.wrap .i64 ((i:Int)+1)))>>=f).wp h Q:=by
 have hsm:=R.small
 rw [w64 (by omega) (by omega)]
 refine qC (x:=.int .i64 (i:Int)) (by rw [Kp,KU R.blk]; rfl) (by rw [Kp]; exact ZX R.blk) rfl ?_
 rw [Kp]
 exact H _ (Upd.hset _ _ _ _) ⟨VJ R.blk,hi,hsm⟩
theorem YP {f:Unit→M β} (R:Rgd h b s i) (hi:i < s.length) (H:∀ h',Upd b h h'→Rgd h' b s (i+1)→(f ()).wp h' Q) :
  (nilP (some ⟨b,0,none⟩)>>=fun x=>ldI .i64 (x.add 1)>>=fun y=>nilP (some ⟨b,0,none⟩)>>=fun z=>stV (z.add 1) (.int .i64 (IntKind.wrap .i64 (y+1)))>>=f).wp h Q :=
 Kx (KA7 R (Kx (KMh R hi H)))
end
section
variable {h:Heap} {b i e:Nat} {s:List UInt8}
theorem KKT {Q:Unit→Heap→Prop} (R:Rgd h b s i) (he:e≤s.length) (H:∀ h',Upd b h h'→Rx h' b s e→Q () h'):(KR (some ⟨b,0,none⟩) (e:Int)).wp h Q:=by
 unfold KR
 refine Kx (KGD R (iteT rfl (Kx ?_)))
 refine qC (x:=.int .i64 (-1)) (by rw [Kp,KU R.blk]; rfl) (by rw [Kp]; exact ZX R.blk) rfl ?_
 rw [Kp]
 exact KC (H _ (Upd.hset _ _ _ _) ⟨i,R.le,R.small,VJ R.blk⟩)
theorem KKU {Q:Unit→Heap→Prop} {x:Int} (R:Rx h b s e) (H:Q () h):(KR (some ⟨b,0,none⟩) x).wp h Q:=by
 unfold KR
 refine Kx (KEm R (iteF (decide_eq_false (by omega)) (KC H)))
theorem VY {β:Type} {Q:β→Heap→Prop} {f:Unit→M β} (R:Rgd h b s i) (H:∀ h',Upd b h h'→Rx h' b s i→(f ()).wp h' Q):(nilP (some ⟨b,0,none⟩)>>=fun x=>ldI .i64 (x.add 1)>>=fun y=>KR (some ⟨b,0,none⟩) y>>=f).wp h Q :=
 Kx (KA7 R (KJ (KKT R R.le H)))
theorem KA8 {β:Type} {Q:β→Heap→Prop} {f:Unit→M β} (R:Rx h b s e) (H:(f ()).wp h Q):(nilP (some ⟨b,0,none⟩)>>=fun x=>ldI .i64 (x.add 1)>>=fun y=>KR (some ⟨b,0,none⟩) y>>=f).wp h Q :=
 Kx (KLy R (fun _ _=>KJ (KKU R H)))
theorem WT {Q:Int→Heap→Prop} (R:Rgd h b s i) (H:Q ((KI s i).toNat:Int) h):(KS (some ⟨b,0,none⟩)).wp h Q:=by
 unfold KS
 refine Kx (KGD R (iteF rfl (Kx (Kx (KA7 R (KGC R ?_))))))
 rw [Ko]
 unfold Zf
 refine KX (fun hc=>KC ?_) (fun hc=>?_)
 ·have hi:¬ i < s.length:=by have:=of_decide_eq_true hc; omega
  unfold KI at H
  rw [List.getElem?_eq_none (by omega)] at H
  exact H
 ·have hi:i < s.length:=by have:=of_decide_eq_false hc; omega
  refine Kx (Kx (KGC R (KA7 R (UX rfl hi (KC ?_)))))
  rw [← Jw hi]
  exact H
theorem KA9 {Q:Int→Heap→Prop} (R:Rx h b s e) (H:Q 0 h):(KS (some ⟨b,0,none⟩)).wp h Q:=by
 unfold KS
 refine Kx (KEm R (iteT (decide_eq_true (by omega)) ?_))
 unfold Zf
 exact iteT rfl (KC H)
theorem YQ {c:UInt8} {Q:Bool→Heap→Prop} (H:Q (digB c) h):(Zd (c.toNat:Int)).wp h Q:=by
 unfold Zd
 refine Jt (c:=decide ((c.toNat:Int)≤57)) (fun _ Q' hq=>KC hq) (KC ?_)
 rw [show (decide ((c.toNat:Int) ≥ 48) && decide ((c.toNat:Int)≤57))=digB c by
  unfold digB
  congr 1
  ·exact decide_eq_decide.2 (by omega)
  ·exact decide_eq_decide.2 (by omega)]
 exact H
theorem KKV {Q:Bool→Heap→Prop} (H:Q false h):(Zd 0).wp h Q:=YQ (c:=0) H
theorem GM {Q:Unit→Heap→Prop} {lit:List UInt8} (R:Rgd h b s i) (hl:lit.length≤1000)
  (H1:∀ j h',Vs s lit i=.ok j→Kb b h h'→Rgd h' b s j→Q () h') (H2:∀ e h',Vs s lit i=.error e→Kb b h h'→Rx h' b s e→Q () h'):(KO (some ⟨b,0,none⟩) (bs lit)).wp h Q:=by
 unfold KO
 refine M.loop_inv (fun (x:Int) hh=>∃ k i':Nat,x=(k:Int)∧k≤lit.length∧Kb b h hh∧Rgd hh b s i'∧Vs s (lit.drop k) i'=Vs s lit i) (fun x _=>((lit.length:Int) - x).toNat) ?_ ⟨0,i,rfl,Nat.zero_le _,Km.refl _ _,R,rfl⟩
 rintro x hh ⟨k,i',rfl,hk,K,R',hm⟩ self hself
 unfold JE
 rw [Ko]
 refine KX (fun hc=>?_) (fun hc=>?_)
 ·have hkl:k < lit.length:=by have:=of_decide_eq_true hc; omega
  rw [List.drop_eq_getElem_cons hkl,Vs] at hm
  have hfail:s[i']?≠some lit[k]→(K9 self (some ⟨b,0,none⟩) (k:Int) true).wp hh Q:=fun hne=>by
   unfold K9
   rw [if_neg hne] at hm
   exact iteT rfl (VY R' (fun h2 u X=>KC (H2 _ _ hm.symm (K.trans (Km.upd u rfl)) X)))
  refine UX rfl hkl (KJ (WT R' ?_))
  refine KX (fun hne=>?_) (fun heq=>?_)
  ·refine hfail (fun h1=>?_)
   have hil:=(List.getElem?_eq_some_iff.1 h1).1
   rw [List.getElem?_eq_getElem hil] at h1
   rw [Jw hil,Option.some.inj h1] at hne
   simp at hne
  ·have heq:KI s i'=lit[k]:=by
    refine UInt8.toNat_inj.1 ?_
    have:¬ (((KI s i').toNat:Int)≠((lit[k]).toNat:Int)):=fun hne=>by rw [bne_iff_ne.2 hne] at heq; cases heq
    omega
   refine Kx (Kx (KA7 R' (KGC R' ?_)))
   rw [Ko]
   by_cases hil:i' < s.length
   ·rw [decide_eq_false (show ¬ ((i':Int) ≥ (s.length:Int)) by omega)]
    unfold K9
    refine iteF rfl (YP R' hil (fun h2 u R2=>?_))
    rw [w64 (by omega) (by omega)]
    rw [if_pos (by rw [List.getElem?_eq_getElem hil,← heq,Jw hil])] at hm
    exact hself _ _ ⟨k+1,i'+1,by omega,by omega,K.trans (Km.upd u rfl),R2,hm⟩ (by omega)
   ·rw [decide_eq_true (show ((i':Int) ≥ (s.length:Int)) by omega)]
    refine hfail ?_
    rw [List.getElem?_eq_none (by omega)]
    intro h; cases h
 ·have hkl:k=lit.length:=by have:=of_decide_eq_false hc; omega
  subst hkl
  rw [List.drop_length,Vs] at hm
  exact KC (H1 _ _ hm.symm K R')
theorem KCz {Q:Unit→Heap→Prop} {c:UInt8} {r:List UInt8} (R:Rx h b s e) (hc:c≠0) (H:Q () h):(KO (some ⟨b,0,none⟩) (bs (c::r))).wp h Q:=by
 unfold KO
 refine M.loop_inv (fun (x:Int) hh=>x=0∧hh=h) (fun x _=>0) ?_ ⟨rfl,rfl⟩
 rintro x hh ⟨rfl,rfl⟩ self hself
 unfold JE
 rw [Ko]
 refine iteT (decide_eq_true (by simp)) (UX (i:=0) rfl (by simp) (KJ (KA9 R ?_)))
 have hc0:c.toNat≠0:=fun e=>hc (UInt8.toNat_inj.1 (by rw [e]; rfl))
 refine iteT (by rw [bne_iff_ne]; show (0:Int)≠(c.toNat:Int); omega) ?_
 unfold K9
 exact iteT rfl (KA8 R (KC H))
theorem KHk {t:List UInt8} (h1:numD t≠[]) (h2:(numD t).all digB=true) (h3:(numD t).head?≠some 48):(numP t).2=0∨(numP t).2=7:=by
 rw [KEl,if_neg h1,if_neg (by rw [h2]; decide),if_neg (fun hh=>h3 hh.1)]
 split
 ·exact .inl rfl
 ·exact .inr rfl
theorem KHl (h48:KI s i=48):numF s i=.ok (0,i+1):=by
 have hi:i < s.length:=Z5 (by rw [h48]; decide)
 have hJ:numJ s i=i:=by unfold numJ; rw [if_neg (by rw [h48]; decide)]
 unfold numF
 rw [hJ,if_neg (by rw [h48]; rintro (h | h); exact absurd h (by decide); omega)]
 rw [show s.length - i=(s.length - (i+1))+1 by omega,numL,if_pos (by rw [h48]; decide)]
 have h1:(s.drop i).take (i+1 - i)=[48]:=by
  rw [show i+1 - i=1 by omega,List.drop_eq_getElem_cons hi,← Jw hi,h48]; rfl
 rw [h1,show numP [48]=(0,0) by decide +kernel,if_neg (by decide),if_neg (by decide)]
 cases hf:s.length - (i+1) with
 | zero=>rfl
 | succ f =>
  rw [numL]
  split
  ·rename_i hd
   have hi2:=KAx hd
   have h2:(s.drop i).take (i+1+1 - i)=[48,KI s (i+1)]:=by
    rw [show i+1+1 - i=2 by omega,List.drop_eq_getElem_cons hi,List.drop_eq_getElem_cons hi2,← Jw hi,← Jw hi2,h48]; rfl
   have h3:numP [48,KI s (i+1)]=(0,10):=by
    have hD:numD [48,KI s (i+1)]=[48,KI s (i+1)]:=rfl
    rw [KEl,hD,if_neg (by simp),if_neg,if_pos ⟨rfl,by simp⟩]
    show ¬ ([48,KI s (i+1)].all digB=false)
    rw [List.all_cons,List.all_cons,hd]
    decide
   rw [h2,h3,if_neg (by decide),if_pos (by decide)]
  ·rfl
theorem KIw {j k:Nat} (hjk:j≤k) (hk:k < s.length):(s.drop j).take (k+1 - j)=(s.drop j).take (k - j)++[s[k]]:=by
 rw [show k+1 - j=(k - j)+1 by omega,List.take_succ_eq_append_getElem (by rw [List.length_drop]; omega),List.getElem_drop]
 simp only [show j+(k - j)=k by omega]
theorem KIx {k:Nat} (hJ:numJ s i < k) (hk:k≤s.length):numD ((s.drop i).take (k - i))=(s.drop (numJ s i)).take (k - numJ s i):=by
 have hij:i≤numJ s i:=by unfold numJ; split <;> omega
 unfold numJ at hJ ⊢
 by_cases h45:KI s i=45
 ·rw [if_pos h45] at hJ ⊢
  have hi:i < s.length:=Z5 (by rw [h45]; decide)
  rw [List.drop_eq_getElem_cons hi,show k - i=(k - (i+1))+1 by omega,List.take_succ_cons,← Jw hi,h45]
  rfl
 ·rw [if_neg h45] at hJ ⊢
  have hi:i < s.length:=by omega
  unfold numD
  rw [if_neg]
  rw [List.drop_eq_getElem_cons hi,show k - i=(k - i - 1)+1 by omega,List.take_succ_cons,List.head?_cons,← Jw hi]
  intro e
  exact h45 (Option.some.inj e)
theorem KD5 {Q:Int→Heap→Prop} (R:Rgd h b s i)
  (H1:∀ n j h',numF s i=.ok (n,j)→Kb b h h'→Rgd h' b s j→Q n h') (H2:∀ e h',numF s i=.error e→Kb b h h'→Rx h' b s e→Q 0 h'):(Kz (some ⟨b,0,none⟩) true).wp h Q:=by
 unfold Kz
 have hsm:=R.small
 have key:∀ h1,Kb b h h1→Rgd h1 b s (numJ s i)→(ZE (some ⟨b,0,none⟩) (i:Int)).wp h1 Q:=by
  intro h1 K1 R1
  unfold ZE
  have hij:i≤numJ s i:=by unfold numJ; split <;> omega
  refine KJ (WT R1 (KJ (YQ ?_)))
  refine KX (fun hd=>?_) (fun hd=>?_)
  ·have hd:digB (KI s (numJ s i))=false:=by simpa using hd
   exact VY R1 (fun h2 u X=>KC (H2 _ _ (by unfold numF; rw [if_pos (.inl hd)]) (K1.trans (Km.upd u rfl)) X))
  have hd:digB (KI s (numJ s i))=true:=by simpa using hd
  have hjl:=KAx hd
  refine KJ (WT R1 ?_)
  rw [KG9]
  refine KX (fun h48=>?_) (fun h48=>?_)
  ·have h48:KI s (numJ s i)=48:=Option.some.inj (of_decide_eq_true h48)
   refine Kx (KA7 R1 ?_)
   refine KX (fun hs=>?_) (fun hs=>?_)
   ·have hs:i < numJ s i:=by have:=of_decide_eq_true hs; omega
    exact VY R1 (fun h2 u X=>KC (H2 _ _ (by unfold numF; rw [if_pos (.inr ⟨hs,h48⟩)]) (K1.trans (Km.upd u rfl)) X))
   ·have hs:numJ s i=i:=by have:=of_decide_eq_false hs; omega
    rw [hs] at h48 R1 hjl
    exact YP R1 hjl (fun h2 u R2=>KC (H1 _ _ _ (KHl h48) (K1.trans (Km.upd u rfl)) R2))
  ·have h48:KI s (numJ s i)≠48:=fun e=>(of_decide_eq_false h48) (congrArg some e)
   have hF:numF s i=numL s i (s.length - numJ s i) (numJ s i) 0:=by
    unfold numF
    rw [if_neg]
    rintro (h | h)
    ·rw [hd] at h; cases h
    ·exact h48 h.2
   rw [hF] at H1 H2
   refine M.loop_inv (fun (_:Unit) hh=>∃ (i':Nat) (x:Int),numJ s i≤i'∧Kb b h hh∧Rgd hh b s i'∧((s.drop (numJ s i)).take (i' - numJ s i)).all digB=true∧(numJ s i < i'→x=(numP ((s.drop i).take (i' - i))).1)∧numL s i (s.length - i') i' x=numL s i (s.length - numJ s i) (numJ s i) 0)
    (fun _ hh=>match hh[b]? with | some (.cells #[_,.int _ z,_] _ _)=>s.length - z.toNat | _=>0) ?_ ⟨numJ s i,0,Nat.le_refl _,K1,R1,by rw [Nat.sub_self]; rfl,fun h=>absurd h (Nat.lt_irrefl _),rfl⟩
   rintro _ hh ⟨i',x,hfi,K,R',hall,hx,hm⟩ self hself
   unfold Ji
   have hle:=R'.le
   refine KJ (WT R' (KJ (YQ ?_)))
   refine KX (fun hd'=>?_) (fun hd'=>?_)
   ·have hil:=KAx hd'
    rw [show s.length - i'=(s.length - (i'+1))+1 by omega,numL,if_pos hd'] at hm
    have hall':((s.drop (numJ s i)).take (i'+1 - numJ s i)).all digB=true:=by
     rw [KIw hfi hil,List.all_append,hall,List.all_cons,← Jw hil,hd']; rfl
    have hD:=KIx (s:=s) (i:=i) (k:=i'+1) (by omega) (by omega)
    have hne:(s.drop (numJ s i)).take (i'+1 - numJ s i)≠[]:=by
     intro e
     have:=congrArg List.length e
     rw [List.length_take,List.length_drop,List.length_nil] at this
     omega
    have hhead:((s.drop (numJ s i)).take (i'+1 - numJ s i)).head?≠some 48:=by
     rw [List.drop_eq_getElem_cons hjl,show i'+1 - numJ s i=(i' - numJ s i)+1 by omega,List.take_succ_cons,List.head?_cons,← Jw hjl]
     intro e
     exact h48 (Option.some.inj e)
    have h07:=KHk (t:=(s.drop i).take (i'+1 - i)) (by rw [hD]; exact hne) (by rw [hD]; exact hall') (by rw [hD]; exact hhead)
    refine Kx (Kx (KGC R' (KA7 R' ?_)))
    rw [w64 (by omega) (by omega)]
    refine KDj (a:=i) (b:=i'+1) rfl (by omega) (by omega) (by omega) (KJ (KBr (by rw [List.length_take,List.length_drop]; omega) ?_))
    refine KX (fun h0=>?_) (fun h0=>?_)
    ·rw [bne_iff_ne] at h0
     rw [if_pos (h07.resolve_left h0)] at hm
     exact VY R' (fun h2 u X=>KC (H2 _ _ hm.symm (K.trans (Km.upd u rfl)) X))
    ·have h0:(numP ((s.drop i).take (i'+1 - i))).2=0:=by
      refine Classical.not_not.1 (fun hne=>?_)
      rw [bne_iff_ne.2 hne] at h0
      cases h0
     rw [if_neg (by rw [h0]; decide),if_neg (by rw [h0]; decide)] at hm
     refine YP R' hil (fun h3 u3 R3=>?_)
     refine hself _ _ ⟨i'+1,_,by omega,K.trans (Km.upd u3 rfl),R3,hall',fun _=>rfl,hm⟩ ?_
     rw [R3.blk,R'.blk]
     show s.length - ((i'+1:Nat):Int).toNat < s.length - ((i':Nat):Int).toNat
     omega
   ·have hi':numJ s i < i':=by
     rcases Nat.lt_or_ge (numJ s i) i' with h | h
     ·exact h
     ·have:i'=numJ s i:=by omega
      subst this
      rw [hd] at hd'
      cases hd'
    have:numL s i (s.length - i') i' x=.ok (x,i'):=by
     cases hf:s.length - i' with
     | zero=>rfl
     | succ f=>rw [numL,if_neg (by rw [hd']; decide)]
    rw [this] at hm
    refine Kx (Kx (KGC R' (KA7 R' ?_)))
    refine KDj (a:=i) (b:=i') rfl rfl (by omega) (by omega) (KJ (KBr (by rw [List.length_take,List.length_drop]; omega) (KC ?_)))
    rw [← hx hi']
    exact H1 _ _ _ hm.symm K R'
 refine Kx (KA7 R ?_)
 refine Jt (c:=decide (KI s i=45)) (fun _ Q' hq=>KJ (WT R (KC ?_))) ?_
 ·rw [KG8,decide_eq_decide.2 (show some (KI s i)=some 45↔KI s i=45 from ⟨Option.some.inj,congrArg _⟩)]
  exact hq
 refine KX (fun hc=>?_) (fun hc=>?_)
 ·have h45:KI s i=45:=by simpa using hc
  refine YP R (Z5 (by rw [h45]; decide)) (fun h1 u1 R1=>key _ (Km.upd u1 rfl) ?_)
  unfold numJ
  rw [if_pos h45]
  exact R1
 ·have h45:¬ KI s i=45:=by simpa using hc
  refine key _ (Km.refl _ _) ?_
  unfold numJ
  rw [if_neg h45]
  exact R
theorem KHm {Q:Int→Heap→Prop} (R:Rx h b s e) (H:Q 0 h):(Kz (some ⟨b,0,none⟩) true).wp h Q:=by
 unfold Kz
 refine Kx (KLy R (fun i hi=>?_))
 refine Jt (c:=false) (fun _ Q' hq=>KJ (KA9 R (KC hq))) (iteF rfl ?_)
 unfold ZE
 exact KJ (KA9 R (KJ (KKV (iteT rfl (KA8 R (KC H))))))
def hexV (c:UInt8):Int:=if digB c=true then (c.toNat:Int) - 48 else if 97≤c.toNat∧c.toNat≤102 then (c.toNat:Int) - 87 else -1
theorem KIy:∀ n:Fin 256,hexV (UInt8.ofNat n.val)=hexN (UInt8.ofNat n.val):=by decide +kernel
theorem KKW (c:UInt8):hexV c=hexN c:=by
 have:=KIy ⟨c.toNat,c.toNat_lt⟩
 simpa only [UInt8.ofNat_toNat] using this
theorem KBA {c:UInt8} {Q:Int→Heap→Prop} (H:Q (hexN c) h):(Jp (c.toNat:Int)).wp h Q:=by
 rw [← KKW] at H
 unfold hexV at H
 unfold Jp
 refine KJ (YQ ?_)
 refine KX (fun hd=>KC ?_) (fun hd=>?_)
 ·rw [if_pos hd] at H
  have:=KHj hd
  rw [show IntKind.wrap .i64 (IntKind.wrap .u8 ((c.toNat:Int) - 48))=(c.toNat:Int) - 48 by rw [IntKind.wrap_u8,IntKind.wrap_i64]; omega]
  exact H
 ·rw [if_neg (by rw [hd]; decide)] at H
  refine Jt (c:=decide ((c.toNat:Int)≤102)) (fun _ Q' hq=>KC hq) ?_
  refine KX (fun hc=>KC ?_) (fun hc=>KC ?_)
  ·rw [Bool.and_eq_true,decide_eq_true_iff,decide_eq_true_iff] at hc
   rw [if_pos (by omega)] at H
   rw [show IntKind.wrap .i64 ((IntKind.wrap .i64 (IntKind.wrap .u8 ((c.toNat:Int) - 97)))+10)=(c.toNat:Int) - 87 by rw [IntKind.wrap_u8,IntKind.wrap_i64,IntKind.wrap_i64]; omega]
   exact H
  ·rw [Bool.and_eq_false_iff,decide_eq_false_iff_not,decide_eq_false_iff_not] at hc
   rw [if_neg (by omega)] at H
   exact H
theorem KMi {Q:Int→Heap→Prop} (H:Q (-1) h):(Jp 0).wp h Q:=by
 refine KBA (c:=0) ?_
 rw [KBn]
 exact H
theorem KMj {x y:Int} (hx:0≤x) (hx2:x≤15) (hy:0≤y) (hy2:y≤15):IntKind.wrap .u8 (IntKind.wrap .i64 ((IntKind.wrap .i64 (16 * x))+y))=((UInt8.ofNat ((x * 16+y).toNat)).toNat:Int):=by
 rw [IntKind.wrap_u8,IntKind.wrap_i64,IntKind.wrap_i64,UInt8.toNat_ofNat']
 omega
theorem KLz {Q:Int→Heap→Prop} (R:Rgd h b s i)
  (H1:∀ (c:UInt8) j h',escP s i=.ok (c,j)→Kb b h h'→Rgd h' b s j→Q (c.toNat:Int) h') (H2:∀ e h',escP s i=.error e→Kb b h h'→Rx h' b s e→Q 0 h'):(Zg (some ⟨b,0,none⟩)).wp h Q:=by
 unfold Zg
 refine KJ (WT R ?_)
 rw [u8_c (d:=39) (n:=39) rfl,u8_c (d:=92) (n:=92) rfl]
 refine or_b (c:=decide (KI s i=92)) (fun _ Q' hq=>KC hq) ?_
 refine KX (fun hc=>?_) (fun hc=>?_)
 ·rw [Bool.or_eq_true,decide_eq_true_iff,decide_eq_true_iff] at hc
  have hi:i < s.length:=Z5 (by rcases hc with h | h <;> (rw [h]; decide))
  refine YP R hi (fun h1 u1 R1=>KC (H1 _ _ _ ?_ (Km.upd u1 rfl) R1))
  unfold escP
  rw [if_pos hc]
 ·have hc':¬ (KI s i=39∨KI s i=92):=by
   intro hh
   rw [← decide_eq_true_iff (p:=KI s i=39),← decide_eq_true_iff (p:=KI s i=92),← Bool.or_eq_true,hc] at hh
   cases hh
  refine KJ (GM (lit:=[120]) R (by decide) (fun j h1 hj K1 R1=>?_) (fun e h1 hj K1 X1=>?_))
  ·have hE:escP s i=if hexN (KI s j) < 0∨(1 < hexN (KI s j)∧hexN (KI s j) < 7) then .error j
     else if hexN (KI s (j+1)) < 0∨(hexN (KI s j)=7∧hexN (KI s (j+1)) < 15) then .error (j+1)
     else .ok (UInt8.ofNat ((hexN (KI s j) * 16+hexN (KI s (j+1))).toNat),j+2):=by
    unfold escP
    rw [if_neg hc',hj]
   have hle15:=N1 (KI s j)
   have hle15':=N1 (KI s (j+1))
   refine KJ (WT R1 (KJ (KBA ?_)))
   refine or_b (c:=decide (hexN (KI s j) ≥ 2) && decide (hexN (KI s j) < 7)) (fun _ Q' hq=>Jt (c:=decide (hexN (KI s j) < 7)) (fun _ Q2 hq2=>KC hq2) (KC hq)) ?_
   rw [show (decide (hexN (KI s j) < 0) || (decide (hexN (KI s j) ≥ 2) && decide (hexN (KI s j) < 7)))=decide (hexN (KI s j) < 0∨(1 < hexN (KI s j)∧hexN (KI s j) < 7)) by
    rw [Bool.decide_or,Bool.decide_and]
    congr 2]
   refine KX (fun hb=>?_) (fun hb=>?_)
   ·rw [if_pos (of_decide_eq_true hb)] at hE
    exact VY R1 (fun h2 u X=>KC (H2 _ _ hE (K1.trans (Km.upd u rfl)) X))
   ·have hb:=of_decide_eq_false hb
    rw [if_neg hb] at hE
    have hjl:j < s.length:=KDl (by omega)
    refine YP R1 hjl (fun h2 u2 R2=>?_)
    have K2:Kb b h h2:=K1.trans (Km.upd u2 rfl)
    refine KJ (WT R2 (KJ (KBA ?_)))
    refine or_b (c:=decide (hexN (KI s j)=7) && decide (hexN (KI s (j+1))≠15)) (fun _ Q' hq=>?_) ?_
    ·rw [eqI]
     refine Jt (c:=decide (hexN (KI s (j+1))≠15)) (fun _ Q2 hq2=>KC ?_) (KC hq)
     rw [show (hexN (KI s (j+1)) != 15)=decide (hexN (KI s (j+1))≠15) by rw [bne,eqI,decide_not]]
     exact hq2
    rw [show (decide (hexN (KI s (j+1)) < 0) || (decide (hexN (KI s j)=7) && decide (hexN (KI s (j+1))≠15)))=decide (hexN (KI s (j+1)) < 0∨(hexN (KI s j)=7∧hexN (KI s (j+1)) < 15)) by
     rw [Bool.decide_or,Bool.decide_and]
     congr 2
     exact decide_eq_decide.2 (by omega)]
    refine KX (fun hb2=>?_) (fun hb2=>?_)
    ·rw [if_pos (of_decide_eq_true hb2)] at hE
     exact VY R2 (fun h3 u X=>KC (H2 _ _ hE (K2.trans (Km.upd u rfl)) X))
    ·have hb2:=of_decide_eq_false hb2
     rw [if_neg hb2] at hE
     have hjl2:j+1 < s.length:=KDl (by omega)
     refine YP R2 hjl2 (fun h3 u3 R3=>KC ?_)
     rw [KMj (by omega) hle15 (by omega) hle15']
     exact H1 _ _ _ hE (K2.trans (Km.upd u3 rfl)) R3
  ·have hE:escP s i=.error e:=by unfold escP; rw [if_neg hc',hj]
   refine KJ (KA9 X1 (KJ (KMi ?_)))
   refine or_b (c:=false) (fun h=>absurd h (by decide)) (iteT rfl ?_)
   exact KA8 X1 (KC (H2 _ _ hE K1 X1))
end
end Gx
namespace Gx
open Go
set_option linter.unusedVariables false
set_option linter.unusedSimpArgs false
end Gx
namespace Gx
open Go Go.Proofs Go.Shelf Go.RowKit Go.Lib
set_option linter.unusedVariables false
set_option linter.unusedSimpArgs false
set_option maxRecDepth 100000
theorem KL0 {h:Heap} {Q:ByteArray→Heap→Prop} {b i:Nat} {s:List UInt8} (R:Rgd h b s i)
  (H1:∀ t j h',strP s i=.ok (t,j)→Kb b h h'→Rgd h' b s j→Q (bs t) h') (H2:∀ e h',strP s i=.error e→Kb b h h'→Rx h' b s e→Q (bs []) h'):(JG (some ⟨b,0,none⟩)).wp h Q:=by
 unfold JG
 have hbl:=R.lt
 have main:∀ (h1:Heap),Kb b h h1→((∃ j,Vs s [39] i=.ok j∧Rgd h1 b s j)∨∃ e,strP s i=.error e∧Rx h1 b s e)→(M.loop (JS (some ⟨b,0,none⟩)) Sl.nil).wp h1 Q:=by
  intro h1 K1 hst
  have hb1:b < h1.size:=Nat.lt_of_lt_of_le hbl K1.size
  refine M.loop_inv (fun (x:Sl) hh=>(∃ (acc:List UInt8) (f i':Nat),s.length < f+i'∧acc.length≤i'∧Kb b h1 hh∧Rgd hh b s i'∧Gw h1.size hh x 1 (acc.map bv)∧strL s f i' acc=strP s i)∨∃ e,strP s i=.error e∧Kb b h1 hh∧Rx hh b s e)
   (fun x hh=>match hh[b]? with | some (.cells #[_,_,.int _ z] _ _)=>if z < 0 then s.length+2 - x.len else 0 | _=>0) ?_ ?_
  ·rintro x hh hst self hself
   unfold JS
   rcases hst with ⟨acc,f,i',hf,hai,K,R',G,hm⟩ | ⟨e,he,K,X⟩
   ·have hsm:=R'.small
    have hle:=R'.le
    have hxl:=G.len
    rw [List.length_map,Nat.mul_one] at hxl
    have hmu:(match hh[b]? with | some (.cells #[_,_,.int _ z] _ _)=>if z < 0 then s.length+2 - x.len else 0 | _=>0)=s.length+2 - x.len:=by rw [R'.blk]; rfl
    rw [hmu] at hself
    have bad:∀ (e:Nat) (h2:Heap) (x2:Sl),strP s i=.error e→Kb b h1 h2→Rx h2 b s e→(self x2).wp h2 Q:=by
     intro e h2 x2 he K2 X2
     refine hself _ _ (.inr ⟨e,he,K2,X2⟩) ?_
     obtain ⟨k,_,_,g⟩:=X2
     rw [g]
     show (if ((e:Nat):Int) < 0 then s.length+2 - x2.len else 0) < _
     rw [if_neg (by omega)]
     omega
    obtain ⟨f,rfl⟩:∃ g,f=g+1:=⟨f - 1,by omega⟩
    rw [strL] at hm
    refine Kx (KGD R' (iteT rfl (KJ (WT R' ?_))))
    refine Kx (Kx (KA7 R' (KGC R' ?_)))
    rw [Ko]
    have hfail:¬ KI s i'=39→((KI s i').toNat < 32∨126 < (KI s i').toNat)→(ZC self (some ⟨b,0,none⟩) x ((KI s i').toNat:Int) true).wp hh Q:=by
     intro h39 hbad
     rw [if_neg h39,if_pos hbad] at hm
     unfold ZC
     exact iteT rfl (VY R' (fun h2 u X=>bad _ _ _ hm.symm (K.trans (Km.upd u rfl)) X))
    refine KX (fun hge=>?_) (fun hlt=>?_)
    ·have h0:KI s i'=0:=by unfold KI; rw [List.getElem?_eq_none (by have:=of_decide_eq_true hge; omega)]; rfl
     exact hfail (by rw [h0]; decide) (.inl (by rw [h0]; decide))
    have hil:i' < s.length:=by have:=of_decide_eq_false hlt; omega
    refine KX (fun h32=>?_) (fun h32=>?_)
    ·have h32:=of_decide_eq_true h32
     exact hfail (fun e=>by rw [e] at h32; exact absurd h32 (by decide)) (.inl (by omega))
    have h32:=of_decide_eq_false h32
    by_cases h126:126 < (KI s i').toNat
    ·rw [decide_eq_true (show ((KI s i').toNat:Int) > 126 by omega)]
     exact hfail (fun e=>by rw [e] at h126; exact absurd h126 (by decide)) (.inr h126)
    rw [decide_eq_false (show ¬ ((KI s i').toNat:Int) > 126 by omega)]
    unfold ZC
    refine iteF rfl ?_
    rw [u8_c (d:=39) (n:=39) rfl,u8_c (d:=92) (n:=92) rfl]
    refine KX (fun h39=>?_) (fun h39=>?_)
    ·have h39:=of_decide_eq_true h39
     rw [if_pos h39] at hm
     refine YP R' hil (fun h2 u2 R2=>?_)
     have G2:Gw h1.size h2 x 1 (acc.map bv):=G.same (fun k hk=>u2.ne k (fun e=>by have:=(G.lt hk).2; omega))
     refine KLJ (ns:=acc) hxl G2.reads (KC ?_)
     exact H1 _ _ _ hm.symm (K1.trans (K.trans (Km.upd u2 rfl))) R2
    have h39:=of_decide_eq_false h39
    rw [if_neg h39,if_neg (by omega)] at hm
    have next:∀ (c:UInt8) (i2:Nat) (h3:Heap),i' < i2→Kb b h1 h3→Gw h1.size h3 x 1 (acc.map bv)→(∀ h4 r4,Kb b h1 h4→h4[b]?=h3[b]?→Gw h1.size h4 r4 1 ((acc++[c]).map bv)→(self r4).wp h4 Q) →
      (bdL Zs 1 #[.int .u8 (c.toNat:Int)]>>=fun y=>apL Zs 1 1 (#[.int .u8 0]:Array Value) x y>>=fun z=>self z).wp h3 Q:=by
     intro c i2 h3 hi2 K3 G3 hk
     refine KFO G3 K3.size (by omega) (fun h4 r4 G4 hs4 same4=>?_)
     exact hk h4 r4 ⟨Nat.le_trans K3.size hs4,fun k hk hkb=>(same4 k hk).trans (K3.same k hk hkb)⟩ (same4 b hb1) G4
    have good:∀ (c:UInt8) (i2:Nat) (h3:Heap),i' < i2→Kb b h1 h3→Rgd h3 b s i2→Gw h1.size h3 x 1 (acc.map bv)→strL s f i2 (acc++[c])=strP s i →
      (bdL Zs 1 #[.int .u8 (c.toNat:Int)]>>=fun y=>apL Zs 1 1 (#[.int .u8 0]:Array Value) x y>>=fun z=>self z).wp h3 Q:=by
     intro c i2 h3 hi2 K3 R3 G3 hm3
     refine next c i2 h3 hi2 K3 G3 (fun h4 r4 K4 hb4 G4=>?_)
     have hl4:=G4.len
     rw [List.length_map,List.length_append,List.length_singleton,Nat.mul_one] at hl4
     have R4:Rgd h4 b s i2:=⟨by rw [hb4]; exact R3.blk,R3.le,R3.small⟩
     have hle2:=R3.le
     refine hself _ _ (.inl ⟨acc++[c],f,i2,by omega,by rw [List.length_append,List.length_singleton]; omega,K4,R4,G4,hm3⟩) ?_
     rw [R4.blk]
     show (if (-1:Int) < 0 then s.length+2 - r4.len else 0) < _
     rw [if_pos (by decide)]
     omega
    refine KX (fun h92=>?_) (fun h92=>?_)
    ·rw [if_pos (of_decide_eq_true h92)] at hm
     refine YP R' hil (fun h2 u2 R2=>?_)
     have K2:Kb b h1 h2:=K.trans (Km.upd u2 rfl)
     have G2:Gw h1.size h2 x 1 (acc.map bv):=G.same (fun k hk=>u2.ne k (fun e=>by have:=(G.lt hk).2; omega))
     refine KJ (KLz R2 (fun c j2 h3 he K3 R3=>?_) (fun e h3 he K3 X3=>?_))
     ·rw [he] at hm
      exact good c j2 h3 (by have:=KEb he; omega) (K2.trans K3) R3 (G2.same (fun k hk=>K3.same k (G2.lt hk).1 (fun e=>by have:=(G2.lt hk).2; omega))) hm
     ·rw [he] at hm
      refine next 0 (i'+1) h3 (by omega) (K2.trans K3) (G2.same (fun k hk=>K3.same k (G2.lt hk).1 (fun e=>by have:=(G2.lt hk).2; omega))) (fun h4 r4 K4 hb4 G4=>?_)
      obtain ⟨q,q1,q2,q3⟩:=X3
      exact bad e h4 r4 hm.symm K4 ⟨q,q1,q2,hb4.trans q3⟩
    ·rw [if_neg (of_decide_eq_false h92)] at hm
     refine YP R' hil (fun h2 u2 R2=>?_)
     have K2:Kb b h1 h2:=K.trans (Km.upd u2 rfl)
     have G2:Gw h1.size h2 x 1 (acc.map bv):=G.same (fun k hk=>u2.ne k (fun e=>by have:=(G.lt hk).2; omega))
     exact good _ (i'+1) h2 (by omega) K2 R2 G2 hm
   ·refine Kx (KEm X (iteF (decide_eq_false (by omega)) (KC ?_)))
    exact H2 e hh he (K1.trans K) X
  ·rcases hst with ⟨j,hj,R1⟩ | ⟨e,he,X⟩
   ·refine .inl ⟨[],s.length+1 - j,j,by have:=R1.le; omega,Nat.zero_le _,Km.refl _ _,R1,Gw.nil _ _ _,?_⟩
    unfold strP
    rw [hj]
   ·exact .inr ⟨e,he,Km.refl _ _,X⟩
 refine KJ (GM (lit:=[39]) R (by decide) (fun j h1 hj K1 R1=>main h1 K1 (.inl ⟨j,hj,R1⟩)) (fun e h1 hj K1 X1=>main h1 K1 (.inr ⟨e,?_,X1⟩)))
 unfold strP
 rw [hj]
theorem KHn {h:Heap} {Q:Array Value→Heap→Prop} {g:Nat} {z cs:Array Value} {t:TypeId} (hg:h[g]?=some (.cells z t (0,0))) (hz:z.size=4) (hc:cs.size=4) (h1:∀ v ∈ cs.toList,one v=true)
  (H:∀ h',Upd g h h'→Q cs h'):(M.need (cs.size=4)>>=fun _=>stG ⟨g,0,none⟩ cs>>=fun _=>ldG 4 ⟨g,0,none⟩>>=fun r=>(M.pure r:M (Array Value))).wp h Q:=by
 refine JY hc (stR hg (by omega) h1 (fun h' u g'=>?_))
 rw [ZH (by rw [Array.length_toList]; omega)] at g'
 exact ldR g' hc (KC (H _ u))
theorem KJU {β:Type} {h:Heap} {Q:β→Heap→Prop} {n:Int} {f:Array Value→M β} (H:∀ h',Ext h h'→(f (ZW 1 n [] Sl.nil)).wp h' Q):(V0 n>>=f).wp h Q:=KIf (cs:=ZW 1 n [] Sl.nil) rfl (JB _ _ _ _) H
theorem KHo {β:Type} {h:Heap} {Q:β→Heap→Prop} {s:List UInt8} {f:Array Value→M β} (H:∀ h',Ext h h'→(f (ZW 2 0 s Sl.nil)).wp h' Q):(V1 (bs s)>>=f).wp h Q:=KIf (cs:=ZW 2 0 s Sl.nil) rfl (JB _ _ _ _) H
theorem KAI {β:Type} {h:Heap} {Q:β→Heap→Prop} {c:Bool} {f:Array Value→M β} (H:∀ h',Ext h h'→(f (ZW 3 (if c=true then 1 else 0) [] Sl.nil)).wp h' Q):(J1 c>>=f).wp h Q:=by
 unfold J1
 refine Kf (Zo (fun h1 e1 hs1 g1=>?_))
 have key:∀ n:Int,(∀ h',Ext h h'→(f (ZW 3 n [] Sl.nil)).wp h' Q)→((M.need ((ZW 3 n [] Sl.nil).size=4)>>=fun _=>stG ⟨h.size,0,none⟩ (ZW 3 n [] Sl.nil)>>=fun _=>ldG 4 ⟨h.size,0,none⟩>>=fun r=>(M.pure r:M (Array Value)))>>=f).wp h1 Q:=by
  intro n HH
  refine Kf (JY rfl (Kf (stR (cs:=vz) (vs:=ZW 3 n [] Sl.nil) g1 (Nat.le_refl 4) (JB _ _ _ _) (fun h2 u2 g2=>Kf ?_))))
  rw [ZH (cs:=vz) (vs:=(ZW 3 n [] Sl.nil).toList) rfl] at g2
  exact ldR g2 rfl (Kw (HH _ (e1.upd u2 (Nat.le_refl _))))
 refine KFo (fun hc=>?_) (fun hc=>?_)
 ·subst hc; exact key 1 H
 ·subst hc; exact key 0 H
def KL1 (s:List UInt8) (d:Nat):Prop:=∀ (i:Nat) (h:Heap) (Q:Array Value→Heap→Prop) (b:Nat),Rgd h b s i →
 (∀ v j h' c,pval s d i=.ok (v,j)→Kb b h h'→Rgd h' b s j→Zp (HS h h') h' v c→Q c h') →
 (∀ e v h' c,pval s d i=.error e→Kb b h h'→Rx h' b s e→Zp (HS h h') h' v c→Q c h')→(ZV (some ⟨b,0,none⟩) ((8 - d:Nat):Int)).wp h Q
def KIz (two:Bool):List UInt8:=if two=true then [58,32] else [44,32]
theorem KHp {s:List UInt8} {d:Nat} (hd:d≤7) (IH:KL1 s d) {en:UInt8} (hen:en≠0) (hen2:en≠44) {two:Bool} {i:Nat} {h:Heap} {Q:Sl→Heap→Prop} {b:Nat} (R:Rgd h b s (i+1)) (hi:i < s.length)
  (H1:∀ l j h' r,UH (pval s d) en two s (s.length - i) [] (i+1)=.ok (l,j)→Kb b h h'→Rgd h' b s j→VsRepS (HS h h') h' r l→Q r h')
  (H2:∀ e h',UH (pval s d) en two s (s.length - i) [] (i+1)=.error e→Kb b h h'→Rx h' b s e→Q Sl.nil h') :
  (Uf (some ⟨b,0,none⟩) ((7 - d:Nat):Int) (bs (KIz two)) (en.toNat:Int)).wp h Q:=by
 unfold Uf
 have hP:=KCn s d
 have hb1:=R.lt
 generalize htgt:UH (pval s d) en two s (s.length - i) [] (i+1)=tgt at H1 H2
 refine KJ (WT R ?_)
 rw [u8_c (d:=en) (n:=(en.toNat:Int)) rfl]
 obtain ⟨f0,hf0⟩:∃ f0,s.length - i=f0+1:=⟨s.length - i - 1,by omega⟩
 rw [hf0,UH] at htgt
 refine KX (fun heq=>?_) (fun hne=>?_)
 ·have heq:=of_decide_eq_true heq
  rw [if_pos heq] at htgt
  refine YP R (Z5 (by rw [heq]; exact hen)) (fun h2 u2 R2=>KC ?_)
  exact H1 [] _ h2 Sl.nil htgt.symm (Km.upd u2 rfl) R2 ⟨rfl,Nat.le_refl _,by decide,by rw [Yc]; trivial⟩
 have hne:=of_decide_eq_false hne
 rw [if_neg hne] at htgt
 have hsep0:sepP ([]:List Vl) s (i+1)=.ok (i+1):=rfl
 rw [hsep0] at htgt
 let T (f:Nat) (l:List Vl) (i1:Nat):Except Nat (List Vl × Nat):=match VE (pval s d) two s i1 with
  | .error e=>.error e
  | .ok (vs,i2)=>if KI s i2≠en∧KI s i2≠44 then .error i2 else UH (pval s d) en two s f (l++vs) i2
 let C (f:Nat) (l:List Vl) (i2:Nat):Except Nat (List Vl × Nat):=if KI s i2≠en∧KI s i2≠44 then .error i2 else UH (pval s d) en two s f l i2
 let B (f:Nat) (l:List Vl) (i1:Nat):Except Nat (List Vl × Nat):=match pval s d i1 with
  | .error e=>.error e
  | .ok (w,j)=>C f (l++[w]) j
 refine M.loop_inv (fun (x:Sl) hh=>(∃ (l:List Vl) (css:List (Array Value)) (f i':Nat),s.length < f+1+i'∧l.length≤i'∧Kb b h hh∧Rgd hh b s i'∧VGw h.size (fun k=>h.size≤k∧k < hh.size∧¬ Sl.on x k) hh x css l ∧
   ((two=false∧T f l i'=tgt)∨(two=true∧l.length % 2=0∧T f l i'=tgt)∨(two=true∧l.length % 2=1∧B f l i'=tgt)))∨∃ e,tgt=.error e∧Kb b h hh∧Rx hh b s e)
  (fun x hh=>match hh[b]? with | some (.cells #[_,_,.int _ z] _ _)=>if z < 0 then s.length+2 - x.len else 0 | _=>0) ?_ ?_
 ·rintro x hh hst self hself
  unfold Jx
  rcases hst with ⟨l,css,f,i',hf,hli,K,R',G,hm⟩ | ⟨e,he,K,X⟩
  ·have hsm:=R'.small
   have hle:=R'.le
   have hxl:x.len=l.length:=by rw [G.gw.len4 G.w4,G.len]
   have hKs:=K.size
   have hmu:(match hh[b]? with | some (.cells #[_,_,.int _ z] _ _)=>if z < 0 then s.length+2 - x.len else 0 | _=>0)=s.length+2 - x.len:=by rw [R'.blk]; rfl
   rw [hmu] at hself
   have bad:∀ (e:Nat) (h2:Heap) (x2:Sl),tgt=.error e→Kb b h h2→Rx h2 b s e→(self x2).wp h2 Q:=by
    intro e h2 x2 he K2 X2
    refine hself _ _ (.inr ⟨e,he,K2,X2⟩) ?_
    obtain ⟨k,_,_,g⟩:=X2
    rw [g]
    show (if ((e:Nat):Int) < 0 then s.length+2 - x2.len else 0) < _
    rw [if_neg (by omega)]
    omega
   refine Kx (KGD R' (iteT rfl ?_))
   rw [w64 (by omega) (by omega),show (((7 - d:Nat):Int)+1)=((8 - d:Nat):Int) by omega]
   have one_:∀ {F:Sl→M Sl},(∀ v j h3 x3 css3,pval s d i'=.ok (v,j)→Kb b h h3→Rgd h3 b s j→VGw h.size (fun k=>h.size≤k∧k < h3.size∧¬ Sl.on x3 k) h3 x3 css3 (l++[v])→(F x3).wp h3 Q) →
     (∀ e h3 x3,pval s d i'=.error e→Kb b h h3→Rx h3 b s e→x3.len=l.length+1→(F x3).wp h3 Q) →
     (XN Go.Proofs.Tryz.prog ZY #[.pointer (some ⟨b,0,none⟩),.int .i64 ((8 - d:Nat):Int)] (fun r:Array Value=>.agg r)>>=fun Xx24 =>
      (GV 4 1 (#[.int .i64 0,.int .i64 0,.string ByteArray.empty,.slice none 0 0]:Array Value) [(0,.agg Xx24)]>>=fun y=>bdL KF 1 y>>=fun z=>apL KF 4 56 (#[.int .i64 0,.int .i64 0,.string ByteArray.empty,.slice none 0 0]:Array Value) x z>>=F)).wp hh Q:=by
    intro F HF HE
    have put:∀ (v:Vl) (h3:Heap) (c:Array Value),Kb b hh h3→Zp (HS hh h3) h3 v c→(∀ h4 x4 css4,Kb b h h4→h4[b]?=h3[b]?→VGw h.size (fun k=>h.size≤k∧k < h4.size∧¬ Sl.on x4 k) h4 x4 css4 (l++[v])→(F x4).wp h4 Q) →
      (GV 4 1 (#[.int .i64 0,.int .i64 0,.string ByteArray.empty,.slice none 0 0]:Array Value) [(0,.agg c)]>>=fun y=>bdL KF 1 y>>=fun z=>apL KF 4 56 (#[.int .i64 0,.int .i64 0,.string ByteArray.empty,.slice none 0 0]:Array Value) x z>>=F).wp h3 Q:=by
     intro v h3 c K3 V3 hk
     have hK3:=K3.size
     have G3:VGw h.size (fun k=>h.size≤k∧k < h3.size∧¬ Sl.on x k) h3 x css l :=
      (G.same (fun k hk=>K3.same k (G.gw.lt hk).1 (fun e=>by have:=(G.gw.lt hk).2; omega)) (fun k hk=>K3.same k hk.2.1 (fun e=>by have:=hk.1; omega))).mono (fun k hk=>⟨hk.1,by have:=hk.2.1; omega,hk.2.2⟩)
     refine KHH G3 (fun k hk=>hk.2) (V3.mono (fun k hk=>⟨by have:=hk.1; omega,hk.2,fun ho=>by have:=(G.gw.lt ho).1; have:=hk.1; omega⟩)) (by omega) (by omega) (fun h4 x4 G4 hs4 same4 on4=>?_)
     refine hk h4 x4 _ ⟨by omega,fun k hk hkb=>(same4 k (by omega) (fun ho=>by have:=(G.gw.lt ho).2; omega)).trans ((K.trans K3).same k hk hkb)⟩ (same4 b (by omega) (fun ho=>by have:=(G.gw.lt ho).2; omega)) (G4.mono (fun k hk=>⟨hk.1,by have:=hk.2.1; omega,fun ho=>(on4 k ho).elim hk.2.2 (fun h=>by have:=hk.2.1; omega)⟩))
    refine KJ (Xj (VF _ _) (IH i' hh _ b R' (fun v j h3 c hv K3 R3 V3=>?_) (fun e v h3 c hv K3 X3 V3=>?_)))
    ·exact put v h3 c K3 V3 (fun h4 x4 css4 K4 hb4 G4=>HF v j h4 x4 css4 hv K4 ⟨by rw [hb4]; exact R3.blk,R3.le,R3.small⟩ G4)
    ·refine put v h3 c K3 V3 (fun h4 x4 css4 K4 hb4 G4=>?_)
     obtain ⟨q,q1,q2,q3⟩:=X3
     exact HE e h4 x4 hv K4 ⟨q,q1,q2,hb4.trans q3⟩ (by rw [G4.gw.len4 G4.w4,G4.len,List.length_append,List.length_singleton])
   have hev:sEq (bs (KIz two)) (⟨#[44,32]⟩:ByteArray)=!two:=by
    rw [show (⟨#[44,32]⟩:ByteArray)=bs [44,32] from rfl,KFI]
    cases two <;> decide
   rw [hev]
   have hmod:∀ k:Nat,(Int.tmod (k:Int) 2)=((k % 2:Nat):Int):=fun k=>(Int.ofNat_tmod k 2).symm
   have whole:∀ (l2:List Vl) (css2:List (Array Value)) (j:Nat) (h3:Heap) (x3:Sl),i' < j→l2.length=l.length+1→Kb b h h3→Rgd h3 b s j→VGw h.size (fun k=>h.size≤k∧k < h3.size∧¬ Sl.on x3 k) h3 x3 css2 l2→(two=true→l2.length % 2=0)→C f l2 j=tgt →
     (M.ite (decide (KI s j=en)) (nilP (some (⟨b,0,none⟩:Addr))>>=fun x50=>ldI .i64 ((x50).add 1)>>=fun x52=>nilP (some (⟨b,0,none⟩:Addr))>>=fun x54=>stV ((x54).add 1) (.int .i64 (IntKind.wrap .i64 (x52+1)))>>=fun _=>M.pure x3)
      (M.ite ((Int.tmod (x3.len:Int) 2) == 1) (KO (some ⟨b,0,none⟩) (bs (KIz two))>>=fun _=>self x3) (KO (some ⟨b,0,none⟩) (⟨#[44,32]⟩:ByteArray)>>=fun _=>self x3)):M Sl).wp h3 Q:=by
    intro l2 css2 j h3 x3 hij hl2 K3 R3 G3 hpar hC
    have hj:=R3.le
    have hx3:x3.len=l2.length:=by rw [G3.gw.len4 G3.w4,G3.len]
    refine KX (fun heq=>?_) (fun hne=>?_)
    ·have heq:=of_decide_eq_true heq
     have hjl:j < s.length:=Z5 (by rw [heq]; exact hen)
     obtain ⟨f',rfl⟩:∃ f',f=f'+1:=⟨f - 1,by omega⟩
     refine YP R3 hjl (fun h4 u4 R4=>KC ?_)
     have hu4:=u4.size
     have hC':tgt=.ok (l2,j+1):=by
      rw [← hC]
      show (if KI s j≠en∧KI s j≠44 then _ else _)=_
      rw [if_neg (fun hh=>hh.1 heq),UH,if_pos heq]
     have G4:=G3.same (fun k hk=>u4.ne k (fun e=>by have:=(G3.gw.lt hk).2; omega)) (fun k hk=>u4.ne k (fun e=>by have:=hk.1; omega))
     refine H1 l2 (j+1) h4 x3 hC' (K3.trans (Km.upd u4 rfl)) R4 ?_
     refine (G4.rep_ (by omega)).same (fun _ _=>rfl) (fun k hk=>?_)
     rcases hk with hk | hk
     ·exact ⟨by have:=hk.1; omega,by have:=hk.2.1; omega⟩
     ·have:=G4.gw.lt hk
      exact ⟨by omega,by omega⟩
    ·have hne:=of_decide_eq_false hne
     have hmust:(KO (some ⟨b,0,none⟩) (bs [44,32])>>=fun _=>self x3).wp h3 Q:=by
      refine KJ (GM (lit:=[44,32]) R3 (by decide) (fun j2 h4 hj2 K4 R4=>?_) (fun e h4 hj2 K4 X4=>?_))
      ·have hj2':=UL hj2
       have h44:KI s j=44:=by
        rw [Vs] at hj2
        split at hj2
        ·rename_i hc
         unfold KI; rw [hc]; rfl
        ·cases hj2
       have hjl:j < s.length:=Z5 (by rw [h44]; decide)
       obtain ⟨f',rfl⟩:∃ f',f=f'+1:=⟨f - 1,by omega⟩
       have hT:T f' l2 j2=tgt:=by
        rw [← hC]
        show _=(if KI s j≠en∧KI s j≠44 then _ else _)
        rw [if_neg (fun hh=>hh.2 h44),UH,if_neg hne]
        unfold sepP
        rw [if_neg (by omega),hj2]
        all_goals rfl
       have hK4:=K4.size
       have hK3:=K3.size
       have G4:VGw h.size (fun k=>h.size≤k∧k < h4.size∧¬ Sl.on x3 k) h4 x3 css2 l2 :=
        (G3.same (fun k hk=>K4.same k (G3.gw.lt hk).1 (fun e=>by have:=(G3.gw.lt hk).2; omega)) (fun k hk=>K4.same k hk.2.1 (fun e=>by have:=hk.1; omega))).mono (fun k hk=>⟨hk.1,by have:=hk.2.1; omega,hk.2.2⟩)
       have hj2l:j2=j+2:=hj2'.1
       refine hself _ _ (.inl ⟨l2,css2,f',j2,by omega,by omega,K3.trans K4,R4,G4,?_⟩) ?_
       ·cases two with
        | false=>exact .inl ⟨rfl,hT⟩
        | true=>exact .inr (.inl ⟨rfl,hpar rfl,hT⟩)
       ·rw [R4.blk]
        show (if (-1:Int) < 0 then s.length+2 - x3.len else 0) < _
        rw [if_pos (by decide)]
        omega
      ·refine bad e h4 x3 ?_ (K3.trans K4) X4
       rw [← hC]
       show (if KI s j≠en∧KI s j≠44 then _ else _)=_
       by_cases h44:KI s j=44
       ·have hjl:j < s.length:=Z5 (by rw [h44]; decide)
        obtain ⟨f',rfl⟩:∃ f',f=f'+1:=⟨f - 1,by omega⟩
        rw [if_neg (fun hh=>hh.2 h44),UH,if_neg hne]
        unfold sepP
        rw [if_neg (by omega),hj2]
       ·rw [if_pos ⟨hne,h44⟩]
        rw [Vs,if_neg] at hj2
        ·cases hj2; rfl
        ·intro hc
         refine h44 ?_
         unfold KI; rw [hc]; rfl
     refine KX (fun hodd=>?_) (fun heven=>?_)
     ·rw [hx3,hmod] at hodd
      have hodd:((l2.length % 2:Nat):Int)=1:=by simpa using hodd
      cases two with
      | true=>have:=hpar rfl; omega
      | false=>exact hmust
     ·exact hmust
   have hbadmust:∀ (e:Nat) (h3:Heap) (x3:Sl),tgt=.error e→Kb b h h3→Rx h3 b s e→(M.ite ((Int.tmod (x3.len:Int) 2) == 1) (KO (some ⟨b,0,none⟩) (bs (KIz two))>>=fun _=>self x3) (KO (some ⟨b,0,none⟩) (⟨#[44,32]⟩:ByteArray)>>=fun _=>self x3):M Sl).wp h3 Q:=by
    intro e h3 x3 he K3 X3
    refine KX (fun _=>?_) (fun _=>?_)
    ·cases two with
     | true=>exact KJ (KCz (c:=58) (r:=[32]) X3 (by decide) (bad e h3 x3 he K3 X3))
     | false=>exact KJ (KCz (c:=44) (r:=[32]) X3 (by decide) (bad e h3 x3 he K3 X3))
    ·exact KJ (KCz (c:=44) (r:=[32]) X3 (by decide) (bad e h3 x3 he K3 X3))
   refine one_ (fun v j h3 x3 css3 hv K3 R3 G3=>?_) (fun e h3 x3 hv K3 X3 hx3=>?_)
   ·have hvj:=hP _ _ _ hv
    have hx3:x3.len=(l++[v]).length:=by rw [G3.gw.len4 G3.w4,G3.len]
    have hll:(l++[v]).length=l.length+1:=by simp
    rw [hx3,hmod]
    rcases hm with ⟨h2,hm⟩ | ⟨h2,hpar,hm⟩ | ⟨h2,hpar,hm⟩
    ·subst h2
     have hC:C f (l++[v]) j=tgt:=by
      rw [← hm]
      show _=(match VE (pval s d) false s i' with | .error e=>_ | .ok (vs,i2)=>_)
      have hpair:VE (pval s d) false s i'=.ok ([v],j):=by unfold VE; rw [hv]; rfl
      rw [hpair]
     refine or_b (c:=false) (fun h=>by cases h) (Jt (c:=decide (KI s j=en)) (fun _ Q' hq=>KJ (WT R3 (KC (by rw [u8_c (d:=en) (n:=(en.toNat:Int)) rfl]; exact hq)))) ?_)
     have:=whole _ _ j h3 x3 (by omega) hll K3 R3 G3 (fun h=>by cases h) hC
     rw [hx3,hmod] at this
     exact this
    ·subst h2
     refine or_b (c:=false) (fun _ Q' hq=>KC ?_) (Jt (c:=false) (fun h=>by cases h) (iteF rfl ?_))
     ·rw [show (((((l++[v]).length % 2:Nat)):Int) == 0)=false by rw [eqI]; exact decide_eq_false (by omega)]
      exact hq
     refine iteT (by rw [eqI]; exact decide_eq_true (by omega)) ?_
     refine KJ (GM (lit:=[58,32]) R3 (by decide) (fun j2 h4 hj2 K4 R4=>?_) (fun e h4 hj2 K4 X4=>?_))
     ·have hK4:=K4.size
      have hK3:=K3.size
      have G4:VGw h.size (fun k=>h.size≤k∧k < h4.size∧¬ Sl.on x3 k) h4 x3 css3 (l++[v]) :=
       (G3.same (fun k hk=>K4.same k (G3.gw.lt hk).1 (fun e=>by have:=(G3.gw.lt hk).2; omega)) (fun k hk=>K4.same k hk.2.1 (fun e=>by have:=hk.1; omega))).mono (fun k hk=>⟨hk.1,by have:=hk.2.1; omega,hk.2.2⟩)
      have hj2l:j2=j+2:=(UL hj2).1
      have hB:B f (l++[v]) j2=tgt:=by
       rw [← hm]
       show (match pval s d j2 with | .error e=>_ | .ok (w,j)=>_)=(match VE (pval s d) true s i' with | .error e=>_ | .ok (vs,i2)=>_)
       unfold VE
       rw [hv]
       dsimp only
       rw [if_pos rfl,hj2]
       dsimp only
       cases hw:pval s d j2 with
       | error e=>rfl
       | ok p =>
        obtain ⟨w,j3⟩:=p
        dsimp only
        show (if KI s j3≠en∧KI s j3≠44 then _ else _)=_
        rw [List.append_assoc]
        rfl
      refine hself _ _ (.inl ⟨l++[v],css3,f,j2,by omega,by omega,K3.trans K4,R4,G4,.inr (.inr ⟨rfl,by omega,hB⟩)⟩) ?_
      rw [R4.blk]
      show (if (-1:Int) < 0 then s.length+2 - x3.len else 0) < _
      rw [if_pos (by decide)]
      have:=R4.le
      omega
     ·refine bad e h4 x3 ?_ (K3.trans K4) X4
      rw [← hm]
      show (match VE (pval s d) true s i' with | .error e=>_ | .ok (vs,i2)=>_)=_
      unfold VE
      rw [hv]
      dsimp only
      rw [if_pos rfl,hj2]
    ·subst h2
     have hC:C f (l++[v]) j=tgt:=by
      rw [← hm]
      show _=(match pval s d i' with | .error e=>_ | .ok (w,j)=>_)
      rw [hv]
     refine or_b (c:=true) (fun _ Q' hq=>KC ?_) (Jt (c:=decide (KI s j=en)) (fun _ Q' hq=>KJ (WT R3 (KC (by rw [u8_c (d:=en) (n:=(en.toNat:Int)) rfl]; exact hq)))) ?_)
     ·rw [show (((((l++[v]).length % 2:Nat)):Int) == 0)=true by rw [eqI]; exact decide_eq_true (by omega)]
      exact hq
     have:=whole _ _ j h3 x3 (by omega) hll K3 R3 G3 (fun _=>by omega) hC
     rw [hx3,hmod] at this
     exact this
   ·have herr:tgt=.error e:=by
     rcases hm with ⟨h2,hm⟩ | ⟨h2,hpar,hm⟩ | ⟨h2,hpar,hm⟩
     ·rw [← hm]
      show (match VE (pval s d) two s i' with | .error e=>_ | .ok (vs,i2)=>_)=_
      unfold VE
      rw [hv]
     ·rw [← hm]
      show (match VE (pval s d) two s i' with | .error e=>_ | .ok (vs,i2)=>_)=_
      unfold VE
      rw [hv]
     ·rw [← hm]
      show (match pval s d i' with | .error e=>_ | .ok (w,j)=>_)=_
      rw [hv]
    refine or_b (c:=((Int.tmod (x3.len:Int) 2) == 0)) (fun _ Q' hq=>KC hq) (Jt (c:=false) (fun _ Q' hq=>KJ (KA9 X3 (KC ?_))) ?_)
    ·rw [show ((0:Int) == (en.toNat:Int))=false by
      rw [eqI]
      refine decide_eq_false (fun e=>hen (UInt8.toNat_inj.1 ?_))
      show en.toNat=0
      omega]
     exact hq
    ·rw [Bool.and_false]
     exact iteF rfl (hbadmust e h3 x3 herr K3 X3)
  ·refine Kx (KEm X (iteF (decide_eq_false (by omega)) (KC ?_)))
   exact H2 e hh he K X
 ·refine .inl ⟨[],[],f0,i+1,by omega,Nat.zero_le _,Km.refl _ _,R,VGw.nil _ _ _,?_⟩
  cases two with
  | false=>exact .inl ⟨rfl,htgt⟩
  | true=>exact .inr (.inl ⟨rfl,rfl,htgt⟩)
end Gx
namespace Gx
open Go Go.Proofs Go.Shelf Go.RowKit Go.Lib
set_option linter.unusedVariables false
set_option linter.unusedSimpArgs false
set_option maxRecDepth 100000
theorem KJV (S:Nat→Prop) (h:Heap):Zp S h (.mk 0 0 [] []) (ZW 0 0 [] Sl.nil):=KCo S h ⟨by decide,by decide⟩ ⟨by decide,by decide⟩ (by decide)
theorem KFc (s:List UInt8):∀ d,d≤8→KL1 s d
 | 0,_=>fun i h Q b R H1 H2=>by
  unfold ZV
  refine Zo (fun h1 e1 hs1 g1=>iteT (by rfl) (VY (R.ext e1) (fun h2 u2 X2=>?_)))
  have hbl:=R.lt
  refine KHn (cs:=ZW 0 0 [] Sl.nil) ((u2.ne _ (by omega)).trans g1) rfl rfl (JB _ _ _ _) (fun h3 u3=>?_)
  have Ku:Kb b h1 h2:=Km.upd u2 rfl
  have Kh:Kb b h h2:=(Km.ext e1).trans Ku
  exact H2 i (.mk 0 0 [] []) h3 _ rfl (Kh.own u3 (Nat.le_refl _)) (X2.upd u3 (by omega)) (KJV _ _)
 | d+1,hd=>fun i h Q b R H1 H2=>by
  have IH:=KFc s d (by omega)
  unfold ZV
  refine Zo (fun h1 e1 hs1 g1=>iteF (decide_eq_false (by omega)) ?_)
  have R1:=R.ext e1
  have hbl:=R.lt
  have K1:Kb b h h1:=Km.ext e1
  have fin:∀ (v:Vl) (cs:Array Value) (h2:Heap),Kb b h1 h2→Zp (fun k=>h1.size≤k∧k < h2.size) h2 v cs→(∀ h3,Kb b h h3→h3[b]?=h2[b]?→Zp (HS h h3) h3 v cs→Q cs h3) →
    (M.need (cs.size=4)>>=fun _=>stG ⟨h.size,0,none⟩ cs>>=fun _=>ldG 4 ⟨h.size,0,none⟩>>=fun r=>(M.pure r:M (Array Value))).wp h2 Q:=by
   intro v cs h2 K2 V2 hk
   have g2:=K2.blk g1 (show ¬ h.size=b by omega)
   refine KHn g2 rfl V2.size V2.to.one (fun h3 u3=>hk h3 ?_ (u3.ne b (by omega)) ?_)
   ·have:=K1.trans K2
    exact ⟨by rw [u3.size]; exact this.size,fun q hq hqb=>(u3.ne q (by omega)).trans (this.same q hq hqb)⟩
   ·have hu:=u3.size
    exact (V2.same (fun k hk=>u3.ne k (by omega))).mono (fun k hk=>⟨by omega,by omega⟩)
  have finG:∀ (v:Vl) (cs:Array Value) (j:Nat) (h2:Heap),pval s (d+1) i=.ok (v,j)→Kb b h1 h2→Rgd h2 b s j→Zp (fun k=>h1.size≤k∧k < h2.size) h2 v cs →
    (M.need (cs.size=4)>>=fun _=>stG ⟨h.size,0,none⟩ cs>>=fun _=>ldG 4 ⟨h.size,0,none⟩>>=fun r=>(M.pure r:M (Array Value))).wp h2 Q :=
   fun v cs j h2 hv K2 R2 V2=>fin v cs h2 K2 V2 (fun h3 K3 hb3 V3=>H1 v j h3 cs hv K3 ⟨by rw [hb3]; exact R2.blk,R2.le,R2.small⟩ V3)
  have finX:∀ (v:Vl) (cs:Array Value) (e:Nat) (h2:Heap),pval s (d+1) i=.error e→Kb b h1 h2→Rx h2 b s e→Zp (fun k=>h1.size≤k∧k < h2.size) h2 v cs →
    (M.need (cs.size=4)>>=fun _=>stG ⟨h.size,0,none⟩ cs>>=fun _=>ldG 4 ⟨h.size,0,none⟩>>=fun r=>(M.pure r:M (Array Value))).wp h2 Q:=by
   intro v cs e h2 hv K2 X2 V2
   refine fin v cs h2 K2 V2 (fun h3 K3 hb3 V3=>H2 e v h3 cs hv K3 ?_ V3)
   obtain ⟨q,q1,q2,q3⟩:=X2
   exact ⟨q,q1,q2,hb3.trans q3⟩
  have scal:∀ {k n:Int} {t:List UInt8} {S:Nat→Prop} {h2:Heap},I64 k→I64 n→t.length≤1099511627776→Zp S h2 (.mk k n t []) (ZW k n t Sl.nil):=fun hk hn ht=>KCo _ _ hk hn (by omega)
  have hle:=R.le
  have hsm:=R.small
  have i1:I64 1:=⟨by decide,by decide⟩
  have i0:I64 0:=⟨by decide,by decide⟩
  rw [pval] at finG finX
  clear fin
  refine KJ (WT R1 ?_)
  refine or_b (c:=digB (KI s i)) (fun _ Q' hq=>KJ (YQ (KC hq))) ?_
  rw [u8_c (d:=45) (n:=45) rfl]
  refine KX (fun hc=>?_) (fun hc=>?_)
  ·have hc:KI s i=45∨digB (KI s i)=true:=by rwa [Bool.or_eq_true,decide_eq_true_iff] at hc
   rw [if_pos hc] at finG finX
   refine KJ (KD5 R1 (fun n j h2 hn K2 R2=>?_) (fun e h2 hn K2 X2=>?_))
   ·exact KJU (fun h3 e3=>finG (.mk 1 n [] []) _ j h3 (by rw [hn]) (K2.trans (Km.ext e3)) (R2.ext e3) (scal i1 (zd hn hle).1 (by decide)))
   ·exact KJU (fun h3 e3=>finX (.mk 1 0 [] []) _ e h3 (by rw [hn]) (K2.trans (Km.ext e3)) (X2.ext e3) (scal i1 i0 (by decide)))
  have hc:¬ (KI s i=45∨digB (KI s i)=true):=fun hh=>by
   rw [← decide_eq_true_iff (p:=KI s i=45),← Bool.or_eq_true,hc] at hh
   cases hh
  rw [if_neg hc] at finG finX
  rw [u8_c (d:=39) (n:=39) rfl]
  refine KX (fun hc=>?_) (fun hc=>?_)
  ·rw [if_pos (of_decide_eq_true hc)] at finG finX
   refine KJ (KL0 R1 (fun t j h2 ht K2 R2=>?_) (fun e h2 ht K2 X2=>?_))
   ·exact KHo (fun h3 e3=>finG (.mk 2 0 t []) _ j h3 (by rw [ht]) (K2.trans (Km.ext e3)) (R2.ext e3) (scal ⟨by decide,by decide⟩ i0 (by have:=(KCl ht).2.2; omega)))
   ·exact KHo (fun h3 e3=>finX (.mk 2 0 [] []) _ e h3 (by rw [ht]) (K2.trans (Km.ext e3)) (X2.ext e3) (scal ⟨by decide,by decide⟩ i0 (by decide)))
  rw [if_neg (of_decide_eq_false hc)] at finG finX
  rw [u8_c (d:=116) (n:=116) rfl]
  refine KX (fun hc=>?_) (fun hc=>?_)
  ·rw [if_pos (of_decide_eq_true hc)] at finG finX
   refine KJ (GM (lit:=[116,114,117,101]) R1 (by decide) (fun j h2 hj K2 R2=>?_) (fun e h2 hj K2 X2=>?_))
   ·exact KAI (fun h3 e3=>finG (.mk 3 1 [] []) _ j h3 (by rw [hj]) (K2.trans (Km.ext e3)) (R2.ext e3) (scal ⟨by decide,by decide⟩ i1 (by decide)))
   ·exact KAI (fun h3 e3=>finX (.mk 3 1 [] []) _ e h3 (by rw [hj]) (K2.trans (Km.ext e3)) (X2.ext e3) (scal ⟨by decide,by decide⟩ i1 (by decide)))
  rw [if_neg (of_decide_eq_false hc)] at finG finX
  rw [u8_c (d:=102) (n:=102) rfl]
  refine KX (fun hc=>?_) (fun hc=>?_)
  ·rw [if_pos (of_decide_eq_true hc)] at finG finX
   refine KJ (GM (lit:=[102,97,108,115,101]) R1 (by decide) (fun j h2 hj K2 R2=>?_) (fun e h2 hj K2 X2=>?_))
   ·exact KAI (fun h3 e3=>finG (.mk 3 0 [] []) _ j h3 (by rw [hj]) (K2.trans (Km.ext e3)) (R2.ext e3) (scal ⟨by decide,by decide⟩ i0 (by decide)))
   ·exact KAI (fun h3 e3=>finX (.mk 3 0 [] []) _ e h3 (by rw [hj]) (K2.trans (Km.ext e3)) (X2.ext e3) (scal ⟨by decide,by decide⟩ i0 (by decide)))
  rw [if_neg (of_decide_eq_false hc)] at finG finX
  rw [u8_c (d:=118) (n:=118) rfl,u8_c (d:=101) (n:=101) rfl]
  refine or_b (c:=decide (KI s i=101)) (fun _ Q' hq=>KC hq) ?_
  refine KX (fun hc=>?_) (fun hc=>?_)
  ·have hc:KI s i=118∨KI s i=101:=by rwa [Bool.or_eq_true,decide_eq_true_iff,decide_eq_true_iff] at hc
   have hil:i < s.length:=Z5 (by rcases hc with h | h <;> (rw [h]; decide))
   suffices body:∀ k:Int,I64 k→(if decide (KI s i=118)=true then k=6 else k=7) →
     (∀ (v:Vl) (cs:Array Value) (j:Nat) (h2:Heap),Yy k s i=.ok (v,j)→Kb b h1 h2→Rgd h2 b s j→Zp (fun k=>h1.size≤k∧k < h2.size) h2 v cs→(M.need (cs.size=4)>>=fun _=>stG ⟨h.size,0,none⟩ cs>>=fun _=>ldG 4 ⟨h.size,0,none⟩>>=fun r=>(M.pure r:M (Array Value))).wp h2 Q) →
     (∀ (v:Vl) (cs:Array Value) (e:Nat) (h2:Heap),Yy k s i=.error e→Kb b h1 h2→Rx h2 b s e→Zp (fun k=>h1.size≤k∧k < h2.size) h2 v cs→(M.need (cs.size=4)>>=fun _=>stG ⟨h.size,0,none⟩ cs>>=fun _=>ldG 4 ⟨h.size,0,none⟩>>=fun r=>(M.pure r:M (Array Value))).wp h2 Q)→_ by
    by_cases h:KI s i=118
    ·rw [if_pos h] at finG finX
     exact body 6 ⟨by decide,by decide⟩ (by rw [if_pos (decide_eq_true h)]) finG finX
    ·rw [if_neg h,if_pos (hc.resolve_left h)] at finG finX
     exact body 7 ⟨by decide,by decide⟩ (by rw [if_neg (by simpa using h)]) finG finX
   clear finG finX
   intro k ik hkk finG finX
   refine YP R1 hil (fun h2 u2 R2=>?_)
   have K2:Kb b h1 h2:=Km.upd u2 rfl
   have g2:h2[h.size]?=some (.cells vz KF (0,0)):=(u2.ne _ (by omega)).trans g1
   have tail:∀ (n:Int) (h3:Heap),Kb b h2 h3→I64 n→(∀ h4,Kb b h1 h4→h4[b]?=h3[b]?→h4[h3.size]?=some (.cells (ZW k n [] Sl.nil) KF (0,0))→h4[h.size]?=some (.cells vz KF (0,0))→h3.size < h4.size→(Ke (some ⟨b,0,none⟩) ⟨h.size,0,none⟩ ⟨h3.size,0,none⟩).wp h4 Q) →
     (mkB KF (#[.int .i64 0,.int .i64 0,.string ByteArray.empty,.slice none 0 0]:Array Value)>>=fun Xx54 =>
      M.need ((ZW 7 n [] Sl.nil).size=4)>>=fun _=>stG Xx54 (ZW 7 n [] Sl.nil)>>=fun _ =>
      M.ite (decide (KI s i=118)) (stV ((Xx54).add 0) (.int .i64 6)>>=fun _=>Ke (some ⟨b,0,none⟩) ⟨h.size,0,none⟩ Xx54) (Ke (some ⟨b,0,none⟩) ⟨h.size,0,none⟩ Xx54):M (Array Value)).wp h3 Q:=by
    intro n h3 K3 hn hk
    have hK3:=K3.size
    have hu2:=u2.size
    have hb3:b < h3.size:=by omega
    refine Zo (fun h4 e4 hs4 g4=>JY rfl (stR (cs:=vz) (vs:=ZW 7 n [] Sl.nil) g4 (Nat.le_refl 4) (JB _ _ _ _) (fun h5 u5 g5=>?_)))
    rw [ZH (cs:=vz) (vs:=(ZW 7 n [] Sl.nil).toList) rfl] at g5
    have hu5:=u5.size
    have K5:Kb b h1 h5:=K2.trans (K3.trans ⟨by omega,fun q hq _=>(u5.ne q (by omega)).trans (e4.same q hq)⟩)
    have hb5:h5[b]?=h3[b]?:=(u5.ne b (by omega)).trans (e4.same b hb3)
    have hv5:h5[h.size]?=some (.cells vz KF (0,0)):=(u5.ne _ (by omega)).trans ((e4.same _ (by omega)).trans (K3.blk g2 (show ¬ h.size=b by omega)))
    by_cases hv:KI s i=118
    ·rw [decide_eq_true hv] at hkk ⊢
     rw [if_pos rfl] at hkk
     subst hkk
     refine iteT rfl (qC (x:=.int .i64 7) (by rw [Kp,KU g5]; rfl) (by rw [Kp]; exact ZX g5) rfl ?_)
     rw [Kp,Nat.zero_add]
     have u6:=Upd.hset h5 h3.size 0 (.int .i64 6)
     have g6:(hset h5 ⟨h3.size,0,none⟩ (.int .i64 6))[h3.size]?=some (.cells (ZW 6 n [] Sl.nil) KF (0,0)):=VJ g5
     exact hk _ ⟨by rw [u6.size]; exact K5.size,fun q hq hqb=>(u6.ne q (by have:=K2.size; omega)).trans (K5.same q hq hqb)⟩ ((u6.ne b (by omega)).trans hb5) g6 ((u6.ne _ (by omega)).trans hv5) (by rw [u6.size]; omega)
    ·rw [decide_eq_false hv] at hkk ⊢
     rw [if_neg (by decide)] at hkk
     subst hkk
     exact iteF rfl (hk h5 K5 hb5 g5 hv5 (by omega))
   have j1X:∀ (n:Int) (h3 h4:Heap) (e:Nat),Yy k s i=.error e→I64 n→Rx h3 b s e→h1.size≤h3.size→Kb b h1 h4→h4[b]?=h3[b]?→h4[h3.size]?=some (.cells (ZW k n [] Sl.nil) KF (0,0))→h3.size < h4.size→(Ke (some ⟨b,0,none⟩) ⟨h.size,0,none⟩ ⟨h3.size,0,none⟩).wp h4 Q:=by
    intro n h3 h4 e he hn X3 hs3 K4 hb4 g4 hlt
    have X4:Rx h4 b s e:=by obtain ⟨q,q1,q2,q3⟩:=X3; exact ⟨q,q1,q2,hb4.trans q3⟩
    unfold Ke
    refine KJ (KCz (c:=93) (r:=[]) X4 (by decide) (ldR g4 rfl ?_))
    exact finX (.mk k n [] []) _ e h4 he K4 X4 (scal ik hn (by decide))
   refine KJ (GM (lit:=[91]) R2 (by decide) (fun j h3 hj K3 R3=>?_) (fun e h3 hj K3 X3=>?_))
   ·refine KJ (KD5 R3 (fun n j2 h4 hn K4 R4=>?_) (fun e h4 hn K4 X4=>?_))
    ·have in_:=(zd hn R3.le).1
     refine tail n h4 (K3.trans K4) in_ (fun h5 K5 hb5 g5 hv5 hlt=>?_)
     have R5:Rgd h5 b s j2:=⟨by rw [hb5]; exact R4.blk,R4.le,R4.small⟩
     have hs4:h1.size≤h4.size:=by have:=(K2.trans (K3.trans K4)).size; exact this
     have hbl1:b < h1.size:=by omega
     unfold Ke
     refine KJ (GM (lit:=[93]) R5 (by decide) (fun j3 h6 hj3 K6 R6=>?_) (fun e h6 hj3 K6 X6=>?_))
     ·refine ldR (K6.blk g5 (show ¬ h4.size=b by omega)) rfl ?_
      refine finG (.mk k n [] []) _ j3 h6 ?_ (K5.trans K6) R6 (scal ik in_ (by decide))
      unfold Yy; rw [hj]; dsimp only; rw [hn]; dsimp only; rw [hj3]
     ·refine ldR (K6.blk g5 (show ¬ h4.size=b by omega)) rfl ?_
      refine finX (.mk k n [] []) _ e h6 ?_ (K5.trans K6) X6 (scal ik in_ (by decide))
      unfold Yy; rw [hj]; dsimp only; rw [hn]; dsimp only; rw [hj3]
    ·refine tail 0 h4 (K3.trans K4) i0 (fun h5 K5 hb5 g5 hv5 hlt=>?_)
     exact j1X 0 h4 h5 e (by unfold Yy; rw [hj]; dsimp only; rw [hn]) i0 X4 (by have:=(K2.trans (K3.trans K4)).size; exact this) K5 hb5 g5 hlt
   ·refine KJ (KHm X3 ?_)
    refine tail 0 h3 K3 i0 (fun h5 K5 hb5 g5 hv5 hlt=>?_)
    exact j1X 0 h3 h5 e (by unfold Yy; rw [hj]) i0 X3 (by have:=(K2.trans K3).size; exact this) K5 hb5 g5 hlt
  have hc:¬ KI s i=118∧¬ KI s i=101:=by
   rw [Bool.or_eq_false_iff,decide_eq_false_iff_not,decide_eq_false_iff_not] at hc
   exact hc
  rw [if_neg hc.1,if_neg hc.2] at finG finX
  rw [u8_c (d:=91) (n:=91) rfl,u8_c (d:=123) (n:=123) rfl,show ((8 - (d+1):Nat):Int)=((7 - d:Nat):Int) by omega]
  refine KX (fun hc=>?_) (fun hc=>?_)
  ·have hcc:=of_decide_eq_true hc
   have hil:i < s.length:=Z5 (by rw [hcc]; decide)
   rw [if_pos hcc] at finG finX
   refine YP R1 hil (fun h2 u2 R2=>?_)
   have hu2:=u2.size
   have Ku:Kb b h1 h2:=Km.upd u2 rfl
   refine KJ (Xj (VV _ _ _ _) (KHp (two:=false) (en:=93) (by omega) IH (by decide) (by decide) R2 hil (fun l j h3 r hl K3 R3 V3=>?_) (fun e h3 hl K3 X3=>?_)))
   ·exact finG (.mk 4 0 [] l) _ j h3 (by rw [hl]) (Ku.trans K3) R3 (KAG ⟨by decide,by decide⟩ i0 (V3.same (fun _ _=>rfl) (fun k hk=>⟨by have:=hk.1; omega,hk.2⟩)))
   ·exact finX (.mk 4 0 [] []) _ e h3 (by rw [hl]) (Ku.trans K3) X3 (scal ⟨by decide,by decide⟩ i0 (by decide))
  rw [if_neg (of_decide_eq_false hc)] at finG finX
  refine KX (fun hc=>?_) (fun hc=>?_)
  ·have hcc:=of_decide_eq_true hc
   have hil:i < s.length:=Z5 (by rw [hcc]; decide)
   rw [if_pos hcc] at finG finX
   refine YP R1 hil (fun h2 u2 R2=>?_)
   have hu2:=u2.size
   have Ku:Kb b h1 h2:=Km.upd u2 rfl
   refine KJ (Xj (VV _ _ _ _) (KHp (two:=true) (en:=125) (by omega) IH (by decide) (by decide) R2 hil (fun l j h3 r hl K3 R3 V3=>?_) (fun e h3 hl K3 X3=>?_)))
   ·exact finG (.mk 5 0 [] l) _ j h3 (by rw [hl]) (Ku.trans K3) R3 (KAG ⟨by decide,by decide⟩ i0 (V3.same (fun _ _=>rfl) (fun k hk=>⟨by have:=hk.1; omega,hk.2⟩)))
   ·exact finX (.mk 5 0 [] []) _ e h3 (by rw [hl]) (Ku.trans K3) X3 (scal ⟨by decide,by decide⟩ i0 (by decide))
  rw [if_neg (of_decide_eq_false hc)] at finX
  exact VY R1 (fun h2 u2 X2=>finX (.mk 0 0 [] []) (ZW 0 0 [] Sl.nil) i h2 rfl (Km.upd u2 rfl) X2 (KJV _ _))
theorem KBB {s:List UInt8} {h:Heap} {Q:Array Value × Int × Int→Heap→Prop} (hs:s.length≤1099511627776)
  (H:∀ h' c,Ext h h'→Zp (h.size≤·) h' (ZS s).1 c→Q (c,((ZS s).2.1:Int),(ZS s).2.2) h'):(Jl (bs s)).wp h Q:=by
 unfold Jl
 refine Zo (fun h1 e1 s1 g1=>KJz ?_)
 have e2:=Ext.push h1 (.cells (#[.string (bs s),.int .i64 0,.int .i64 (-1)]:Array Value) ZL)
 have g2:(h1.push (.cells (#[.string (bs s),.int .i64 0,.int .i64 (-1)]:Array Value) ZL))[h1.size]?=some (.cells (#[.string (bs s),.int .i64 0,.int .i64 (-1)]:Array Value) ZL (0,0)):=Z2
 have s2:(h1.push (.cells (#[.string (bs s),.int .i64 0,.int .i64 (-1)]:Array Value) ZL)).size=h1.size+1:=Array.size_push ..
 generalize h1.push (.cells (#[.string (bs s),.int .i64 0,.int .i64 (-1)]:Array Value) ZL)=h2 at e2 g2 s2 ⊢
 have R2:Rgd h2 h1.size s 0:=⟨g2,Nat.zero_le _,hs⟩
 have g1':h2[h.size]?=some (.cells vz KF (0,0)):=e2.blk g1
 have endX:∀ (e:Nat) (h5:Heap) (p:Nat),ZS s=(vl0,e,22)→Kb h1.size h2 h5→Rx h5 h1.size s e→(Z7 ⟨h.size,0,none⟩ (some ⟨h1.size,0,none⟩) ⟨p,0,none⟩).wp h5 Q:=by
  intro e h5 p hP K5 X5
  rw [hP] at H
  have g5:=K5.blk g1' (show ¬ h.size=h1.size by omega)
  unfold Z7
  refine Kx (KEm X5 (iteT (decide_eq_true (by omega)) (Kx (KEm X5 ?_))))
  refine JY rfl (stR (cs:=vz) (vs:=ZW 0 0 [] Sl.nil) g5 (Nat.le_refl 4) (JB 0 0 [] Sl.nil) (fun h6 u6 g6=>?_))
  rw [ZH (cs:=vz) (vs:=(ZW 0 0 [] Sl.nil).toList) rfl] at g6
  have X6:=X5.upd u6 (by omega)
  refine KAa ?_ (ldR g6 rfl (KC (H h6 _ ?_ (KCk _ _))))
  ·obtain ⟨q,_,_,q3⟩:=X6
   rw [Kp,KU q3]; rfl
  ·refine ⟨by have:=K5.size; have:=u6.size; omega,fun i hi=>?_⟩
   exact (u6.ne i (by omega)).trans ((K5.same i (by omega) (by omega)).trans ((e2.same i (by omega)).trans (e1.same i hi)))
 refine KJ (KFc s 8 (by decide) 0 h2 _ h1.size R2 (fun v j h3 c hv K3 R3 V3=>?_) (fun e v h3 c hv K3 X3 V3=>?_))
 ·refine Zo (fun h4 e4 s4 g4=>JY V3.size (stR g4 (by rw [V3.size]; exact Nat.le_refl 4) V3.to.one (fun h5 u5 g5=>?_)))
  rw [ZH (cs:=vz) (vs:=c.toList) (by rw [Array.length_toList,V3.size]; rfl),Array.toArray_toList] at g5
  have hK3:=K3.size
  have hu5:=u5.size
  have K5:Kb h1.size h2 h5:=K3.trans ⟨by omega,fun q hq _=>(u5.ne q (by omega)).trans (e4.same q hq)⟩
  have R5:Rgd h5 h1.size s j:=⟨(u5.ne _ (by omega)).trans (e4.blk R3.blk),R3.le,R3.small⟩
  have V5:Zp (HS h2 h3) h5 v c:=V3.same (fun k hk=>(u5.ne k (by have:=hk.2; omega)).trans (e4.same k hk.2))
  refine Kx (KGD R5 ?_)
  refine Jt (c:=decide (j < s.length)) (fun _ Q' hq=>Kx (KA7 R5 (KC ?_))) ?_
  ·rw [Ko,show decide ((j:Int) < (s.length:Int))=decide (j < s.length) from decide_eq_decide.2 (by omega)]
   exact hq
  refine KX (fun hc=>?_) (fun hc=>?_)
  ·have hj:j < s.length:=by simpa using hc
   have hP:ZS s=(vl0,j,22):=by unfold ZS NE; rw [hv]; dsimp only; rw [if_pos hj]
   exact VY R5 (fun h6 u6 X6=>endX j h6 _ hP (K5.trans (Km.upd u6 rfl)) X6)
  ·have hj:¬ j < s.length:=by simpa using hc
   have hR:NE s=.ok v:=by unfold NE; rw [hv]; dsimp only; rw [if_neg hj]
   unfold Z7
   have g5':=K5.blk g1' (show ¬ h.size=h1.size by omega)
   refine Kx (KGD R5 (iteF rfl (ldR g5 V3.size (KJ (KEZ V5.to (fun h6 e6=>?_))))))
   have g6:=e6.blk g5
   have g6':=e6.blk g5'
   have E6:Ext h h6:=⟨by have:=e6.size; omega,fun i hi=>(e6.same i (by omega)).trans ((K5.same i (by omega) (by omega)).trans ((e2.same i (by omega)).trans (e1.same i hi)))⟩
   unfold KBl
   by_cases hm:mayV 8 v=true
   ·rw [if_pos hm]
    have hP:ZS s=(v,0,0):=by unfold ZS; rw [hR]; dsimp only; rw [if_pos hm]
    rw [hP] at H
    refine iteF rfl (ldR g6 V3.size (JY V3.size (stR g6' (by rw [V3.size]; exact Nat.le_refl 4) V3.to.one (fun h7 u7 g7=>?_))))
    rw [ZH (cs:=vz) (vs:=c.toList) (by rw [Array.length_toList,V3.size]; rfl),Array.toArray_toList] at g7
    refine ldR g7 V3.size (KC (H h7 c (E6.upd u7 (Nat.le_refl _)) ?_))
    exact (V5.same (fun k hk=>(u7.ne k (by have:=hk.1; omega)).trans (e6.same k (by have:=hk.2; omega)))).mono (fun k hk=>by have:=hk.1; omega)
   ·rw [if_neg hm]
    have hP:ZS s=(vl0,0,20):=by unfold ZS; rw [hR]; dsimp only; rw [if_neg hm]
    rw [hP] at H
    refine iteT rfl (JY rfl (stR (cs:=vz) (vs:=ZW 0 0 [] Sl.nil) g6' (Nat.le_refl 4) (JB 0 0 [] Sl.nil) (fun h7 u7 g7=>?_)))
    rw [ZH (cs:=vz) (vs:=(ZW 0 0 [] Sl.nil).toList) rfl] at g7
    exact ldR g7 rfl (KC (H h7 _ (E6.upd u7 (Nat.le_refl _)) (KCk _ _)))
 ·have hP:ZS s=(vl0,e,22):=by unfold ZS NE; rw [hv]
  refine Zo (fun h4 e4 s4 g4=>JY V3.size (stR g4 (by rw [V3.size]; exact Nat.le_refl 4) V3.to.one (fun h5 u5 g5=>?_)))
  have hK3:=K3.size
  have hu5:=u5.size
  have K5:Kb h1.size h2 h5:=K3.trans ⟨by omega,fun q hq _=>(u5.ne q (by omega)).trans (e4.same q hq)⟩
  have X5:Rx h5 h1.size s e:=(X3.ext e4).upd u5 (by omega)
  refine Kx (KEm X5 ?_)
  refine Jt (c:=false) (fun hh=>absurd (of_decide_eq_true hh) (by omega)) ?_
  rw [Bool.and_false]
  exact iteF rfl (endX e h5 _ hP K5 X5)
end Gx
namespace Gx
open Go
set_option linter.unusedVariables false
set_option linter.unusedSimpArgs false
set_option maxRecDepth 100000
theorem KBs {c:UInt8} {h:Heap} {Q:Bool→Heap→Prop} (H:Q (KCp c) h):(Jz (c.toNat:Int)).wp h Q:=by
 unfold Jz
 refine M.loop_inv (fun (t:Int) hh=>hh=h∧∃ i:Nat,t=(i:Int)∧i≤11∧(KDo.drop i).contains c=KCp c) (fun t _=>((11:Int) - t).toNat) ?_ ⟨rfl,0,rfl,Nat.zero_le _,rfl⟩
 rintro t hh ⟨rfl,i,rfl,hi,hm⟩ self hself
 unfold Ve
 refine KX (fun hc=>?_) (fun hc=>KC ?_)
 ·have hic:i < KDo.length:=by have:=of_decide_eq_true hc; show i < 11; omega
  refine UX (l:=KDo) rfl hic ?_
  rw [List.drop_eq_getElem_cons hic,List.contains_cons] at hm
  generalize KDo[i]=d at hm ⊢
  rw [eqI]
  refine KX (fun h1=>KC ?_) (fun h1=>?_)
  ·have:d=c:=UInt8.toNat_inj.1 (by have:=of_decide_eq_true h1; omega)
   subst this
   rw [beq_self_eq_true,Bool.true_or] at hm
   rw [hm]; exact H
  ·have hne:(c == d)=false:=by
    cases h2:(c == d) with
    | false=>rfl
    | true =>
     have:=eq_of_beq h2
     subst this
     exact absurd rfl (of_decide_eq_false h1)
   rw [hne,Bool.false_or] at hm
   have hi11:i < 11:=hic
   rw [w64 (by omega) (by omega)]
   exact hself _ _ ⟨rfl,i+1,by push_cast; rfl,hic,hm⟩ (by omega)
 ·have:i=11:=by have:=of_decide_eq_false hc; omega
  subst this
  have hm:false=KCp c:=hm
  rw [hm]; exact H
theorem zr {c:UInt8} {h:Heap} {Q:Bool→Heap→Prop} (H:Q (letB c) h):(Ja (c.toNat:Int)).wp h Q:=by
 unfold Ja
 refine Jt (c:=decide ((c.toNat:Int)≤122)) (fun _ Q' hq=>KC hq) ?_
 refine or_b (c:=decide ((c.toNat:Int) ≥ 65) && decide ((c.toNat:Int)≤90)) (fun _ Q' hq=>Jt (c:=decide ((c.toNat:Int)≤90)) (fun _ Q'' hq2=>KC hq2) (KC hq)) ?_
 refine or_b (c:=decide ((c.toNat:Int)=95)) (fun _ Q' hq=>KC (by rw [eqI]; exact hq)) (KC ?_)
 have:(decide ((c.toNat:Int) ≥ 97) && decide ((c.toNat:Int)≤122) || (decide ((c.toNat:Int) ≥ 65) && decide ((c.toNat:Int)≤90)) || decide ((c.toNat:Int)=95))=letB c:=by
  unfold letB isLt
  rw [← Bool.decide_and,← Bool.decide_and,← Bool.decide_or,← Bool.decide_or]
  exact decide_eq_decide.2 (by omega)
 rw [this]
 exact H
theorem KEn {c:UInt8} {h:Heap} {Q:Bool→Heap→Prop} (H:Q (isDg c.toNat) h):(US (c.toNat:Int)).wp h Q:=by
 unfold US
 refine Jt (c:=decide ((c.toNat:Int)≤57)) (fun _ Q' hq=>KC hq) (KC ?_)
 have:(decide ((c.toNat:Int) ≥ 48) && decide ((c.toNat:Int)≤57))=isDg c.toNat:=by
  unfold isDg
  rw [← Bool.decide_and]
  exact decide_eq_decide.2 (by omega)
 rw [this]
 exact H
theorem KBt {s:List UInt8} {h:Heap} {Q:Int→Heap→Prop} (hs:s.length≤1099511627776) (H:Q (JX s:Int) h):(J0 (bs s)).wp h Q:=by
 unfold J0
 refine M.loop_inv (fun (z:Int) hh=>∃ i:Nat,z=(i:Int)∧hh=h∧i≤s.length∧JX s=i+JX (s.drop i)) (fun z _=>((s.length:Int) - z).toNat) ?_ ⟨0,rfl,rfl,Nat.zero_le _,by rw [List.drop_zero]; omega⟩
 rintro z hh ⟨i,rfl,rfl,hi,hw⟩ self hself
 unfold Vf
 rw [Ko]
 by_cases hlt:i < s.length
 ·refine Vk (decide_eq_true (by omega)) (Kf (UX (i:=i) rfl hlt (Kf (KJ (zr ?_)))))
  rw [List.drop_eq_getElem_cons hlt,N2] at hw
  refine Kf (or_b (c:=isDg (s[i]).toNat) (fun _ Q' hq=>UX (i:=i) rfl hlt (KJ (KEn (KC hq)))) (Kw ?_))
  rw [show (letB s[i] || isDg (s[i]).toNat)=KEe s[i] from rfl]
  refine KX (fun hc=>?_) (fun hc=>KC ?_)
  ·rw [if_pos hc] at hw
   rw [w64 (by omega) (by omega)]
   exact hself _ _ ⟨i+1,by simp,rfl,hlt,by omega⟩ (by omega)
  ·rw [if_neg (by rw [hc]; decide)] at hw
   rw [show (i:Int)=(JX s:Int) by omega]
   exact H
 ·refine Wp (decide_eq_false (by omega)) (Kw (iteF rfl (KC ?_)))
  have hi':i=s.length:=by omega
  subst hi'
  rw [List.drop_length] at hw
  have hw:JX s=s.length:=hw
  rw [show (s.length:Int)=(JX s:Int) by omega]
  exact H
def KKX:List UInt8→Nat
 | []=>0
 | c::r=>if c=39 then VA (c::r) else 0
theorem KD6 {s:List UInt8} {h:Heap} {Q:Int→Heap→Prop} (hs:s.length≤1099511627776) (H:Q (KKX s:Int) h):(J9 (bs s)).wp h Q:=by
 unfold J9
 rw [Ko,eqI]
 cases s with
 | nil=>exact Vk (decide_eq_true rfl) (Kw (iteT rfl (KC H)))
 | cons c r =>
  refine Wp (decide_eq_false (by simp only [List.length_cons]; omega)) (Kf (UX (i:=0) rfl (by simp) (Kw ?_)))
  rw [show (c::r)[0]=c from rfl,bne,u8_c (d:=39) (n:=39) rfl]
  rw [show KKX (c::r)=if c=39 then VA (c::r) else 0 from rfl] at H
  refine KX (fun h1=>KC ?_) (fun h1=>?_)
  ·rw [if_neg (fun e=>by rw [decide_eq_true e] at h1; cases h1)] at H
   exact H
  rw [if_pos (Decidable.byContradiction (fun e=>by rw [decide_eq_false e] at h1; cases h1))] at H
  generalize c::r=s at hs H ⊢
  refine M.loop_inv (fun (z:Int) hh=>∃ i f:Nat,z=(i:Int)∧hh=h∧i≤s.length+2∧s.length≤f+i∧VA s=Xa s (f+1) i) (fun z _=>((s.length:Int)+3 - z).toNat) ?_ ⟨1,s.length,rfl,rfl,by omega,by omega,rfl⟩
  rintro z hh ⟨i,f,rfl,rfl,hi,hf,hc⟩ self hself
  unfold U5
  dsimp only
  rw [Ko]
  rw [Xa] at hc
  refine KX (fun hlt=>?_) (fun hge=>KC ?_)
  ·have hlt:i < s.length:=by have:=of_decide_eq_true hlt; omega
   rw [if_pos hlt,KHL hlt] at hc
   obtain ⟨f,rfl⟩:∃ g,f=g+1:=⟨f - 1,by omega⟩
   refine UX (i:=i) rfl hlt ?_
   rw [u8_c (d:=92) (n:=92) rfl]
   unfold J8
   refine KX (fun h1=>?_) (fun h1=>?_)
   ·rw [if_pos (of_decide_eq_true h1)] at hc
    rw [show IntKind.wrap .i64 ((i:Int)+1)=(i:Int)+1 from w64 (by omega) (by omega),w64 (by omega) (by omega)]
    exact hself _ _ ⟨i+2,f,by push_cast; omega,rfl,by omega,by omega,hc⟩ (by omega)
   refine UX (i:=i) rfl hlt ?_
   rw [u8_c (d:=39) (n:=39) rfl]
   refine KX (fun h2=>KC ?_) (fun h2=>?_)
   ·rw [if_neg (of_decide_eq_false h1),if_pos (of_decide_eq_true h2)] at hc
    rw [w64 (by omega) (by omega),show (i:Int)+1=(VA s:Int) by rw [hc]; rfl]
    exact H
   ·rw [if_neg (of_decide_eq_false h1),if_neg (of_decide_eq_false h2)] at hc
    rw [w64 (by omega) (by omega)]
    exact hself _ _ ⟨i+1,f,by simp,rfl,by omega,by omega,hc⟩ (by omega)
  ·rw [if_neg (by have:=of_decide_eq_false hge; omega)] at hc
   rw [hc] at H
   exact H
theorem KGE:(ZS []).2.2≠0:=by decide +kernel
theorem KEo:(ZS [45]).2.2≠0∨(ZS [45]).1.k≠1:=by decide +kernel
theorem KD7 {k:Int} {s:List UInt8} {t:Vl→Tkn}:oneV k s 0 t=(tkn0,0):=by
 unfold oneV oneW
 rw [List.take_zero,if_pos (.inl KGE)]
theorem KBu {s:List UInt8} {b z:Nat} {h h0:Heap} {Q:Array Value × Int→Heap→Prop} (hz:z≤s.length) (hz1:z≤1) (hs:s.length≤1099511627776) (E:Ext h0 h) (hb0:h0.size≤b) (g:h[b]?=some (.cells tkn0.cells KM (0,0)))
  (H:∀ h' o,o=(if JX (s.drop z)=0 then (tkn0,0) else oneV 1 s (z+JX (s.drop z)) (fun v=>⟨2,[],v.n,0⟩))→Ext h0 h'→Q (o.1.cells,(o.2:Int)) h'):(UC (bs s) ⟨b,0,none⟩ (z:Int)).wp h Q:=by
 unfold UC
 have hw:=XI (s.drop z)
 rw [List.length_drop] at hw
 refine KA0 (a:=z) (b:=s.length) rfl (by rw [Ko]) hz (Nat.le_refl _) ?_
 rw [List.take_of_length_le (by rw [List.length_drop]; omega)]
 refine KJ (KBt (by rw [List.length_drop]; omega) ?_)
 generalize JX (s.drop z)=k at hw H ⊢
 rw [w64 (by omega) (by omega)]
 refine KA0 (a:=0) (b:=z+k) rfl (by push_cast; rfl) (Nat.zero_le _) (by omega) ?_
 rw [List.drop_zero,Nat.sub_zero]
 refine KJ (KBB (by rw [List.length_take]; omega) (fun h2 c e2 V2=>?_))
 dsimp only
 refine Zo (fun h3 e3 s3 g3=>JY V2.size (stR g3 (by rw [V2.size]; exact Nat.le_refl 4) V2.to.one (fun h4 u4 g4=>?_)))
 rw [ZH (cs:=vz) (vs:=c.toList) (by rw [Array.length_toList,V2.size]; rfl),Array.toArray_toList] at g4
 have e4:Ext h h4:=(e2.trans e3).upd u4 e2.size
 obtain ⟨v,hv⟩:∃ v,v=(ZS (s.take (z+k))).1:=⟨_,rfl⟩
 obtain ⟨er,her⟩:∃ er,er=(ZS (s.take (z+k))).2.2:=⟨_,rfl⟩
 unfold oneV at H
 rw [← hv] at V2 H
 rw [← her] at H ⊢
 obtain ⟨kk,nn,ss,l⟩:=v
 dsimp only [Vl.k,Vl.n,Vl.s] at H
 unfold oneW at H
 obtain ⟨x,rfl,_⟩:=Zp.eq.1 V2
 refine or_b (c:=decide (er≠0)) (fun _ Q' hq=>KC (by rw [bne,eqI,← decide_not]; exact hq)) ?_
 refine or_b (c:=decide (kk≠1)) (fun _ Q' hq=>Zl (n:=kk) (by rw [Kp,KU g4]; rfl) (KC (by rw [bne,eqI,← decide_not]; exact hq))) ?_
 rw [eqI,← Bool.decide_or,← Bool.decide_or]
 have gb:=e4.blk g
 have E4:=E.trans e4
 refine KX (fun hc=>?_) (fun hc=>?_)
 ·have hc:=of_decide_eq_true hc
  refine YO (t0:=tkn0) (t:=tkn0) gb (fun h5 u5=>KC (H h5 (tkn0,0) ?_ (E4.upd u5 hb0)))
  split
  ·rfl
  ·rename_i hk
   rw [if_pos (by rcases hc with (h1 | h2) | h3; exact absurd (by omega) hk; exact .inl h2; exact .inr h3)]
 ·have hc:=of_decide_eq_false hc
  refine Zl (n:=nn) (by rw [Kp,KU g4]; rfl) ?_
  rw [show (z:Int)+(k:Int)=((z+k:Nat):Int) by push_cast; rfl]
  refine YO (t0:=tkn0) (t:=⟨2,[],nn,0⟩) gb (fun h5 u5=>KC (H h5 (⟨2,[],nn,0⟩,z+k) ?_ (E4.upd u5 hb0)))
  rw [if_neg (fun e=>hc (.inl (.inl (by omega)))),if_neg (fun e=>hc (e.elim (fun e=>.inl (.inr e)) .inr))]
theorem KHq {s:List UInt8} {h:Heap} {Q:Array Value × Int→Heap→Prop} (h0:s≠[]) (hs:s.length≤1099511627776)
  (H:∀ h',Ext h h'→Q ((oneP s).1.cells,((oneP s).2:Int)) h'):(U6 (bs s)).wp h Q:=by
 obtain ⟨c,r,rfl⟩:=List.exists_cons_of_ne_nil h0
 unfold U6
 refine Zo (fun h1 e1 s1 g1=>?_)
 have hl:=XI (c::r)
 refine UX (i:=0) rfl (by simp) ?_
 rw [show (c::r)[0]=c from rfl]
 refine KJ (KBs ?_)
 rw [qy] at H
 refine KX (fun hm=>?_) (fun hm=>?_)
 ·rw [if_pos hm] at H
  refine KA0 (a:=0) (b:=1) rfl rfl (Nat.zero_le _) (by simp) ?_
  exact YO (t0:=tkn0) (t:=⟨4,[c],0,0⟩) g1 (fun h5 u5=>KC (H _ (e1.upd u5 (Nat.le_refl _))))
 rw [if_neg (by rw [hm]; decide)] at H
 refine UX (i:=0) rfl (by simp) ?_
 rw [show (c::r)[0]=c from rfl]
 refine KJ (zr ?_)
 refine KX (fun hlt=>?_) (fun hlt=>?_)
 ·rw [if_pos hlt] at H
  refine KJ (KBt hs ?_)
  refine KA0 (a:=0) (b:=JX (c::r)) rfl rfl (Nat.zero_le _) hl ?_
  rw [List.drop_zero,Nat.sub_zero]
  exact YO (t0:=tkn0) (t:=⟨1,(c::r).take (JX (c::r)),0,0⟩) g1 (fun h5 u5=>KC (H _ (e1.upd u5 (Nat.le_refl _))))
 rw [if_neg (by rw [hlt]; decide)] at H
 refine KJ (KD6 hs ?_)
 have hq:KKX (c::r)=if c=39 then VA (c::r) else 0:=rfl
 have hcl:VA (c::r)≤(c::r).length:=XJ _ _ _
 refine KX (fun hpos=>?_) (fun hpos=>?_)
 ·have hpos:=of_decide_eq_true hpos
  have h39:c=39:=Decidable.byContradiction (fun e=>by rw [hq,if_neg e] at hpos; omega)
  rw [if_pos h39] at H hq
  rw [hq]
  refine KA0 (a:=0) (b:=VA (c::r)) rfl rfl (Nat.zero_le _) hcl ?_
  rw [List.drop_zero,Nat.sub_zero]
  generalize VA (c::r)=n at hcl H ⊢
  refine KJ (KBB (by rw [List.length_take]; omega) (fun h2 c2 e2 V2=>?_))
  dsimp only
  refine Zo (fun h3 e3 s3 g3=>JY V2.size (stR g3 (by rw [V2.size]; exact Nat.le_refl 4) V2.to.one (fun h4 u4 g4=>?_)))
  rw [ZH (cs:=vz) (vs:=c2.toList) (by rw [Array.length_toList,V2.size]; rfl),Array.toArray_toList] at g4
  have e4:Ext h1 h4:=(e2.trans e3).upd u4 e2.size
  obtain ⟨v,hv⟩:∃ v,v=(ZS ((c::r).take n)).1:=⟨_,rfl⟩
  obtain ⟨er,her⟩:∃ er,er=(ZS ((c::r).take n)).2.2:=⟨_,rfl⟩
  unfold oneV at H
  rw [← hv] at V2 H
  rw [← her] at H ⊢
  obtain ⟨k,nn,ss,l⟩:=v
  dsimp only [Vl.k,Vl.n,Vl.s] at H
  unfold oneW at H
  obtain ⟨x,rfl,_⟩:=Zp.eq.1 V2
  refine or_b (c:=decide (k≠2)) (fun _ Q' hq=>Zl (n:=k) (by rw [Kp,KU g4]; rfl) (KC (by rw [bne,eqI,← decide_not]; exact hq))) ?_
  rw [show (er != 0 || decide (k≠2))=decide (er≠0∨k≠2) by rw [bne,eqI,← decide_not,← Bool.decide_or]]
  have gb:=e4.blk g1
  have E4:=e1.trans e4
  refine KX (fun hc=>?_) (fun hc=>?_)
  ·rw [if_pos (of_decide_eq_true hc)] at H
   exact YO (t0:=tkn0) (t:=tkn0) gb (fun h5 u5=>KC (H _ (E4.upd u5 (Nat.le_refl _))))
  ·rw [if_neg (of_decide_eq_false hc)] at H
   refine Vp (n:=bs ss) (by rw [Kp,KU g4]; rfl) ?_
   exact YO (t0:=tkn0) (t:=⟨3,ss,0,0⟩) gb (fun h5 u5=>KC (H _ (E4.upd u5 (Nat.le_refl _))))
 ·have hpos:=of_decide_eq_false hpos
  refine UX (i:=0) rfl (by simp) ?_
  rw [show (c::r)[0]=c from rfl,u8_c (d:=45) (n:=45) rfl]
  refine KX (fun h45=>?_) (fun h45=>?_)
  ·have h45:=of_decide_eq_true h45
   subst h45
   rw [if_neg (by decide),if_pos rfl] at H
   refine KBu (s:=45::r) (z:=1) (by simp) (Nat.le_refl _) hs e1 (Nat.le_refl _) g1 (fun h' o ho E'=>?_)
   rw [show (45::r).drop 1=r from rfl] at ho
   have:o=oneV 1 (45::r) (1+JX r) (fun v=>⟨2,[],v.n,0⟩):=by
    rw [ho]
    split
    ·rename_i h0
     rw [h0]
     unfold oneV oneW
     rw [show (45::r).take (1+0)=[45] from rfl,if_pos KEo]
    ·rfl
   rw [this]
   exact H _ E'
  ·have h45:=of_decide_eq_false h45
   refine KBu (s:=c::r) (z:=0) (Nat.zero_le _) (by omega) hs e1 (Nat.le_refl _) g1 (fun h' o ho E'=>?_)
   rw [List.drop_zero,Nat.zero_add] at ho
   by_cases h39:c=39
   ·subst h39
    rw [if_pos rfl] at H
    have hcl0:VA (39::r)=0:=by rw [hq,if_pos rfl] at hpos; omega
    rw [hcl0,KD7] at H
    have hw0:JX (39::r)=0:=by rw [N2,if_neg (by decide)]
    rw [if_pos hw0] at ho
    rw [ho]
    exact H _ E'
   ·rw [if_neg h39,if_neg h45] at H
    have:o=oneV 1 (c::r) (JX (c::r)) (fun v=>⟨2,[],v.n,0⟩):=by
     rw [ho]
     split
     ·rename_i h0
      rw [h0,KD7]
     ·rfl
    rw [this]
    exact H _ E'
end Gx
namespace Gx
open Go
set_option linter.unusedVariables false
set_option linter.unusedSimpArgs false
set_option maxRecDepth 100000
theorem KC0 {t:Tkn} {h:Heap} {Q:Int→Heap→Prop} (H:∀ h',Ext h h'→Q (tokE t) h'):(UR t.cells).wp h Q:=by
 unfold UR
 refine Zo (fun h1 e1 s1 g1=>?_)
 obtain ⟨k,s,n,a⟩:=t
 have cA:KV h1 ((⟨h.size,0,none⟩:Addr).add 3)=some (.int .i64 a):=by rw [Kp,KU g1]; rfl
 have cN:KV h1 ((⟨h.size,0,none⟩:Addr).add 2)=some (.int .i64 n):=by rw [Kp,KU g1]; rfl
 have cS:KV h1 ((⟨h.size,0,none⟩:Addr).add 1)=some (.string (bs s)):=by rw [Kp,KU g1]; rfl
 have cK:KV h1 ((⟨h.size,0,none⟩:Addr).add 0)=some (.int .i64 k):=by rw [add_zero,KU g1]; rfl
 have fin:∀ {b:Bool},tokB ⟨k,s,n,a⟩=(b && !decide (a < 0))→(ZR ⟨h.size,0,none⟩ b).wp h1 Q:=fun {b} hb=>by
  unfold ZR
  have:=H _ e1
  unfold tokE at this
  rw [hb] at this
  refine or_b (c:=decide (a < 0)) (fun _ Q' hq=>Zl cA (KC hq)) ?_
  refine KX (fun hc=>KC ?_) (fun hc=>KC ?_)
  ·rw [if_neg (by revert hc; cases b <;> cases decide (a < 0) <;> decide)] at this
   exact this
  ·rw [if_pos (by revert hc; cases b <;> cases decide (a < 0) <;> decide)] at this
   exact this
 have hT:tokB ⟨k,s,n,a⟩=(!(decide (a < 0) || (decide (n≠0) && decide (k≠2))) && (if k=1 then KEd s else if k=2 then decide (s=[]) else if k=3 then decide (s.length≤128) else if k=4 then KDq s else false)):=rfl
 have hn:decide (n≠0)=!decide (n=0):=decide_not
 refine Zl cK ?_
 rw [eqI,eqI,eqI,eqI]
 refine KX (fun k1=>?_) (fun k1=>?_)
 ·have k1:=of_decide_eq_true k1
  subst k1
  rw [if_pos rfl,hn] at hT
  refine Vp cS (KJ (KF8 ?_))
  refine Jt (c:=decide (n=0)) (fun _ Q' hq=>Zl cN (KC (by rw [eqI]; exact hq))) (fin ?_)
  rw [hT]
  cases decide (a < 0) <;> cases decide (n=0) <;> cases KEd s <;> rfl
 rw [if_neg (of_decide_eq_false k1)] at hT
 refine KX (fun k2=>?_) (fun k2=>?_)
 ·have k2:=of_decide_eq_true k2
  subst k2
  rw [if_pos rfl] at hT
  refine Vp cS ?_
  rw [sEq0]
  refine fin ?_
  rw [hT]
  cases decide (a < 0) <;> cases decide (n≠0) <;> cases decide (s=[]) <;> rfl
 have hk2:decide (k≠2)=true:=by rw [decide_not,k2]; rfl
 rw [if_neg (of_decide_eq_false k2),hk2,Bool.and_true,hn] at hT
 refine KX (fun k3=>?_) (fun k3=>?_)
 ·rw [if_pos (of_decide_eq_true k3)] at hT
  refine Vp cS ?_
  refine Jt (c:=decide (n=0)) (fun _ Q' hq=>Zl cN (KC (by rw [eqI]; exact hq))) (fin ?_)
  rw [hT,Ko,show decide ((s.length:Int)≤128)=decide (s.length≤128) from decide_eq_decide.2 (by omega)]
  cases decide (a < 0) <;> cases decide (n=0) <;> cases decide (s.length≤128) <;> rfl
 rw [if_neg (of_decide_eq_false k3)] at hT
 refine KX (fun k4=>?_) (fun k4=>?_)
 ·rw [if_pos (of_decide_eq_true k4)] at hT
  refine Vp cS ?_
  rw [Ko]
  have fin2:tokB ⟨k,s,n,a⟩=(KDq s && decide (n=0) && !decide (a < 0)):=by
   rw [hT]
   cases decide (a < 0) <;> cases decide (n=0) <;> cases KDq s <;> rfl
  refine Jt (c:=KDq s) (fun hl Q' hq=>?_) ?_
  ·rw [eqI] at hl
   have hl:=of_decide_eq_true hl
   match s,hl,cS,hq with
   | [c],_,cS,hq=>exact Vp cS (UX (i:=0) rfl (by simp) (KJ (KBs (KC hq))))
   | [],hl,_,_=>cases hl
   | _::_::_,hl,_,_=>simp only [List.length_cons] at hl; omega
  ·have hm:((s.length:Int) == 1 && KDq s)=KDq s:=by
    rw [eqI]
    match s with
    | []=>rfl
    | [c]=>exact Bool.true_and _
    | _::_::_=>exact Bool.and_false _
   rw [hm]
   exact Jt (c:=decide (n=0)) (fun _ Q' hq=>Zl cN (KC (by rw [eqI]; exact hq))) (fin fin2)
 ·rw [if_neg (of_decide_eq_false k4)] at hT
  refine fin ?_
  rw [hT,Bool.and_false]; rfl
def zt (s:List UInt8) (m:Nat):List Tkn × Nat:=((allT s 0).1.take m,match (allT s 0).1[m]? with | some t=>t.a.toNat | none=>(allT s 0).2)
theorem KEp {s:List UInt8} {m:Nat} {h:Heap} {Q:Sl × Int→Heap→Prop} (hs:s.length≤1099511627776)
  (H:∀ h' r,Ext h h'→Gw h.size h' r 4 (VW (tks (zt s m).1))→Q (r,((zt s m).2:Int)) h'):(UV (bs s) (m:Int)).wp h Q:=by
 unfold UV
 refine M.loop_inv (fun (x:Sl × Int) hh=>∃ i a':Nat,x.2=(a':Int)∧a'≤s.length∧i≤(allT s 0).1.length∧i≤a'∧i≤m∧(allT s 0).1.drop i=(allT s a').1∧(allT s 0).2=(allT s a').2∧Ext h hh∧Gw h.size hh x.1 4 (VW (tks ((allT s 0).1.take i)))) (fun x _=>((s.length:Int) - x.2).toNat) ?_
  ⟨0,0,rfl,Nat.zero_le _,Nat.zero_le _,Nat.le_refl _,Nat.zero_le _,rfl,rfl,Ext.refl _,Gw.nil _ _ _⟩
 rintro ⟨r,t⟩ hh ⟨i,a',ht,ha',hi,hia,him,hd,h2e,E,G⟩ self hself
 have ht:t=(a':Int):=ht
 subst ht
 have G:Gw h.size hh r 4 (VW (tks ((allT s 0).1.take i))):=G
 have hrl:=G.tkR.1
 rw [List.length_take,Nat.min_eq_left hi] at hrl
 unfold VR
 dsimp only
 refine M.loop_inv (fun (z:Int) h'=>∃ p:Nat,z=(p:Int)∧h'=hh∧a'≤p∧p≤s.length∧JN s a'=JN s p) (fun z _=>((s.length:Int) - z).toNat) ?_ ⟨a',rfl,rfl,Nat.le_refl _,ha',rfl⟩
 rintro z h' ⟨p,rfl,rfl,hap,hp,hsk⟩ self2 hself2
 unfold VQ
 dsimp only
 rw [Ko]
 have hcond:∀ {β:Type} {Q':β→Heap→Prop} {f:Bool→M β},(f (decide (p < s.length∧JN s p≠p))).wp h' Q'→((M.ite (decide ((p:Int) < (s.length:Int))) (ixS (bs s) (p:Int)>>=fun x17=>M.ite (x17 == 32) (M.pure true) (ixS (bs s) (p:Int)>>=fun x22=>M.pure (x22 == 10))>>=fun x24=>M.pure x24) (M.pure false))>>=f).wp h' Q':=fun {β Q' f} hf=>by
  by_cases hlt:p < s.length
  ·refine Vk (decide_eq_true (by omega)) (Kf (UX (i:=p) rfl hlt ?_))
   refine Kf (or_b (c:=decide (s[p]=10)) (fun _ Q'' hq=>UX (i:=p) rfl hlt (KC (by rw [u8_c (d:=10) (n:=10) rfl]; exact hq))) (Kw ?_))
   rw [u8_c (d:=32) (n:=32) rfl,← Bool.decide_or]
   have:decide (s[p]=32∨s[p]=10)=decide (p < s.length∧JN s p≠p):=by
    refine decide_eq_decide.2 ⟨fun hb=>⟨hlt,fun e=>?_⟩,fun hb=>Decidable.byContradiction (fun e=>?_)⟩
    ·rw [GS hlt,if_pos (show Wg s[p]=true from decide_eq_true hb)] at e
     have:=(q5 (s:=s) (a:=p+1) hlt).1
     omega
    ·exact hb.2 (by rw [GS hlt,if_neg (show ¬ Wg s[p]=true from fun hb=>e (of_decide_eq_true hb))])
   rw [this]; exact hf
  ·refine Wp (decide_eq_false (by omega)) (Kw ?_)
   rw [decide_eq_false (fun hb=>hlt hb.1)] at hf
   exact hf
 refine hcond (KX (fun hc=>?_) (fun hc=>?_))
 ·obtain ⟨hlt,hne⟩:=of_decide_eq_true hc
  have hst:=GS hlt
  have hb:Wg s[p]=true:=Decidable.byContradiction (fun e=>hne (by rw [hst,if_neg e]))
  rw [if_pos hb] at hst
  rw [w64 (by omega) (by omega)]
  exact hself2 _ _ ⟨p+1,by push_cast; rfl,rfl,by omega,hlt,hsk.trans hst⟩ (by omega)
 have hsp:JN s a'=p:=by
  rw [hsk]
  rcases Nat.lt_or_ge p s.length with hlt | hge
  ·exact Decidable.byContradiction (fun e=>of_decide_eq_false hc ⟨hlt,e⟩)
  ·exact KDr hge
 have stop:(XK s a'=none∨i=m)→Q (r,(p:Int)) h':=fun hst=>by
  have hf:zt s m=((allT s 0).1.take i,p):=by
   unfold zt
   cases hn:XK s a' with
   | none =>
    rw [XL hn] at hd h2e
    have hlen:(allT s 0).1.length=i:=by
     have:=List.drop_eq_nil_iff.1 hd
     omega
    rw [List.getElem?_eq_none (by omega),List.take_of_length_le (by omega),List.take_of_length_le (by omega),h2e,hsp]
   | some q =>
    obtain ⟨t,a2⟩:=q
    rcases hst with hst | rfl
    ·rw [hn] at hst; cases hst
    ·rw [XM ha' hn] at hd
     have h0:(allT s 0).1[i]?=some t:=by
      have:=congrArg (fun l=>l[0]?) hd
      simpa using this
     rw [h0]
     obtain ⟨p2,hp2,_⟩:=KA6 ha' hn
     have:t.a=(p:Int):=by
      unfold XK at hn
      rw [hsp] at hn
      split at hn
      ·split at hn
       ·cases hn
       ·cases hn; rfl
      ·cases hn
     dsimp only
     rw [this]; rfl
  have:=H h' r E (by rw [hf]; exact G)
  rw [hf] at this
  exact this
 refine or_b (c:=decide (r.len=m)) (fun _ Q' hq=>KC (by rw [eqI,show decide ((r.len:Int)=(m:Int))=decide (r.len=m) from decide_eq_decide.2 (by omega)]; exact hq)) ?_
 rw [eqI,show decide ((p:Int)=(s.length:Int))=decide (p=s.length) from decide_eq_decide.2 (by omega),← Bool.decide_or]
 refine KX (fun hc2=>KC (stop ?_)) (fun hc2=>?_)
 ·rcases of_decide_eq_true hc2 with he | he
  ·left
   unfold XK
   rw [hsp,if_neg (by omega)]
  ·right; omega
 have hc2:=of_decide_eq_false hc2
 have hlt:p < s.length:=by
  rcases Nat.lt_or_ge p s.length with h | h
  ·exact h
  ·exact absurd (.inl (by omega)) hc2
 refine KA0 (a:=p) (b:=s.length) rfl rfl hp (Nat.le_refl _) ?_
 rw [List.take_of_length_le (by rw [List.length_drop]; omega)]
 have hne:s.drop p≠[]:=fun e=>by have:=congrArg List.length e; rw [List.length_drop] at this; simp at this; omega
 have hol:=KCr (s.drop p)
 rw [List.length_drop] at hol
 refine KJ (KHq hne (by rw [List.length_drop]; omega) (fun h2 e2=>Zo (fun h3 e3 s3 g3=>JY rfl (stR g3 (Nat.le_refl 4) (Yn _) (fun h4 u4 g4=>?_)))))
 have g4:h4[h2.size]?=some (.cells (oneP (s.drop p)).1.cells KM (0,0)):=by
  have e:lay tkn0.cells 0 (oneP (s.drop p)).1.cells.toList=(oneP (s.drop p)).1.cells:=by rw [ZH (cs:=tkn0.cells) (vs:=(oneP (s.drop p)).1.cells.toList) rfl,Array.toArray_toList]
  rw [← e]; exact g4
 have E4:Ext h' h4:=(e2.trans e3).upd u4 e2.size
 refine qC (x:=.int .i64 (oneP (s.drop p)).1.a) (by rw [Kp,KU g4]; rfl) (by rw [Kp]; exact ZX g4) rfl ?_
 rw [Kp]
 have u5:=Upd.hset h4 h2.size (0+3) (.int .i64 (p:Int))
 have g5:(hset h4 ⟨h2.size,0+3,none⟩ (.int .i64 (p:Int)))[h2.size]?=some (.cells (Tkn.cells { (oneP (s.drop p)).1 with a:=(p:Int) }) KM (0,0)):=by rw [VJ g4]; rfl
 generalize hset h4 ⟨h2.size,0+3,none⟩ (.int .i64 (p:Int))=h5 at u5 g5 ⊢
 have E5:Ext h' h5:=E4.upd u5 e2.size
 have hnx:XK s a'=if (oneP (s.drop p)).2=0∨tokB { (oneP (s.drop p)).1 with a:=(p:Int) }=false then none else some ({ (oneP (s.drop p)).1 with a:=(p:Int) },p+(oneP (s.drop p)).2):=by
  unfold XK
  rw [hsp,if_pos hlt]
 generalize ht:({ (oneP (s.drop p)).1 with a:=(p:Int) }:Tkn)=t at g5 hnx
 generalize (oneP (s.drop p)).2=k at hnx hol
 have go:∀ {h6:Heap} {c:Bool},Ext h5 h6→c=decide (k=0∨tokB t=false)→(M.ite c (do
     M.pure (r,(p:Int))
     ) (do
     let Xx39←ldG 4 ⟨h2.size,0,none⟩
     let y_41←GV 4 1 (#[.int .i64 0,.string ByteArray.empty,.int .i64 0,.int .i64 0]:Array Value) [(0,.agg Xx39)]
     let Xx40←bdL KM 1 y_41
     let Xx42←apL KM 4 40 (#[.int .i64 0,.string ByteArray.empty,.int .i64 0,.int .i64 0]:Array Value) r Xx40
     self (Xx42,IntKind.wrap .i64 ((p:Int)+(k:Int)))
     ):M (Sl × Int)).wp h6 Q:=fun {h6 c} e6 hcc=>by
  have E6:=E5.trans e6
  refine KX (fun h0=>KC ?_) (fun h0=>?_)
  ·rw [if_pos (of_decide_eq_true (hcc.symm.trans h0))] at hnx
   have H':∀ h'' r',Ext h h''→Gw h.size h'' r' 4 (VW (tks (zt s m).1))→Q (r',((zt s m).2:Int)) h'':=H
   have hf:zt s m=((allT s 0).1.take i,p):=by
    unfold zt
    rw [XL hnx] at hd h2e
    have hlen:(allT s 0).1.length=i:=by
     have:=List.drop_eq_nil_iff.1 hd
     omega
    rw [List.getElem?_eq_none (by omega),List.take_of_length_le (by omega),List.take_of_length_le (by omega),h2e,hsp]
   have:=H h6 r (E.trans E6) (by rw [hf]; exact G.ext E6)
   rw [hf] at this
   exact this
  ·have hno:=of_decide_eq_false (hcc.symm.trans h0)
   rw [if_neg hno] at hnx
   have hk0:k≠0:=fun e=>hno (.inl e)
   rw [XM ha' hnx] at hd h2e
   have hlt2:i < (allT s 0).1.length:=by
    rcases Nat.lt_or_ge i (allT s 0).1.length with h | h
    ·exact h
    ·rw [List.drop_eq_nil_iff.2 h] at hd; cases hd
   rw [List.drop_eq_getElem_cons hlt2] at hd
   obtain ⟨hd1,hd2⟩:=List.cons.inj hd
   have G6:=G.ext E6
   have hz6:=(E.trans E6).size
   refine KEk G6 (by omega) (by rw [List.length_take]; omega) (e6.blk g5) (fun h7 r7 G7 hs7 same7=>?_)
   rw [w64 (by omega) (by omega)]
   refine hself (_,_) _ ⟨i+1,p+k,by push_cast; rfl,by omega,hlt2,by omega,?_,hd2,h2e,⟨by omega,fun j hj=>(same7 j (by omega) (fun ho=>by have:=(G6.lt ho).2; omega)).trans ((E.trans E6).same j hj)⟩,?_⟩ (by dsimp only; omega)
   ·have:i≠m:=fun e=>hc2 (.inr (by omega))
    omega
   ·rw [List.take_succ_eq_append_getElem hlt2,hd1]
    exact G7
 rw [eqI]
 by_cases hk0:k=0
 ·exact Vk (decide_eq_true (by omega)) (Kw (go (Ext.refl _) (decide_eq_true (.inl hk0)).symm))
 ·refine Wp (decide_eq_false (by omega)) (Kf (ldR g5 rfl (Kf (KJ (KC0 (fun h6 e6=>Kw (go e6 ?_)))))))
  rw [KHN]
  cases tokB t with
  | true=>exact (decide_eq_false (fun h=>h.elim hk0 (fun h=>by cases h))).symm
  | false=>exact (decide_eq_true (.inr rfl)).symm
end Gx
namespace Gx
open Go
set_option linter.unusedVariables false
set_option linter.unusedSimpArgs false
set_option maxRecDepth 100000
theorem KBv {x y:Sl} {ts:List Tkn} {h:Heap} {Q:Bool→Heap→Prop} (hx:TkR h x ts) (hy:TkR h y ts) (hm:ts.length≤1099511627776) (H:Q true h):(K8 x y).wp h Q:=by
 unfold K8
 refine iteF (by rw [hx.1,hy.1]; simp) ?_
 rw [hx.1]
 refine M.loop_inv (fun (t:Int) hh=>∃ i:Nat,t=(i:Int)∧i≤ts.length∧hh=h) (fun t _=>ts.length+1 - t.toNat) ?_ ⟨0,rfl,Nat.zero_le _,rfl⟩
 rintro t hh ⟨i,rfl,hi,rfl⟩ self hself
 unfold Zi
 refine KX (fun hlt=>?_) (fun hge=>KC H)
 have hlt:i < ts.length:=by have:=of_decide_eq_true hlt; omega
 obtain ⟨a,ha,hca⟩:=hx.at hlt
 obtain ⟨b,hb,hcb⟩:=hy.at hlt
 refine KCB (by omega) (by rw [hx.1]; omega) ha (KCB (by omega) (by rw [hy.1]; omega) hb ?_)
 refine Xq rfl hca (Xq rfl hcb ?_)
 refine ⟨true,⟨⟨⟨_,rfl,rfl⟩,⟨_,rfl,rfl⟩,⟨_,rfl,rfl⟩,⟨_,rfl,rfl⟩,trivial⟩,⟨⟨_,rfl,rfl⟩,⟨_,rfl,rfl⟩,⟨_,rfl,rfl⟩,⟨_,rfl,rfl⟩,trivial⟩,by generalize ts[i]=u; simp [cEq,vEq,Tkn.cells]⟩,iteF rfl ?_⟩
 rw [w64 (by omega) (by omega)]
 exact hself _ _ ⟨i+1,by omega,by omega,rfl⟩ (by omega)
theorem KL2:lexP [103,46,86,40,49,41]=([⟨1,[103],0,0⟩,⟨4,[46],0,1⟩,⟨1,[86],0,2⟩,⟨4,[40],0,3⟩,⟨2,[],1,4⟩,⟨4,[41],0,5⟩],6,0):=by kernel_rfl
theorem KD8 {h:Heap} {Q:Bool→Heap→Prop} (he:ErrV h) (H:∀ h',Ext h h'→Q true h'):(VB).wp h Q:=by
 unfold VB
 refine KJ (KIt (s:=[103,46,86,40,49,41]) he (fun h1 r e1 R hc=>?_))
 rw [KL2] at R ⊢
 obtain ⟨a,ha,hca⟩:=R.at (i:=4) (by decide)
 have hrl:r.len=6:=R.1
 refine Vk (by rw [hrl]; rfl) (Kf (KCB (b:=a) (by decide) (by rw [hrl]; decide) ha (Kf (Xq (cs:=Tkn.cells ⟨2,[],1,4⟩) rfl hca ?_))))
 refine Kf ⟨true,⟨⟨⟨_,rfl,rfl⟩,⟨_,rfl,rfl⟩,⟨_,rfl,rfl⟩,⟨_,rfl,rfl⟩,trivial⟩,⟨⟨_,rfl,rfl⟩,⟨_,rfl,rfl⟩,⟨_,rfl,rfl⟩,⟨_,rfl,rfl⟩,trivial⟩,by decide +kernel⟩,?_⟩
 exact Kw (Vk rfl (Kw (Vk rfl (Kw (KC (H _ e1))))))
end Gx
namespace Gx
open Go
set_option linter.unusedVariables false
set_option linter.unusedSimpArgs false
set_option maxRecDepth 100000
theorem Km.wk {S T:Nat→Prop} {h h':Heap} (a:Km S h h') (i:∀ x,S x→T x):Km T h h':=⟨a.size,fun j hj hn=>a.same j hj (fun s=>hn (i j s))⟩
def SeqS (P:Program) (ts:List Tkn) (g:Value) (C:Heap→Prop):Prop :=
 ∀ (l:Nat) (Inv:Nat→Heap→Prop) (Stop:Heap→Prop) (h:Heap),
  (∀ i h1 h2,Inv i h1→Km (fun k=>h.size≤k∧k < h.size+6) h1 h2→Inv i h2)→(∀ h1 h2,Stop h1→Km (fun k=>h.size≤k∧k < h.size+6) h1 h2→Stop h2)→(∀ i h1,Inv i h1→C h1)→Inv 0 h →
  (∀ i (hi:i < ts.length) h1,Inv i h1→h.size+6≤h1.size→(Vu P (fun b:Bool=>.bool b) (yV l) (tokV ts[i])).wp h1 (fun r h2=>h1.size≤h2.size∧(∀ k,h.size≤k→k < h.size+6→h2[k]?=h1[k]?)∧(if r=true then Inv (i+1) h2 else Stop h2))) →
  (Vu P (fun _:Unit=>.tuple #[]) g [yV l]).wp h (fun _ h1=>Inv ts.length h1∨Stop h1)
def tokL (s:List UInt8):List Tkn:=if 16384 < s.length then [] else (allT s 0).1.take 4096
def KFd (c2 c4:Addr):Addr→M Nat:=fun Xx17=>do
  let Xx21←ldI .i64 c4
  let Xx22←M.ite (Xx21 == 0) (do
   M.pure true
   ) (do
   let Xx23←ldV c2
   let Xx24←ldG 4 Xx17
   let Xx25←Vu Go.Proofs.Tryz.prog (fun r:Bool=>.bool r) Xx23 [.agg Xx24]
   M.pure (!Xx25)
   )
  M.ite Xx22 (do
   M.pure 1
   ) (do
   let Xx26←ldI .i64 c4
   stV c4 (.int .i64 (IntKind.wrap .i64 (Xx26 - 1)))
   M.pure 0
   )
structure TsJ (hA:Heap) (n2 b n4 nc:Nat) (g:Value) (left:Nat) (h:Heap):Prop where
 size:hA.size+2≤h.size
 df:h[hA.size]?=some (.deferred (some []))
 c2:h[n2]?=some (.cells (Value.cells g) KGp (0,0))
 c4:h[n4]?=some (.cells #[.int .i64 (left:Int)] YD (0,0))
 cc:h[nc]?=some (.cells #[.pointer (some ⟨b,0,none⟩)] VZ (0,0))
theorem TsJ.km {hA:Heap} {n2 b n4 nc left:Nat} {g:Value} {h h':Heap} {S:Nat→Prop} (J:TsJ hA n2 b n4 nc g left h) (k:Km S h h') (h1:¬ S hA.size) (h2:¬ S n2) (h4:¬ S n4) (hc:¬ S nc):TsJ hA n2 b n4 nc g left h' :=
 ⟨Nat.le_trans J.size k.size,k.blk J.df h1,k.blk J.c2 h2,k.blk J.c4 h4,k.blk J.cc hc⟩
theorem KGF {s:List UInt8} {c:Nat} {t:TypeId} :
  SeqS Go.Proofs.Tryz.prog (tokL s) (.func (.func YC) #[] #[.pointer (some ⟨c,0,none⟩)]) (fun h1=>ErrV h1∧h1[c]?=some (.cells #[.string (bs s)] t (0,0))):=by
 intro l Inv Stop h hU hS hC h0 hround
 refine KAX KAf (KBR (yV l) ⟨c,0,none⟩) ?_
 unfold GE
 obtain ⟨he,hcc⟩:=hC 0 h h0
 have hcl:=Vm hcc
 have hER:gER < h.size:=by obtain ⟨t,p,hc⟩:=he; exact Ym hc
 refine Zo (fun h1 e1 s1 g1=>Vp (oneC (e1.blk hcc)) ?_)
 rw [Ko]
 unfold tokL at hround ⊢
 refine KX (fun hlong=>?_) (fun hshort=>?_)
 ·have hl:=of_decide_eq_true hlong
  rw [if_pos (by omega)] at hround ⊢
  exact KC (.inl (hU _ _ _ h0 (Km.ext e1)))
 ·have hshort:=of_decide_eq_false hshort
  have hs:s.length≤1099511627776:=by omega
  rw [if_neg (by omega)] at hround ⊢
  refine Vp (oneC (e1.blk hcc)) (Zo (fun h2 e2 s2 g2=>Zo (fun h3 e3 s3 g3=>stO g3 rfl (fun h4 u4 g4=>?_))))
  unfold U3
  refine Kf (Zo (fun hA eA sA gA=>Kw ?_))
  have z4:=u4.size
  have E4:Ext h h4:=(e1.trans (e2.trans e3)).upd u4 (by omega)
  have EA:=E4.trans eA
  have gb:hA[h1.size]?=some (WS s 0):=eA.blk ((u4.ne _ (by omega)).trans (e3.blk g2))
  have m2:hA[h.size]?=some (.cells (Value.cells (yV l)) KGp (0,0)):=eA.blk ((u4.ne _ (by omega)).trans (e3.blk (e2.blk g1)))
  have m4:=eA.blk g4
  have hAs:hA.size=h.size+4:=by omega
  refine KJ (KLt (Yb:=KFd ⟨h.size,0,none⟩ ⟨h2.size,0,none⟩) (fun l x=>rfl) (c:=.ret) rfl (fun l hh=>by cases hh) (ts:=(allT s 0).1) (b:=h1.size)
   (fun i h'=>i≤4096∧Inv i h'∧TsJ hA h.size h1.size h2.size h4.size (yV l) (4096 - i) h')
   (fun h'=>(Inv ((allT s 0).1.take 4096).length h'∨Stop h')∧h'[hA.size]?=some (.deferred (some []))) ?_ ?_ ?_ ?_ ?_ gb (KHg (c:=h4.size) (Nat.zero_le _) hs (by omega)) ?_ ?_ ?_ ?_)
  ·exact fun i h' h'' hj u=>⟨hj.1,hU _ _ _ hj.2.1 (Km.upd u (by omega)),hj.2.2.km u.kb (by omega) (by omega) (by omega) (by omega)⟩
  ·exact fun h' h'' hj u=>⟨hj.1.imp (fun hj=>hU _ _ _ hj (Km.upd u (by omega))) (fun hj=>hS _ _ hj (Km.upd u (by omega))),(u.ne _ (by omega)).trans hj.2⟩
  ·exact fun h' h'' hj u=>(u.ne _ (by omega)).trans hj
  ·exact fun i h' h'' hj hz u=>⟨hj.1,hU _ _ _ hj.2.1 (u.wk (fun k hk=>by omega)),hj.2.2.km u (by omega) (by omega) (by omega) (by omega)⟩
  ·exact fun i h' hj=>⟨(hC _ _ hj.2.1).1,hj.2.2.cc⟩
  ·intro r
   have e7:Ext hA ((hA.push (.deferred (some []))).push (WV r .ready none)):=(Ext.push _ _).pushed _
   exact ⟨Nat.zero_le _,hU _ _ _ h0 (Km.ext (EA.trans e7)),by simp,by rw [Vb (by simp)]; exact Z2,e7.blk m2,e7.blk m4,e7.blk gA⟩
  ·rintro i hi h' o n ⟨him,hI,J⟩ hn hnl ho
   have hz:=J.size
   unfold KFd
   refine Zl (oneC J.c4) ?_
   rw [eqI]
   by_cases hi4:i=4096
   ·subst hi4
    refine Vk (decide_eq_true rfl) (Kw (iteT rfl (KC ⟨ho,rfl,.inr ⟨rfl,.inl ?_,J.df⟩⟩)))
    rw [List.length_take,Nat.min_eq_left (by omega)]
    exact hI
   ·have hil:i < ((allT s 0).1.take 4096).length:=by rw [List.length_take]; omega
    have hr:=hround i hil h' hI (by omega)
    rw [List.getElem_take] at hr
    refine Wp (decide_eq_false (by omega)) (Kf ⟨yV l,oneC J.c2,?_⟩)
    refine Kf (ldR hn rfl (Kf (KJ ((Vu _ _ _ _).mono ?_ hr))))
    rintro r h2' ⟨hz2,hk2,hr2⟩
    refine Kw ?_
    have ho2:=(hk2 (hA.size+1) (by omega) (by omega)).trans ho
    have hb2:=hk2 h1.size (by omega) (by omega)
    have J2:TsJ hA h.size h1.size h2.size h4.size (yV l) (4096 - i) h2':=⟨by omega,(hk2 _ (by omega) (by omega)).trans J.df,(hk2 _ (by omega) (by omega)).trans J.c2,(hk2 _ (by omega) (by omega)).trans J.c4,(hk2 _ (by omega) (by omega)).trans J.cc⟩
    cases r with
    | true =>
     rw [if_pos rfl] at hr2
     refine iteF rfl (Zl (oneC J2.c4) ?_)
     rw [w64 (by omega) (by omega),show ((4096 - i:Nat):Int) - 1=((4096 - (i+1):Nat):Int) by omega]
     refine stO J2.c4 rfl (fun h3' u3 g3'=>KC ⟨(u3.ne _ (by omega)).trans ho2,(u3.ne _ (by omega)).trans hb2,.inl ⟨rfl,by omega,hU _ _ _ hr2 (Km.upd u3 (by omega)),?_⟩⟩)
     exact ⟨by rw [u3.size]; exact J2.size,(u3.ne _ (by omega)).trans J2.df,(u3.ne _ (by omega)).trans J2.c2,g3',(u3.ne _ (by omega)).trans J2.cc⟩
    | false =>
     rw [if_neg (by decide)] at hr2
     exact iteT rfl (KC ⟨ho2,hb2,.inr ⟨rfl,.inr hr2,J2.df⟩⟩)
  ·rintro h' ⟨him,hI,J⟩ _
   refine iteF rfl ⟨J.df,?_⟩
   have u:=Upd.set_ h' hA.size (.deferred none)
   refine KC (.inl ?_)
   rw [List.length_take,Nat.min_eq_right him]
   exact hU _ _ _ hI (Km.upd u (by omega))
  ·rintro h' ⟨hj,hdf⟩
   refine iteT rfl ⟨hdf,?_⟩
   have u:=Upd.set_ h' hA.size (.deferred none)
   exact KC (hj.imp (fun hj=>hU _ _ _ hj (Km.upd u (by omega))) (fun hj=>hS _ _ hj (Km.upd u (by omega))))
end Gx
namespace Gx
open Go
set_option linter.unusedVariables false
set_option linter.unusedSimpArgs false
set_option maxRecDepth 100000
def KEq (c3 c5:Addr):Addr→M Nat:=fun Xx17=>do
  let Xx21←ldL c5
  let Xx22←ldI .i64 c3
  M.ite (decide ((Xx21.len:Int) ≥ Xx22)) (do
   M.pure 1
   ) (do
   let Xx23←ldL c5
   let Xx24←ldG 4 Xx17
   let y_26←GV 4 1 (#[.int .i64 0,.string ByteArray.empty,.int .i64 0,.int .i64 0]:Array Value) [(0,.agg Xx24)]
   let Xx25←bdL KM 1 y_26
   let Xx27←apL KM 4 40 (#[.int .i64 0,.string ByteArray.empty,.int .i64 0,.int .i64 0]:Array Value) Xx23 Xx25
   stV c5 ((Xx27:Sl).v)
   M.pure 0
   )
structure TlJ (hA:Heap) (n3 n5:Nat) (most:Nat) (ts:List Tkn) (h:Heap):Prop where
 size:hA.size+2≤h.size
 same:∀ i,i < hA.size→i≠n5→h[i]?=hA[i]?
 c5:∃ r,h[n5]?=some (.cells #[r.v] JT (0,0))∧Gw (hA.size+8) h r 4 (VW (tks ts))
 df:h[hA.size]?=some (.deferred (some []))
theorem TlJ.km {hA:Heap} {n3 n5 most:Nat} {ts:List Tkn} {h h':Heap} {S:Nat→Prop} (J:TlJ hA n3 n5 most ts h) (k:Km S h h') (hS:∀ k,S k→hA.size < k∧k < hA.size+8) (h5:n5 < hA.size):TlJ hA n3 n5 most ts h':=by
 obtain ⟨r,c5,G⟩:=J.c5
 have hz:=J.size
 exact ⟨Nat.le_trans J.size k.size,fun i hi hi5=>(k.same i (by omega) (fun hs=>by have:=hS _ hs; omega)).trans (J.same i hi hi5),⟨r,k.blk c5 (fun hs=>by have:=hS _ hs; omega),G.same (fun i hi=>k.same i (G.lt hi).1 (fun hs=>by have:=hS _ hs; have:=(G.lt hi).2; omega))⟩,k.blk J.df (fun hs=>by have:=hS _ hs; omega)⟩
theorem KEr {s:List UInt8} {c:Nat} {t:TypeId} {most:Nat} {h:Heap} {Q:Sl→Heap→Prop} (he:ErrV h) (hc:h[c]?=some (.cells #[.string (bs s)] t (0,0)))
  (H:∀ h' r,Ext h h'→TkR h' r ((tokL s).take most)→Q r h'):(Jc (.func (.func YC) #[] #[.pointer (some ⟨c,0,none⟩)]) (most:Int)).wp h Q:=by
 unfold Jc
 have sc:=Vm hc
 have hER:gER < h.size:=by obtain ⟨t,p,hc⟩:=he; exact Ym hc
 have hlen:(tokL s).length≤4096:=by
  unfold tokL
  split
  ·simp
  ·rw [List.length_take]; omega
 refine Zo (fun h1 e1 z1 g1=>?_)
 refine ⟨false,.inr ⟨⟨_,_,_,rfl⟩,rfl⟩,iteF rfl (Zo (fun hA e2 z2 g2=>?_))⟩
 have E:=e1.trans e2
 have g1':=e2.blk g1
 have heA:=he.ext E
 have fin:∀ {h4:Heap},TlJ hA h.size h1.size most ((tokL s).take most) h4→(Jq ⟨h1.size,0,none⟩ [hA.size]).wp h4 Q:=fun {h4} J=>by
  obtain ⟨r,c5,G⟩:=J.c5
  have u:=Upd.set_ h4 hA.size (.deferred none)
  have hz:=J.size
  refine VU (oneC c5) ⟨J.df,?_⟩
  show Q _ _
  refine H _ r ⟨by rw [u.size]; omega,fun i hi=>?_⟩ (G.same (fun i hi=>u.ne i (by have:=(G.lt hi).2; omega))).tkR
  rw [u.ne i (by omega),J.same i (by omega) (by omega),E.same i hi]
 refine KJ ⟨fun l hh=>(by cases hh),fun r hr=>?_⟩
 have hrec:((hA.push (.deferred (some []))).push (WV r .ready none))[hA.size+1]?=some (WV r .ready none):=by
  have:hA.size+1=(hA.push (.deferred (some []))).size:=by simp
  rw [this]; exact Z2
 have hsz:((hA.push (.deferred (some []))).push (WV r .ready none)).size=hA.size+2:=by simp
 have e3:Ext hA ((hA.push (.deferred (some []))).push (WV r .ready none)):=(Ext.push _ _).pushed _
 have hY:∀ l (x:Array Value),Jr ⟨h.size,0,none⟩ ⟨h1.size,0,none⟩ l x=(mkB KM (#[.int .i64 0,.string ByteArray.empty,.int .i64 0,.int .i64 0]:Array Value)>>=fun a=>M.need (x.size=4)>>=fun _=>stG a x>>=fun _=>beg l>>=fun _=>KEq ⟨h.size,0,none⟩ ⟨h1.size,0,none⟩ a):=fun l x=>rfl
 refine (Vu _ _ _ _).mono ?_ (KGF (s:=s) (c:=c) (t:=t) (hA.size+1)
  (fun i h'=>(i≤most∧TlJ hA h.size h1.size most ((tokL s).take i) h')∧h'[hA.size+1]?=some (WV r .ready none))
  (fun h'=>TlJ hA h.size h1.size most ((tokL s).take most) h'∧h'[hA.size+1]?=some (WV r .done (some (.exit 0)))) _ ?_ ?_ ?_ ?_ ?_)
 ·rintro _ h' (⟨⟨him,J⟩,h3⟩ | ⟨J,h3⟩)
  ·refine ⟨.ready,0,by decide,h3,iteF rfl (fin ?_)⟩
   have:(tokL s).take (tokL s).length=(tokL s).take most:=by rw [List.take_length,List.take_of_length_le him]
   rw [this] at J
   exact J.km (Upd.set_ _ (hA.size+1) _).kb (fun k hk=>by omega) (by omega)
  ·exact ⟨.done,1,by decide,h3,iteT rfl (fin (J.km (Upd.set_ _ (hA.size+1) _).kb (fun k hk=>by omega) (by omega)))⟩
 ·intro i h' h'' hj k
  rw [hsz] at k
  exact ⟨⟨hj.1.1,hj.1.2.km k (fun k hk=>by omega) (by omega)⟩,k.blk hj.2 (by omega)⟩
 ·intro h' h'' hj k
  rw [hsz] at k
  exact ⟨hj.1.km k (fun k hk=>by omega) (by omega),k.blk hj.2 (by omega)⟩
 ·rintro i h' ⟨⟨_,J⟩,_⟩
  refine ⟨?_,(J.same c (by have:=E.size; omega) (by omega)).trans (E.blk hc)⟩
  obtain ⟨t,p,hc⟩:=heA
  refine ⟨t,p,?_⟩
  unfold KV at hc ⊢
  rw [show (⟨gER,0,none⟩:Addr).block=gER from rfl] at hc ⊢
  rw [J.same gER (by omega) (by omega)]
  exact hc
 ·exact ⟨⟨Nat.zero_le _,by rw [hsz]; exact Nat.le_refl _,fun i hi _=>e3.same i hi,⟨Sl.nil,e3.blk g2,Gw.nil _ _ _⟩,by rw [Vb (by simp)]; exact Z2⟩,hrec⟩
 ·rintro i hi h' ⟨⟨him,J⟩,hrc⟩ hz
  rw [hsz] at hz ⊢
  have base:=KDt (Yb:=KEq ⟨h.size,0,none⟩ ⟨h1.size,0,none⟩) (hY _ (tokL s)[i].cells) hr (c:=.exit 0) rfl
   (J:=fun h2=>(i≤most∧TlJ hA h.size h1.size most ((tokL s).take i) h2)∧h'.size≤h2.size∧∀ k,hA.size+2≤k→k < hA.size+8→h2[k]?=h'[k]?)
   (J':=fun h2=>(i+1≤most∧TlJ hA h.size h1.size most ((tokL s).take (i+1)) h2)∧h'.size≤h2.size∧∀ k,hA.size+2≤k→k < hA.size+8→h2[k]?=h'[k]?)
   (E:=fun h2=>TlJ hA h.size h1.size most ((tokL s).take most) h2∧h'.size≤h2.size∧∀ k,hA.size+2≤k→k < hA.size+8→h2[k]?=h'[k]?)
   (fun h2 h3 hj u=>⟨⟨hj.1.1,hj.1.2.km u.kb (fun k hk=>by omega) (by omega)⟩,by rw [u.size]; exact hj.2.1,fun k h8 h9=>(u.ne k (by omega)).trans (hj.2.2 k h8 h9)⟩)
   (fun h2 h3 hj e=>⟨⟨hj.1.1,hj.1.2.km (Km.ext (S:=fun _=>False) e) (fun k hk=>hk.elim) (by omega)⟩,Nat.le_trans hj.2.1 e.size,fun k h8 h9=>(e.same k (by have:=hj.2.1; omega)).trans (hj.2.2 k h8 h9)⟩)
   (fun h2 h3 hj u=>⟨⟨hj.1.1,hj.1.2.km u.kb (fun k hk=>by omega) (by omega)⟩,by rw [u.size]; exact hj.2.1,fun k h8 h9=>(u.ne k (by omega)).trans (hj.2.2 k h8 h9)⟩)
   (fun h2 h3 hj u=>⟨hj.1.km u.kb (fun k hk=>by omega) (by omega),by rw [u.size]; exact hj.2.1,fun k h8 h9=>(u.ne k (by omega)).trans (hj.2.2 k h8 h9)⟩)
   (fun h2 o n hj hn ho hnl=>?_) ⟨⟨him,J⟩,Nat.le_refl _,fun _ _ _=>rfl⟩ hrc
  ·refine (Vu _ _ _ _).mono ?_ base
   rintro b h2 hb
   cases b with
   | true =>
    rw [if_pos rfl] at hb ⊢
    exact ⟨hb.1.2.1,fun k h8 h9=>hb.1.2.2 k h8 (by omega),hb.1.1,hb.2⟩
   | false =>
    rw [if_neg (by decide)] at hb ⊢
    exact ⟨hb.1.2.1,fun k h8 h9=>hb.1.2.2 k h8 (by omega),hb.1.1,hb.2⟩
  ·obtain ⟨⟨him2,J2⟩,hz2,hk2⟩:=hj
   obtain ⟨r2,c5,G⟩:=J2.c5
   have hrl:=G.tkR.1
   rw [List.length_take,Nat.min_eq_left (by omega)] at hrl
   have c3:=(J2.same h.size (by omega) (by omega)).trans g1'
   unfold KEq
   refine VU (oneC c5) (Zl (oneC c3) (KX (fun hcond=>?_) (fun hcond=>?_)))
   ·have hcond:=of_decide_eq_true hcond
    obtain rfl:i=most:=by omega
    exact KC ⟨ho,.inr ⟨rfl,J2,hz2,hk2⟩⟩
   ·have hcond:=of_decide_eq_false hcond
    refine VU (oneC c5) (KEk G (by omega) (by rw [List.length_take]; omega) hn (fun h3 r3 G3 hs3 same3=>?_))
    have nn:∀ k,k < hA.size+8→¬ Sl.on r2 k:=fun k hk ho=>by have:=(G.lt ho).2; omega
    have c5':=(same3 _ (by have:=J2.size; omega) (nn h1.size (by omega))).trans c5
    refine stO c5' (KDF _) (fun h4 u4 k5=>KC ?_)
    have keep:∀ k,k < hA.size+8→k≠h1.size→h4[k]?=h2[k]?:=fun k hk hk5=>(u4.ne k hk5).trans (same3 k (by omega) (nn k hk))
    refine ⟨(keep _ (by omega) (by omega)).trans ho,.inl ⟨rfl,⟨by omega,by rw [u4.size]; have:=J2.size; omega,fun k hk hk5=>(keep k (by omega) hk5).trans (J2.same k hk hk5),⟨r3,k5,?_⟩,(keep _ (by omega) (by omega)).trans J2.df⟩,by rw [u4.size]; omega,fun k h8 h9=>(keep k h9 (by omega)).trans (hk2 k h8 h9)⟩⟩
    rw [List.take_succ_eq_append_getElem hi]
    exact G3.same (fun k hk=>u4.ne k (by have:=(G3.lt hk).2; omega))
theorem KD9 {s:List UInt8} {h:Heap} {Q:Sl→Heap→Prop} (H:∀ h' r,Ext h h'→TkR h' r (tokL s)→r.len≤r.cap→Q r h'):(Us (bs s)).wp h Q:=by
 unfold Us
 rw [Ko]
 unfold tokL at H
 refine KX (fun hlong=>KC ?_) (fun hshort=>?_)
 ·rw [if_pos (by have:=of_decide_eq_true hlong; omega)] at H
  exact H h Sl.nil (Ext.refl _) (TkR.nil _) (Nat.le_refl _)
 ·have hshort:=of_decide_eq_false hshort
  rw [if_neg (by omega)] at H
  exact KJ (KEp (m:=4096) (by omega) (fun h1 r e1 G=>KC (H h1 r e1 G.tkR G.cap)))
theorem KEs {s:List UInt8} {most:Nat} {h:Heap} {Q:Bool→Heap→Prop} (hm:most≤255) (hp:KDT h) (hd:KGr h) (he:ErrV h) (H:∀ h',Ext h h'→Q true h'):(UI (bs s) (most:Int)).wp h Q:=by
 have hlen:(tokL s).length≤4096:=by
  unfold tokL
  split
  ·simp
  ·rw [List.length_take]; omega
 have tell:∀ {β:Type} {h1:Heap} {n:Nat} {Q':β→Heap→Prop} {f:Sl→M β},Ext h h1→(∀ h' r,Ext h1 h'→TkR h' r ((tokL s).take n)→(f r).wp h' Q')→(Y9 (bs s)>>=fun g=>Jc g (n:Int)>>=f).wp h1 Q':=fun {β h1 n Q' f} E HH=>by
  unfold Y9
  refine Kf (Zo (fun h2 e2 z2 g2=>Kw (KJ (KEr (he.ext (E.trans e2)) g2 (fun h3 r e3 R=>HH h3 r (e2.trans e3) R)))))
 unfold UI
 refine KJ (KD9 (fun h1 w e1 W hcap=>KJ (KD8 (he.ext e1) (fun h2 e2=>iteT rfl ?_))))
 have E2:=e1.trans e2
 rw [show (16384:Int)=((16384:Nat):Int) from rfl]
 refine tell E2 (fun h3 r3 e3 R3=>?_)
 rw [List.take_of_length_le (by omega)] at R3
 refine KJ (KBv R3 (W.ext (e2.trans e3)) (by omega) (iteT rfl ?_))
 have hwl:=W.1
 have hmin:iMin (w.len:Int) (IntKind.wrap .i64 (most:Int))=((min w.len most:Nat):Int):=by
  rw [w64 (by omega) (by omega)]
  unfold iMin
  split <;> omega
 rw [hmin]
 refine KMR (by omega) (by omega) (by omega) ?_
 rw [w64 (by omega) (by omega)]
 refine tell (E2.trans e3) (fun h4 r4 e4 R4=>?_)
 refine KJ (KBv R4 ⟨?_,?_⟩ (by rw [List.length_take]; omega) ?_)
 ·show ((min w.len most:Nat):Int).toNat - (0:Int).toNat=_
  rw [List.length_take,hwl]; omega
 ·have hbase:(if w.cap=(0:Int).toNat then w.base else w.base.map (fun a=>a.add ((0:Int).toNat * 4)))=w.base:=by
   have:w.base.map (fun a=>a.add ((0:Int).toNat * 4))=w.base:=by
    cases w.base with
    | none=>rfl
    | some a=>rfl
   rw [this]; simp
  show Xo h4 (if w.cap=(0:Int).toNat then w.base else w.base.map (fun a=>a.add ((0:Int).toNat * 4))) _
  rw [hbase]
  have hR:=(W.ext ((e2.trans e3).trans e4)).2
  rcases hR with h0 | ⟨a,ha,hr⟩
  ·have:tokL s=[]:=by have:=congrArg List.length h0; rw [We (KHP _),zg,List.length_nil] at this; exact List.length_eq_zero_iff.1 (by omega)
   rw [this,List.take_nil]; exact .inl rfl
  ·refine .inr ⟨a,ha,fun j v hj=>hr j v ?_⟩
   rw [← List.take_append_drop most (tokL s),KHQ]
   unfold VW at hj ⊢
   rw [List.flatMap_append,List.getElem?_append_left (List.getElem?_eq_some_iff.1 hj).1]
   exact hj
 ·unfold Ze
  exact KC (H _ ((E2.trans e3).trans e4))
end Gx
namespace Gx
end Gx
namespace Go.Proofs.YtpibdohdkfkcnaaGreatDoor
open Go Go.RowKit Gx
set_option linter.unusedVariables false
set_option maxRecDepth 100000
theorem c3:Tryz.prog.cellsOf 3=1:=by kernel_rfl
theorem c2:Tryz.prog.cellsOf 2=1:=by kernel_rfl
theorem c9:Tryz.prog.cellsOf 9=1:=by kernel_rfl
section
variable {H:Type} {enc:TypeId × Value→H}
theorem KI0 {W:World} {t:TypeId} {n:Nat} {c:Value} {x:DataW H × List MemPlace} {sp:Nat→Bool} {held:Bool} {base:Nat} (ht:Tryz.prog.underlying t=some .string) (h:DataW.trod enc Tryz.prog W base sp held n t [c]=some x):∃ s:ByteArray,c=.string s∧s.size≤maxLen∧Rows.uptoBulk x.1=s.data.toList.length+1:=by
 cases n with
 | zero=>simp [DataW.trod] at h
 | succ n =>
  unfold DataW.trod at h
  rw [ht] at h
  cases c with
  | string s =>
   simp only at h
   split at h
   ·rename_i hk
    cases h
    exact ⟨s,rfl,hk,by simp [Rows.uptoBulk]⟩
   ·cases h
  | _=>simp at h
theorem KKY {W:World} {t:TypeId} {n:Nat} {c:Value} {x:DataW H × List MemPlace} {sp:Nat→Bool} {held:Bool} {base:Nat} (ht:Tryz.prog.underlying t=some (.int .u8)) (h:DataW.trod enc Tryz.prog W base sp held n t [c]=some x):∃ z:Nat,c=.int .u8 (z:Int)∧z≤255:=by
 cases n with
 | zero=>simp [DataW.trod] at h
 | succ n =>
  unfold DataW.trod at h
  rw [ht] at h
  cases c with
  | int k z =>
   simp only at h
   split at h
   ·rename_i hk
    obtain ⟨rfl,hw⟩:=hk
    cases h
    have:0≤z∧z≤255:=by simpa [Lit.wf,IntKind.min,IntKind.max,IntKind.signed,IntKind.bits] using hw
    exact ⟨z.toNat,by rw [Int.toNat_of_nonneg this.1],by omega⟩
   ·cases h
  | _=>simp at h
theorem KC2 {W:World} {a:Addr}:W.cell? a=KV W.heap a:=rfl
end
end Go.Proofs.YtpibdohdkfkcnaaGreatDoor
namespace Gx
open Go Go.RowKit Go.ChangeShapes Go.WideShapes Go.ChangeAt Go.Joins
set_option linter.unusedVariables false
section
variable {H:Type} {enc:TypeId × Value→H} {P:Program}
theorem KI1 {W W':World} (he:Ext W.heap W'.heap) {p:MemPlace} (hp:p.block < W.heap.size):W.sameAt W' p:=by
 cases p with
 | cell b o=>exact World.cell?_of_block (w:=W) (he.same b hp)
 | map b=>exact he.same b hp
theorem KFe {t:TypeId} (hl:laidOutB P=true) (hr:P.readableRec t=true) (hrow:t < P.types.size) {W W':World} {v:Value} {d:DataW H} {ps:List MemPlace}
  (h:DataW.Trod enc P W 0 (fun _=>true) true t v d ps) (he:Ext W.heap W'.heap) :
  DataW.Trod enc P W' 0 (fun b=>decide (b < W.heap.size)) true t v d ps:=by
 have hlt:∀ x ∈ ps,x.block < W.heap.size:=by
  obtain ⟨m,hm⟩:=h
  exact DataW.trod_lt m _ _ _ hm
 exact WideElems.Trod_stays hl hr hrow h (fun x hx=>KI1 he (hlt x hx)) (fun x hx=>by simpa using hlt x hx)
theorem KHr {W W':World} (he:Ext W.heap W'.heap) (hr:Rest W W') (may:MemPlace→Prop):W.keptBut W' may:=by
 refine ⟨hr.os,hr.output,fun i hi=>?_⟩
 rw [he.same i hi]
 split <;> simp_all
end
end Gx
namespace Go.Proofs.YtpibdohdkfkcnaaGreatDoor
open Go Go.RowKit Go.ChangeShapes Go.WideShapes Go.ChangeAt Go.Joins Gx
set_option linter.unusedVariables false
set_option maxRecDepth 100000
theorem Own:ownKnob Tryz.prog.godebug=none:=by kernel_rfl
theorem Laid:laidOutB Tryz.prog=true:=by kernel_rfl
def KI2:List (String × DataW Unit):=[("math/bits.deBruijn32tab",Rows.laid_math_bits_deBruijn32tab),("math/bits.deBruijn64tab",Rows.laid_math_bits_deBruijn64tab),("internal/strconv.uint64pow10",Rows.laid_internal_strconv_uint64pow10),("unicode/utf8.acceptRanges",Rows.laid_unicode_utf8_acceptRanges),("strconv.ErrRange",Rows.laid_strconv_ErrRange),("strconv.ErrSyntax",Rows.laid_strconv_ErrSyntax),("unicode/utf8.first",Rows.laid_unicode_utf8_first)]
theorem gPow:Tryz.prog.globalNamed "internal/strconv.uint64pow10"=some 3:=by kernel_rfl
theorem gDb:Tryz.prog.globalNamed "math/bits.deBruijn64tab"=some 5:=by kernel_rfl
theorem YR {P:Program} {x:String × DataW Unit} {r:List (String × DataW Unit)} {W:World} (h:laidMet P (x::r) W):laidMet P r W:=by
 obtain ⟨ps,h1,h2,h3⟩:=h
 obtain ⟨n,d⟩:=x
 obtain ⟨g,t,cs,fuel,p,q,a1,a2,a3,a4,a5,rfl⟩:=h1
 exact ⟨q,a5,(List.nodup_append.1 h2).2.1,fun b off hb=>h3 b off (List.mem_append.2 (.inr hb))⟩
theorem KKZ {W:World} (h:laidMet Tryz.prog KI2 W):KDT W.heap:=by
 have h1:Lib.TabIs Tryz.prog W "internal/strconv.uint64pow10" .u64 [1,10,100,1000,10000,100000,1000000,10000000,100000000,1000000000,10000000000,100000000000,1000000000000,10000000000000,100000000000000,1000000000000000,10000000000000000,100000000000000000,1000000000000000000,10000000000000000000] :=
  Lib.tabIs_of_head (rest:=[("unicode/utf8.acceptRanges",Rows.laid_unicode_utf8_acceptRanges),("strconv.ErrRange",Rows.laid_strconv_ErrRange),("strconv.ErrSyntax",Rows.laid_strconv_ErrSyntax),("unicode/utf8.first",Rows.laid_unicode_utf8_first)]) gPow (by kernel_rfl:(Tryz.prog.globals[3]?).map (·.type)=some 250) Tryz.underlying250 Tryz.underlying216 (by kernel_rfl) (by kernel_rfl) (YR (YR h))
 unfold Lib.TabIs at h1
 simp only [World.var?,gPow,Option.bind_some] at h1
 split at h1
 ·rename_i cs t fz hh
  cases h1
  exact ⟨fz,t,hh⟩
 ·cases h1
theorem KL3 {W:World} (h:laidMet Tryz.prog KI2 W):KGr W.heap:=by
 have h1:Lib.TabIs Tryz.prog W "math/bits.deBruijn64tab" .u8 [0,1,56,2,57,49,28,3,61,58,42,50,38,29,17,4,62,47,59,36,45,43,51,22,53,39,33,30,24,18,12,5,63,55,48,27,60,41,37,16,46,35,44,21,52,32,23,11,54,26,40,15,34,20,31,10,25,14,19,9,13,8,7,6] :=
  Lib.tabIs_of_head (rest:=[("internal/strconv.uint64pow10",Rows.laid_internal_strconv_uint64pow10),("unicode/utf8.acceptRanges",Rows.laid_unicode_utf8_acceptRanges),("strconv.ErrRange",Rows.laid_strconv_ErrRange),("strconv.ErrSyntax",Rows.laid_strconv_ErrSyntax),("unicode/utf8.first",Rows.laid_unicode_utf8_first)]) gDb (by kernel_rfl:(Tryz.prog.globals[5]?).map (·.type)=some 262) Tryz.underlying262 Tryz.underlying5 (by kernel_rfl) (by kernel_rfl) (YR h)
 unfold Lib.TabIs at h1
 simp only [World.var?,gDb,Option.bind_some] at h1
 split at h1
 ·rename_i cs t fz hh
  cases h1
  exact ⟨_,t,fz,hh,rfl⟩
 ·cases h1
def KC1 (cs:Array Value):Obj→Obj
 | .cells _ t frozen=>.cells cs t frozen
 | o=>o
def KKa (h:Array Obj):Array Obj:=(((h.modify 7 (KC1 #[.iface 275 (.pointer (some ⟨h.size,0,none⟩))])).modify 6 (KC1 #[.iface 275 (.pointer (some ⟨h.size+1,0,none⟩))])).push (.cells #[.string ⟨#[118,97,108,117,101,32,111,117,116,32,111,102,32,114,97,110,103,101]⟩] 277)).push (.cells #[.string ⟨#[105,110,118,97,108,105,100,32,115,121,110,116,97,120]⟩] 277)
noncomputable def litV:Lit→Value
 | .int k n=>.int k n
 | .bool b=>.bool b
 | _=>undef
noncomputable def KMk (ps:List (DataW Unit)):List Value:=ps.flatMap fun p=>match p with
 | .lit l=>[litV l]
 | .agg qs=>qs.map fun q=>match q with
  | .lit l=>litV l
  | _=>undef
 | _=>[]
noncomputable def KL4 (l:List (String × DataW Unit)) (h:Array Obj):Array Obj:=l.foldl (fun h x=>match Tryz.prog.globalNamed x.1,x.2 with
 | some g,.agg ps=>h.modify g (KC1 (KMk ps).toArray)
 | _,_=>h) h
noncomputable def KBC (os:Os) (args:Array Value):World :=
 { World.holding Tryz.prog os ⟨#[],args,[]⟩ with heap:=KKa (KL4 KI2 (World.holding Tryz.prog os ⟨#[],args,[]⟩).heap) }
theorem gErr:Tryz.prog.globalNamed "strconv.ErrRange"=some 7:=by kernel_rfl
theorem KMl {W:World} (h:laidMet Tryz.prog KI2 W):ErrV W.heap:=by
 obtain ⟨ps,h1,h2,h3⟩:=(YR (YR (YR (YR h))))
 obtain ⟨g,t,cs,fuel,p,q,a1,a2,a3,a4,a5,rfl⟩:=h1
 rw [gErr] at a1
 cases a1
 have ht:t=84:=Option.some.inj (a2.symm.trans (by kernel_rfl))
 subst ht
 have hcs:∃ u v,cs.toList=[.iface u v]:=by
  cases fuel with
  | zero=>simp [DataW.trod] at a4
  | succ fuel =>
   unfold DataW.trod at a4
   rw [Tryz.underlying84] at a4
   cases hc:cs.toList with
   | nil=>rw [hc] at a4; simp at a4
   | cons c r =>
    rw [hc] at a4
    cases r with
    | cons c2 r2=>exfalso; cases c <;> simp at a4
    | nil=>cases c <;> first | exact ⟨_,_,rfl⟩ | (exfalso; simp [Rows.laid_strconv_ErrRange] at a4)
 obtain ⟨u,v,hcs⟩:=hcs
 have hcs':cs=#[.iface u v]:=by
  apply Array.ext'
  exact hcs
 subst hcs'
 simp only [World.var?,gErr,Option.bind_some] at a3
 split at a3
 ·rename_i cs' t' fz hh
  cases a3
  exact ⟨u,v,by rw [KU hh]; rfl⟩
 ·cases a3
end Go.Proofs.YtpibdohdkfkcnaaGreatDoor
