/- Own proofs: what those Lean programs compute. No condition. -/
import Derived.Test.YtpibdohdkfkcnaaGreatDoorP0
import Derived.Test.YtpibdohdkfkcnaaGreatDoorP1
import Derived.Test.YtpibdohdkfkcnaaGreatDoorP2
import Derived.Test.YtpibdohdkfkcnaaGreatDoorP3
import Derived.Test.YtpibdohdkfkcnaaGreatDoorP4
import Derived.Test.YtpibdohdkfkcnaaGreatDoorP5
import Derived.Test.YtpibdohdkfkcnaaGreatDoorP6
import Derived.Test.YtpibdohdkfkcnaaGreatDoorP7
import Derived.Test.YtpibdohdkfkcnaaGreatDoorTie
import Derived.KernelRfl
import Derived.ChangeArms
import Derived.DataReads
import Derived.WalkKit
import Derived.ProofKit
import Derived.OpenShut
import Derived.ShutString
import Derived.ChangeOld
import Derived.Below
import Derived.SizedLaws
import Derived.Lib.SmallJoins
import Derived.Deep.DeepHandedRow
import Derived.Lib.LaidTab
import Derived.JoinedCond
import Derived.SevenTiedAt
set_option linter.unusedVariables false
set_option linter.unusedSimpArgs false
namespace Gx
open Go Go.Proofs Go.Shelf Go.RowKit Go.Lib
set_option linter.unusedVariables false
set_option linter.unusedSimpArgs false
set_option maxRecDepth 100000
def negB (t:List UInt8):Bool:=decide (t.head?=some 45)
def topN (t:List UInt8):Nat:=if negB t=true then 9223372036854775808 else 9223372036854775807
def sgnV (t:List UInt8):Int:=if negB t=true then -(dcv 0 (numD t):Int) else (dcv 0 (numD t):Int)
theorem KDo {M:Nat} (hM:M < 18446744073709551616) {l:List UInt8} (h:l.all digB=true):parseUintM M 0 l=if dcv 0 l≤M then .ok (dcv 0 l) else .range:=by
 split
 ·rename_i hv; exact qt M hM l 0 h hv
 ·rename_i hv
  have h1:=zW M l 0 h
  cases hp:parseUintM M 0 l with
  | ok u =>
   have:=GJ M l 0 u hp
   exact absurd (this.1 ▸ this.2 (Nat.zero_le _)) hv
  | range=>rfl
  | _=>rw [hp] at h1; cases h1
theorem KHM {t:List UInt8} (h1:numD t≠[]) (h2:(numD t).all digB=true):Lib.parseIntB 64 t=if dcv 0 (numD t)≤topN t then .ok (sgnV t) else .range:=by
 have e63:(2:Nat) ^ (64 - 1)=9223372036854775808:=by decide
 have e64:(2:Nat) ^ 64 - 1=18446744073709551615:=by decide
 cases t with
 | nil=>exact absurd rfl h1
 | cons c r =>
  by_cases h45:c=45
  ·subst h45
   have hD:numD (45::r)=r:=rfl
   have hN:negB (45::r)=true:=rfl
   unfold topN sgnV
   rw [hD] at h1 h2 ⊢
   rw [if_pos hN,if_pos hN]
   unfold parseIntB
   dsimp only
   rw [if_pos (by right; rfl)]
   unfold parseUintB
   rw [if_neg h1,e64,KDo (by decide) h2,e63]
   have h45:(45:UInt8).toNat=45:=rfl
   by_cases hb:dcv 0 r≤18446744073709551615
   ·rw [if_pos hb]
    dsimp only
    rw [if_neg (fun hh=>hh.1 h45)]
    by_cases hv:dcv 0 r≤9223372036854775808
    ·rw [if_pos hv,if_neg (fun hh=>by have:=hh.2; omega),if_pos h45]
    ·rw [if_neg hv,if_pos ⟨h45,by omega⟩]
   ·rw [if_neg hb,if_neg (by omega)]
  ·have hD:numD (c::r)=c::r:=by unfold numD; rw [List.head?_cons,if_neg (by simpa using h45)]
   have hN:negB (c::r)=false:=by unfold negB; rw [List.head?_cons]; exact decide_eq_false (by simpa using h45)
   unfold topN sgnV
   rw [hD] at h1 h2 ⊢
   rw [hN,if_neg Bool.false_ne_true,if_neg Bool.false_ne_true]
   have hc:digB c=true:=by rw [List.all_cons,Bool.and_eq_true] at h2; exact h2.1
   unfold digB at hc
   rw [Bool.and_eq_true,decide_eq_true_iff,decide_eq_true_iff] at hc
   unfold parseIntB
   dsimp only
   rw [if_neg (by omega)]
   unfold parseUintB
   rw [if_neg h1,e64,KDo (by decide) h2,e63]
   by_cases hb:dcv 0 (c::r)≤18446744073709551615
   ·rw [if_pos hb]
    dsimp only
    by_cases hv:dcv 0 (c::r)≤9223372036854775807
    ·rw [if_pos hv,if_neg (fun hh=>by have:=hh.2; omega),if_neg (fun hh=>by have:=hh.1; omega),if_neg (by omega)]
    ·rw [if_neg hv,if_pos ⟨by omega,by omega⟩]
   ·rw [if_neg hb,if_neg (by omega)]
theorem KEU (t:List UInt8):numP t=if numD t=[] then (0,10) else if (numD t).all digB=false then (0,10) else if (numD t).head?=some 48∧t≠[48] then (0,10)
  else if dcv 0 (numD t)≤topN t then (sgnV t,0) else (0,7):=by
 unfold numP
 split
 ·rfl
 rename_i h1
 split
 ·rfl
 rename_i h2
 split
 ·rfl
 rw [KHM h1 (by cases hh:(numD t).all digB with | true=>rfl | false=>exact absurd hh h2)]
 by_cases hv:dcv 0 (numD t)≤topN t
 ·rw [if_pos hv,if_pos hv]
 ·rw [if_neg hv,if_neg hv]
theorem KHN {c:UInt8} (h:digB c=true):48≤c.toNat∧c.toNat≤57:=by
 unfold digB at h
 rwa [Bool.and_eq_true,decide_eq_true_iff,decide_eq_true_iff] at h
theorem KIb {l:List UInt8} {k:Nat} (hk:k < l.length):dcv 0 (l.take (k+1))=dcv 0 (l.take k) * 10+((l[k]).toNat - 48):=by
 rw [List.take_succ_eq_append_getElem hk,KCa]
theorem KKH (l r:List UInt8) (acc:Nat):dcv acc (l++r)=dcv (dcv acc l) r:=by unfold dcv; rw [List.foldl_append]
theorem KIc {h:Heap} {Q:Int→Heap→Prop} {neg:Bool} {u:Nat} (hu:u≤9223372036854775808) (hn:neg=false→u≤9223372036854775807) (H:Q (if neg=true then -(u:Int) else (u:Int)) h):(J3 neg (u:Int)).wp h Q:=by
 unfold J3
 cases neg with
 | true =>
  refine iteT rfl (KB ?_)
  rw [show IntKind.wrap .i64 (IntKind.wrap .u64 (0 - (u:Int)))=-(u:Int) by rw [IntKind.wrap_i64,IntKind.wrap_u64]; omega]
  exact H
 | false =>
  have:=hn rfl
  refine iteF rfl (KB ?_)
  rw [w64 (by omega) (by omega)]
  exact H
theorem KBf {t:List UInt8} {h:Heap} {Q:Int × Int→Heap→Prop} (ht:t.length≤1099511627776) (H:Q (numP t) h):(Je (bs t)).wp h Q:=by
 unfold Je
 rw [Kw]
 have hj1:∀ (d:List UInt8),d=numD t→(JZ (negB t) (bs d)).wp h Q:=by
  intro d hd
  have hdl:d.length≤t.length:=by rw [hd]; unfold numD; split <;> simp
  unfold JZ
  rw [show (ByteArray.empty:ByteArray)=bs [] from rfl,KEz]
  refine or_b (c:=decide (d.head?=some 48∧t≠[48])) (fun hne Q' hq=>?_) ?_
  ·have hne:d≠[]:=of_decide_eq_false hne
   have hl:0 < d.length:=List.length_pos_iff.2 hne
   refine UP (i:=0) rfl hl ?_
   have h0:d.head?=some d[0]:=by rw [List.head?_eq_getElem?,List.getElem?_eq_getElem hl]
   refine Jl (c:=decide (t≠[48])) (fun h48 Q2 hq2=>?_) (KB ?_)
   ·rw [KGo,decide_eq_true_iff] at h48
    rw [Kw]
    refine or_b (c:=negB t) (fun _ Q3 hq3=>KB hq3) (KB ?_)
    have e:(decide ((d.length:Int) > 1) || negB t)=decide (t≠[48]):=by
     rw [Bool.eq_iff_iff,Bool.or_eq_true,decide_eq_true_iff,decide_eq_true_iff]
     unfold negB
     rw [decide_eq_true_iff]
     constructor
     ·rintro (h1 | h1) e
      ·subst e
       rw [hd] at h1
       exact absurd h1 (by decide)
      ·subst e; cases h1
     ·intro h1
      by_cases hn:t.head?=some 45
      ·exact .inr hn
      ·refine .inl ?_
       have:d=t:=by rw [hd]; unfold numD; rw [if_neg hn]
       have h3:¬ d.length=1:=by
        intro e1
        refine h1 ?_
        have hh:=h0.trans h48
        rw [← this]
        obtain ⟨c,hc⟩:=List.length_eq_one_iff.1 e1
        rw [hc] at hh ⊢
        exact congrArg (fun x=>[x]) (Option.some.inj hh)
       omega
    rw [e]
    exact hq2
   ·rw [KGo,← h0,← Bool.decide_and]
    exact hq
  ·rw [show (decide (d=[]) || decide (d.head?=some 48∧t≠[48]))=decide (d=[]∨(d.head?=some 48∧t≠[48])) by rw [Bool.decide_or]]
   rw [KEU,← hd] at H
   refine KW (fun hb=>KB ?_) (fun hb=>?_)
   ·have hb:=of_decide_eq_true hb
    by_cases h1:d=[]
    ·rw [if_pos h1] at H; exact H
    ·rw [if_neg h1] at H
     split at H
     ·exact H
     ·rw [if_pos (hb.resolve_left h1)] at H; exact H
   ·have hb:=of_decide_eq_false hb
    rw [if_neg (fun e=>hb (.inl e))] at H
    have hz:¬ (d.head?=some 48∧t≠[48]):=fun e=>hb (.inr e)
    rw [if_neg hz] at H
    refine M.loop_inv (fun (x:Int) hh=>∃ k:Nat,x=(k:Int)∧k≤d.length∧hh=h∧(d.take k).all digB=true) (fun x _=>((d.length:Int) - x).toNat) ?_ ⟨0,rfl,Nat.zero_le _,rfl,rfl⟩
    rintro x hh ⟨k,rfl,hk,rfl,hall⟩ self hself
    unfold VI
    rw [Kw]
    refine KW (fun hc=>?_) (fun hc=>?_)
    ·have hkl:k < d.length:=by have:=of_decide_eq_true hc; omega
     refine UP rfl hkl ?_
     refine or_b (c:=decide (((d[k]).toNat:Int) > 57)) (fun _ Q' hq=>UP rfl hkl (KB hq)) ?_
     rw [show (decide (((d[k]).toNat:Int) < 48) || decide (((d[k]).toNat:Int) > 57))=!digB d[k] by
      unfold digB
      rw [Bool.not_and,← decide_not,← decide_not]
      congr 1
      ·exact decide_eq_decide.2 (by omega)
      ·exact decide_eq_decide.2 (by omega)]
     refine KW (fun hn=>KB ?_) (fun hn=>?_)
     ·rw [if_pos] at H
      ·exact H
      ·cases ha:d.all digB with
       | false=>rfl
       | true =>
        rw [List.all_eq_true] at ha
        rw [ha _ (List.getElem_mem hkl)] at hn
        cases hn
     ·have hn:digB d[k]=true:=by simpa using hn
      rw [w64 (by omega) (by omega)]
      refine hself _ _ ⟨k+1,by omega,hkl,rfl,?_⟩ (by omega)
      rw [List.take_succ_eq_append_getElem hkl,List.all_append,hall,List.all_cons,hn]
      rfl
    ·have hkl:k=d.length:=by have:=of_decide_eq_false hc; omega
     subst hkl
     rw [List.take_length] at hall
     rw [if_neg (by rw [hall]; decide)] at H
     have hj2:∀ top:Nat,top=topN t→(JY (negB t) (bs d) (top:Int)).wp hh Q:=by
      intro top htop
      have htop2:top≤9223372036854775808:=by rw [htop]; unfold topN; split <;> omega
      have htop3:9223372036854775807≤top:=by rw [htop]; unfold topN; split <;> omega
      unfold JY
      refine M.loop_inv (fun (x:Int × Int) h2=>∃ k:Nat,x=(((dcv 0 (d.take k):Nat):Int),(k:Int))∧k≤d.length∧h2=hh∧dcv 0 (d.take k)≤top) (fun x _=>((d.length:Int) - x.2).toNat) ?_ ⟨0,rfl,Nat.zero_le _,rfl,Nat.zero_le _⟩
      rintro x h2 ⟨k,rfl,hk,rfl,hv⟩ self hself
      unfold VH
      dsimp only
      rw [Kw]
      refine KW (fun hc=>?_) (fun hc=>?_)
      ·have hkl:k < d.length:=by have:=of_decide_eq_true hc; omega
       refine UP rfl hkl ?_
       have hd9:=KHN (List.all_eq_true.1 hall _ (List.getElem_mem hkl))
       have e1:IntKind.wrap .u64 (IntKind.wrap .u8 (((d[k]).toNat:Int) - 48))=((d[k]).toNat:Int) - 48:=by rw [IntKind.wrap_u8,IntKind.wrap_u64]; omega
       rw [e1]
       have e2:IntKind.wrap .u64 (Int.tdiv (IntKind.wrap .u64 ((top:Int) - (((d[k]).toNat:Int) - 48))) 10)=(((top - ((d[k]).toNat - 48)) / 10:Nat):Int):=by
        rw [show IntKind.wrap .u64 ((top:Int) - (((d[k]).toNat:Int) - 48))=((top - ((d[k]).toNat - 48):Nat):Int) by rw [IntKind.wrap_u64]; omega]
        rw [show Int.tdiv ((top - ((d[k]).toNat - 48):Nat):Int) 10=(((top - ((d[k]).toNat - 48)) / 10:Nat):Int) from (Int.ofNat_tdiv _ 10).symm]
        rw [IntKind.wrap_u64]; omega
       rw [e2]
       have hnext:=KIb hkl
       refine KW (fun ho=>KB ?_) (fun ho=>?_)
       ·have ho:=of_decide_eq_true ho
        rw [if_neg] at H
        ·exact H
        ·have hge:dcv 0 (d.take (k+1))≤dcv 0 d:=by
          conv=>rhs; rw [← List.take_append_drop (k+1) d,KKH]
          exact KG6 _ _
         rw [← htop]
         omega
       ·have ho:=of_decide_eq_false ho
        rw [show IntKind.wrap .u64 ((IntKind.wrap .u64 (((dcv 0 (d.take k):Nat):Int) * 10))+(((d[k]).toNat:Int) - 48))=((dcv 0 (d.take (k+1)):Nat):Int) by rw [IntKind.wrap_u64,IntKind.wrap_u64,hnext]; omega]
        rw [w64 (by omega) (by omega)]
        exact hself _ _ ⟨k+1,rfl,hkl,rfl,by rw [hnext]; omega⟩ (by dsimp only; omega)
      ·have hkl:k=d.length:=by have:=of_decide_eq_false hc; omega
       subst hkl
       rw [List.take_length] at hv ⊢
       rw [if_pos (htop ▸ hv)] at H
       refine KJ (KIc (by omega) (fun hneg=>?_) (KB ?_))
       ·have:topN t=9223372036854775807:=by unfold topN; rw [hneg]; rfl
        omega
       ·unfold sgnV at H
        rw [← hd] at H
        exact H
     refine KW (fun hneg=>?_) (fun hneg=>?_)
     ·have hneg:negB t=false:=by simpa using hneg
      have:=hj2 9223372036854775807 (by unfold topN; rw [hneg]; rfl)
      rw [show IntKind.wrap .u64 (9223372036854775808 - 1)=((9223372036854775807:Nat):Int) by decide]
      exact this
     ·have hneg:negB t=true:=by simpa using hneg
      exact hj2 9223372036854775808 (by unfold topN; rw [hneg]; rfl)
 have hN:∀ Q':Bool→Heap→Prop,Q' (negB t) h→(M.ite (decide ((t.length:Int) > 0)) (ixS (bs t) 0>>=fun x=>M.pure (x == 45)) (M.pure false):M Bool).wp h Q':=by
  intro Q' hq
  refine KW (fun hc=>?_) (fun hc=>KB ?_)
  ·have hl:0 < t.length:=by have:=of_decide_eq_true hc; omega
   refine UP (i:=0) rfl hl (KB ?_)
   rw [KGn]
   unfold negB at hq
   rw [List.head?_eq_getElem?,List.getElem?_eq_getElem hl] at hq
   exact hq
  ·have hl:t=[]:=List.length_eq_zero_iff.1 (by have:=of_decide_eq_false hc; omega)
   subst hl
   exact hq
 refine KJ (hN _ ?_)
 refine KW (fun hc=>?_) (fun hc=>?_)
 ·have hc':=hc
  unfold negB at hc'
  have hc':=of_decide_eq_true hc'
  have hl:0 < t.length:=by cases t with | nil=>cases hc' | cons c r=>simp
  refine KDU (a:=1) (b:=t.length) rfl rfl (by omega) (Nat.le_refl _) ?_
  refine hj1 _ ?_
  unfold numD
  rw [if_pos hc',← List.length_tail,← List.drop_one,List.take_length]
 ·refine hj1 _ ?_
  unfold numD
  unfold negB at hc
  rw [if_neg (of_decide_eq_false hc)]
end Gx
namespace Gx
open Go Go.Proofs Go.Shelf Go.RowKit Go.Lib
set_option linter.unusedVariables false
set_option linter.unusedSimpArgs false
set_option maxRecDepth 100000
structure Rgd (h:Heap) (b:Nat) (s:List UInt8) (i:Nat):Prop where
 blk:h[b]?=some (.cells #[.string (bs s),.int .i64 (i:Int),.int .i64 (-1)] ZJ (0,0))
 le:i≤s.length
 small:s.length≤1099511627776
def Rx (h:Heap) (b:Nat) (s:List UInt8) (e:Nat):Prop:=∃ i:Nat,i≤s.length∧s.length≤1099511627776∧h[b]?=some (.cells #[.string (bs s),.int .i64 (i:Int),.int .i64 (e:Int)] ZJ (0,0))
theorem Rgd.ext {h h':Heap} {b:Nat} {s:List UInt8} {i:Nat} (R:Rgd h b s i) (e:Ext h h'):Rgd h' b s i:=⟨e.blk R.blk,R.le,R.small⟩
theorem Rgd.lt {h:Heap} {b:Nat} {s:List UInt8} {i:Nat} (R:Rgd h b s i):b < h.size:=V0 R.blk
theorem Rgd.upd {h h':Heap} {b g:Nat} {s:List UInt8} {i:Nat} (R:Rgd h b s i) (u:Upd g h h') (hg:b≠g):Rgd h' b s i:=⟨(u.ne b hg).trans R.blk,R.le,R.small⟩
theorem Rx.ext {h h':Heap} {b:Nat} {s:List UInt8} {i:Nat} (R:Rx h b s i) (e:Ext h h'):Rx h' b s i:=let ⟨k,h1,h2,h3⟩:=R; ⟨k,h1,h2,e.blk h3⟩
theorem Rx.upd {h h':Heap} {b g:Nat} {s:List UInt8} {i:Nat} (R:Rx h b s i) (u:Upd g h h') (hg:b≠g):Rx h' b s i:=let ⟨k,h1,h2,h3⟩:=R; ⟨k,h1,h2,(u.ne b hg).trans h3⟩
theorem Rx.lt {h:Heap} {b:Nat} {s:List UInt8} {i:Nat} (R:Rx h b s i):b < h.size:=let ⟨k,h1,h2,h3⟩:=R; V0 h3
section
variable {β:Type} {h:Heap} {Q:β→Heap→Prop} {b i e:Nat} {s:List UInt8}
theorem KFs {f:ByteArray→M β} (R:Rgd h b s i) (H:(f (bs s)).wp h Q):(ldS ((⟨b,0,none⟩:Addr).add 0)>>=f).wp h Q:=Vx (by rw [Kp,KS R.blk]; rfl) H
theorem KAw {f:Int→M β} (R:Rgd h b s i) (H:(f (i:Int)).wp h Q):(ldI .i64 ((⟨b,0,none⟩:Addr).add 1)>>=f).wp h Q:=Zo (by rw [Kp,KS R.blk]; rfl) H
theorem KFt {f:Int→M β} (R:Rgd h b s i) (H:(f (-1)).wp h Q):(ldI .i64 ((⟨b,0,none⟩:Addr).add 2)>>=f).wp h Q:=Zo (by rw [Kp,KS R.blk]; rfl) H
theorem KEV {f:Int→M β} (R:Rx h b s e) (H:(f (e:Int)).wp h Q):(ldI .i64 ((⟨b,0,none⟩:Addr).add 2)>>=f).wp h Q:=let ⟨_,_,_,g⟩:=R; Zo (by rw [Kp,KS g]; rfl) H
theorem KLf {f:Int→M β} (R:Rx h b s e) (H:∀ i:Nat,i≤s.length→(f (i:Int)).wp h Q):(ldI .i64 ((⟨b,0,none⟩:Addr).add 1)>>=f).wp h Q:=let ⟨i,hi,_,g⟩:=R; Zo (n:=(i:Int)) (by rw [Kp,KS g]; rfl) (H i hi)
theorem KMP {f:Unit→M β} (R:Rgd h b s i) (hi:i < s.length) (H:∀ h',Upd b h h'→Rgd h' b s (i+1)→(f ()).wp h' Q):(stV ((⟨b,0,none⟩:Addr).add 1) (.int .i64 (IntKind.wrap .i64 ((i:Int)+1)))>>=f).wp h Q:=by
 have hsm:=R.small
 rw [w64 (by omega) (by omega)]
 refine N5 (x:=.int .i64 (i:Int)) (by rw [Kp,KS R.blk]; rfl) (by rw [Kp]; exact ZX R.blk) rfl ?_
 rw [Kp]
 exact H _ (Upd.hset _ _ _ _) ⟨VA R.blk,hi,hsm⟩
theorem YM {f:Unit→M β} (R:Rgd h b s i) (hi:i < s.length) (H:∀ h',Upd b h h'→Rgd h' b s (i+1)→(f ()).wp h' Q) :
  (nilP (some ⟨b,0,none⟩)>>=fun x=>ldI .i64 (x.add 1)>>=fun y=>nilP (some ⟨b,0,none⟩)>>=fun z=>stV (z.add 1) (.int .i64 (IntKind.wrap .i64 (y+1)))>>=f).wp h Q :=
 Kx (KAw R (Kx (KMP R hi H)))
end
section
variable {h:Heap} {b i e:Nat} {s:List UInt8}
theorem KKI {Q:Unit→Heap→Prop} (R:Rgd h b s i) (he:e≤s.length) (H:∀ h',Upd b h h'→Rx h' b s e→Q () h'):(KQ (some ⟨b,0,none⟩) (e:Int)).wp h Q:=by
 unfold KQ
 refine Kx (KFt R (iteT rfl (Kx ?_)))
 refine N5 (x:=.int .i64 (-1)) (by rw [Kp,KS R.blk]; rfl) (by rw [Kp]; exact ZX R.blk) rfl ?_
 rw [Kp]
 exact KB (H _ (Upd.hset _ _ _ _) ⟨i,R.le,R.small,VA R.blk⟩)
theorem KKJ {Q:Unit→Heap→Prop} {x:Int} (R:Rx h b s e) (H:Q () h):(KQ (some ⟨b,0,none⟩) x).wp h Q:=by
 unfold KQ
 refine Kx (KEV R (iteF (decide_eq_false (by omega)) (KB H)))
theorem VQ {β:Type} {Q:β→Heap→Prop} {f:Unit→M β} (R:Rgd h b s i) (H:∀ h',Upd b h h'→Rx h' b s i→(f ()).wp h' Q):(nilP (some ⟨b,0,none⟩)>>=fun x=>ldI .i64 (x.add 1)>>=fun y=>KQ (some ⟨b,0,none⟩) y>>=f).wp h Q :=
 Kx (KAw R (KJ (KKI R R.le H)))
theorem KAx {β:Type} {Q:β→Heap→Prop} {f:Unit→M β} (R:Rx h b s e) (H:(f ()).wp h Q):(nilP (some ⟨b,0,none⟩)>>=fun x=>ldI .i64 (x.add 1)>>=fun y=>KQ (some ⟨b,0,none⟩) y>>=f).wp h Q :=
 Kx (KLf R (fun _ _=>KJ (KKJ R H)))
theorem WH {Q:Int→Heap→Prop} (R:Rgd h b s i) (H:Q ((KI s i).toNat:Int) h):(KR (some ⟨b,0,none⟩)).wp h Q:=by
 unfold KR
 refine Kx (KFt R (iteF rfl (Kx (Kx (KAw R (KFs R ?_))))))
 rw [Kw]
 unfold Zc
 refine KW (fun hc=>KB ?_) (fun hc=>?_)
 ·have hi:¬ i < s.length:=by have:=of_decide_eq_true hc; omega
  unfold KI at H
  rw [List.getElem?_eq_none (by omega)] at H
  exact H
 ·have hi:i < s.length:=by have:=of_decide_eq_false hc; omega
  refine Kx (Kx (KFs R (KAw R (UP rfl hi (KB ?_)))))
  rw [← Jo hi]
  exact H
theorem KAy {Q:Int→Heap→Prop} (R:Rx h b s e) (H:Q 0 h):(KR (some ⟨b,0,none⟩)).wp h Q:=by
 unfold KR
 refine Kx (KEV R (iteT (decide_eq_true (by omega)) ?_))
 unfold Zc
 exact iteT rfl (KB H)
theorem YN {c:UInt8} {Q:Bool→Heap→Prop} (H:Q (digB c) h):(Zb (c.toNat:Int)).wp h Q:=by
 unfold Zb
 refine Jl (c:=decide ((c.toNat:Int)≤57)) (fun _ Q' hq=>KB hq) (KB ?_)
 rw [show (decide ((c.toNat:Int) ≥ 48) && decide ((c.toNat:Int)≤57))=digB c by
  unfold digB
  congr 1
  ·exact decide_eq_decide.2 (by omega)
  ·exact decide_eq_decide.2 (by omega)]
 exact H
theorem KKK {Q:Bool→Heap→Prop} (H:Q false h):(Zb 0).wp h Q:=YN (c:=0) H
theorem GA {Q:Unit→Heap→Prop} {lit:List UInt8} (R:Rgd h b s i) (hl:lit.length≤1000)
  (H1:∀ j h',Vf s lit i=.ok j→Kb b h h'→Rgd h' b s j→Q () h') (H2:∀ e h',Vf s lit i=.error e→Kb b h h'→Rx h' b s e→Q () h'):(KN (some ⟨b,0,none⟩) (bs lit)).wp h Q:=by
 unfold KN
 refine M.loop_inv (fun (x:Int) hh=>∃ k i':Nat,x=(k:Int)∧k≤lit.length∧Kb b h hh∧Rgd hh b s i'∧Vf s (lit.drop k) i'=Vf s lit i) (fun x _=>((lit.length:Int) - x).toNat) ?_ ⟨0,i,rfl,Nat.zero_le _,Km.refl _ _,R,rfl⟩
 rintro x hh ⟨k,i',rfl,hk,K,R',hm⟩ self hself
 unfold Z9
 rw [Kw]
 refine KW (fun hc=>?_) (fun hc=>?_)
 ·have hkl:k < lit.length:=by have:=of_decide_eq_true hc; omega
  rw [List.drop_eq_getElem_cons hkl,Vf] at hm
  have hfail:s[i']?≠some lit[k]→(K9 self (some ⟨b,0,none⟩) (k:Int) true).wp hh Q:=fun hne=>by
   unfold K9
   rw [if_neg hne] at hm
   exact iteT rfl (VQ R' (fun h2 u X=>KB (H2 _ _ hm.symm (K.trans (Km.upd u rfl)) X)))
  refine UP rfl hkl (KJ (WH R' ?_))
  refine KW (fun hne=>?_) (fun heq=>?_)
  ·refine hfail (fun h1=>?_)
   have hil:=(List.getElem?_eq_some_iff.1 h1).1
   rw [List.getElem?_eq_getElem hil] at h1
   rw [Jo hil,Option.some.inj h1] at hne
   simp at hne
  ·have heq:KI s i'=lit[k]:=by
    refine UInt8.toNat_inj.1 ?_
    have:¬ (((KI s i').toNat:Int)≠((lit[k]).toNat:Int)):=fun hne=>by rw [bne_iff_ne.2 hne] at heq; cases heq
    omega
   refine Kx (Kx (KAw R' (KFs R' ?_)))
   rw [Kw]
   by_cases hil:i' < s.length
   ·rw [decide_eq_false (show ¬ ((i':Int) ≥ (s.length:Int)) by omega)]
    unfold K9
    refine iteF rfl (YM R' hil (fun h2 u R2=>?_))
    rw [w64 (by omega) (by omega)]
    rw [if_pos (by rw [List.getElem?_eq_getElem hil,← heq,Jo hil])] at hm
    exact hself _ _ ⟨k+1,i'+1,by omega,by omega,K.trans (Km.upd u rfl),R2,hm⟩ (by omega)
   ·rw [decide_eq_true (show ((i':Int) ≥ (s.length:Int)) by omega)]
    refine hfail ?_
    rw [List.getElem?_eq_none (by omega)]
    intro h; cases h
 ·have hkl:k=lit.length:=by have:=of_decide_eq_false hc; omega
  subst hkl
  rw [List.drop_length,Vf] at hm
  exact KB (H1 _ _ hm.symm K R')
theorem KCg {Q:Unit→Heap→Prop} {c:UInt8} {r:List UInt8} (R:Rx h b s e) (hc:c≠0) (H:Q () h):(KN (some ⟨b,0,none⟩) (bs (c::r))).wp h Q:=by
 unfold KN
 refine M.loop_inv (fun (x:Int) hh=>x=0∧hh=h) (fun x _=>0) ?_ ⟨rfl,rfl⟩
 rintro x hh ⟨rfl,rfl⟩ self hself
 unfold Z9
 rw [Kw]
 refine iteT (decide_eq_true (by simp)) (UP (i:=0) rfl (by simp) (KJ (KAy R ?_)))
 have hc0:c.toNat≠0:=fun e=>hc (UInt8.toNat_inj.1 (by rw [e]; rfl))
 refine iteT (by rw [bne_iff_ne]; show (0:Int)≠(c.toNat:Int); omega) ?_
 unfold K9
 exact iteT rfl (KAx R (KB H))
theorem KHO {t:List UInt8} (h1:numD t≠[]) (h2:(numD t).all digB=true) (h3:(numD t).head?≠some 48):(numP t).2=0∨(numP t).2=7:=by
 rw [KEU,if_neg h1,if_neg (by rw [h2]; decide),if_neg (fun hh=>h3 hh.1)]
 split
 ·exact .inl rfl
 ·exact .inr rfl
theorem KHP (h48:KI s i=48):numF s i=.ok (0,i+1):=by
 have hi:i < s.length:=Zz (by rw [h48]; decide)
 have hJ:numJ s i=i:=by unfold numJ; rw [if_neg (by rw [h48]; decide)]
 unfold numF
 rw [hJ,if_neg (by rw [h48]; rintro (h | h); exact absurd h (by decide); omega)]
 rw [show s.length - i=(s.length - (i+1))+1 by omega,numL,if_pos (by rw [h48]; decide)]
 have h1:(s.drop i).take (i+1 - i)=[48]:=by
  rw [show i+1 - i=1 by omega,List.drop_eq_getElem_cons hi,← Jo hi,h48]; rfl
 rw [h1,show numP [48]=(0,0) by decide +kernel,if_neg (by decide),if_neg (by decide)]
 cases hf:s.length - (i+1) with
 | zero=>rfl
 | succ f =>
  rw [numL]
  split
  ·rename_i hd
   have hi2:=KAm hd
   have h2:(s.drop i).take (i+1+1 - i)=[48,KI s (i+1)]:=by
    rw [show i+1+1 - i=2 by omega,List.drop_eq_getElem_cons hi,List.drop_eq_getElem_cons hi2,← Jo hi,← Jo hi2,h48]; rfl
   have h3:numP [48,KI s (i+1)]=(0,10):=by
    have hD:numD [48,KI s (i+1)]=[48,KI s (i+1)]:=rfl
    rw [KEU,hD,if_neg (by simp),if_neg,if_pos ⟨rfl,by simp⟩]
    show ¬ ([48,KI s (i+1)].all digB=false)
    rw [List.all_cons,List.all_cons,hd]
    decide
   rw [h2,h3,if_neg (by decide),if_pos (by decide)]
  ·rfl
theorem KId {j k:Nat} (hjk:j≤k) (hk:k < s.length):(s.drop j).take (k+1 - j)=(s.drop j).take (k - j)++[s[k]]:=by
 rw [show k+1 - j=(k - j)+1 by omega,List.take_succ_eq_append_getElem (by rw [List.length_drop]; omega),List.getElem_drop]
 simp only [show j+(k - j)=k by omega]
theorem KIe {k:Nat} (hJ:numJ s i < k) (hk:k≤s.length):numD ((s.drop i).take (k - i))=(s.drop (numJ s i)).take (k - numJ s i):=by
 have hij:i≤numJ s i:=by unfold numJ; split <;> omega
 unfold numJ at hJ ⊢
 by_cases h45:KI s i=45
 ·rw [if_pos h45] at hJ ⊢
  have hi:i < s.length:=Zz (by rw [h45]; decide)
  rw [List.drop_eq_getElem_cons hi,show k - i=(k - (i+1))+1 by omega,List.take_succ_cons,← Jo hi,h45]
  rfl
 ·rw [if_neg h45] at hJ ⊢
  have hi:i < s.length:=by omega
  unfold numD
  rw [if_neg]
  rw [List.drop_eq_getElem_cons hi,show k - i=(k - i - 1)+1 by omega,List.take_succ_cons,List.head?_cons,← Jo hi]
  intro e
  exact h45 (Option.some.inj e)
theorem KDp {Q:Int→Heap→Prop} (R:Rgd h b s i)
  (H1:∀ n j h',numF s i=.ok (n,j)→Kb b h h'→Rgd h' b s j→Q n h') (H2:∀ e h',numF s i=.error e→Kb b h h'→Rx h' b s e→Q 0 h'):(Ky (some ⟨b,0,none⟩) true).wp h Q:=by
 unfold Ky
 have hsm:=R.small
 have key:∀ h1,Kb b h h1→Rgd h1 b s (numJ s i)→(ZE (some ⟨b,0,none⟩) (i:Int)).wp h1 Q:=by
  intro h1 K1 R1
  unfold ZE
  have hij:i≤numJ s i:=by unfold numJ; split <;> omega
  refine KJ (WH R1 (KJ (YN ?_)))
  refine KW (fun hd=>?_) (fun hd=>?_)
  ·have hd:digB (KI s (numJ s i))=false:=by simpa using hd
   exact VQ R1 (fun h2 u X=>KB (H2 _ _ (by unfold numF; rw [if_pos (.inl hd)]) (K1.trans (Km.upd u rfl)) X))
  have hd:digB (KI s (numJ s i))=true:=by simpa using hd
  have hjl:=KAm hd
  refine KJ (WH R1 ?_)
  rw [KGo]
  refine KW (fun h48=>?_) (fun h48=>?_)
  ·have h48:KI s (numJ s i)=48:=Option.some.inj (of_decide_eq_true h48)
   refine Kx (KAw R1 ?_)
   refine KW (fun hs=>?_) (fun hs=>?_)
   ·have hs:i < numJ s i:=by have:=of_decide_eq_true hs; omega
    exact VQ R1 (fun h2 u X=>KB (H2 _ _ (by unfold numF; rw [if_pos (.inr ⟨hs,h48⟩)]) (K1.trans (Km.upd u rfl)) X))
   ·have hs:numJ s i=i:=by have:=of_decide_eq_false hs; omega
    rw [hs] at h48 R1 hjl
    exact YM R1 hjl (fun h2 u R2=>KB (H1 _ _ _ (KHP h48) (K1.trans (Km.upd u rfl)) R2))
  ·have h48:KI s (numJ s i)≠48:=fun e=>(of_decide_eq_false h48) (congrArg some e)
   have hF:numF s i=numL s i (s.length - numJ s i) (numJ s i) 0:=by
    unfold numF
    rw [if_neg]
    rintro (h | h)
    ·rw [hd] at h; cases h
    ·exact h48 h.2
   rw [hF] at H1 H2
   refine M.loop_inv (fun (_:Unit) hh=>∃ (i':Nat) (x:Int),numJ s i≤i'∧Kb b h hh∧Rgd hh b s i'∧((s.drop (numJ s i)).take (i' - numJ s i)).all digB=true∧(numJ s i < i'→x=(numP ((s.drop i).take (i' - i))).1)∧numL s i (s.length - i') i' x=numL s i (s.length - numJ s i) (numJ s i) 0)
    (fun _ hh=>match hh[b]? with | some (.cells #[_,.int _ z,_] _ _)=>s.length - z.toNat | _=>0) ?_ ⟨numJ s i,0,Nat.le_refl _,K1,R1,by rw [Nat.sub_self]; rfl,fun h=>absurd h (Nat.lt_irrefl _),rfl⟩
   rintro _ hh ⟨i',x,hfi,K,R',hall,hx,hm⟩ self hself
   unfold Jc
   have hle:=R'.le
   refine KJ (WH R' (KJ (YN ?_)))
   refine KW (fun hd'=>?_) (fun hd'=>?_)
   ·have hil:=KAm hd'
    rw [show s.length - i'=(s.length - (i'+1))+1 by omega,numL,if_pos hd'] at hm
    have hall':((s.drop (numJ s i)).take (i'+1 - numJ s i)).all digB=true:=by
     rw [KId hfi hil,List.all_append,hall,List.all_cons,← Jo hil,hd']; rfl
    have hD:=KIe (s:=s) (i:=i) (k:=i'+1) (by omega) (by omega)
    have hne:(s.drop (numJ s i)).take (i'+1 - numJ s i)≠[]:=by
     intro e
     have:=congrArg List.length e
     rw [List.length_take,List.length_drop,List.length_nil] at this
     omega
    have hhead:((s.drop (numJ s i)).take (i'+1 - numJ s i)).head?≠some 48:=by
     rw [List.drop_eq_getElem_cons hjl,show i'+1 - numJ s i=(i' - numJ s i)+1 by omega,List.take_succ_cons,List.head?_cons,← Jo hjl]
     intro e
     exact h48 (Option.some.inj e)
    have h07:=KHO (t:=(s.drop i).take (i'+1 - i)) (by rw [hD]; exact hne) (by rw [hD]; exact hall') (by rw [hD]; exact hhead)
    refine Kx (Kx (KFs R' (KAw R' ?_)))
    rw [w64 (by omega) (by omega)]
    refine KDU (a:=i) (b:=i'+1) rfl (by omega) (by omega) (by omega) (KJ (KBf (by rw [List.length_take,List.length_drop]; omega) ?_))
    refine KW (fun h0=>?_) (fun h0=>?_)
    ·rw [bne_iff_ne] at h0
     rw [if_pos (h07.resolve_left h0)] at hm
     exact VQ R' (fun h2 u X=>KB (H2 _ _ hm.symm (K.trans (Km.upd u rfl)) X))
    ·have h0:(numP ((s.drop i).take (i'+1 - i))).2=0:=by
      refine Classical.not_not.1 (fun hne=>?_)
      rw [bne_iff_ne.2 hne] at h0
      cases h0
     rw [if_neg (by rw [h0]; decide),if_neg (by rw [h0]; decide)] at hm
     refine YM R' hil (fun h3 u3 R3=>?_)
     refine hself _ _ ⟨i'+1,_,by omega,K.trans (Km.upd u3 rfl),R3,hall',fun _=>rfl,hm⟩ ?_
     rw [R3.blk,R'.blk]
     show s.length - ((i'+1:Nat):Int).toNat < s.length - ((i':Nat):Int).toNat
     omega
   ·have hi':numJ s i < i':=by
     rcases Nat.lt_or_ge (numJ s i) i' with h | h
     ·exact h
     ·have:i'=numJ s i:=by omega
      subst this
      rw [hd] at hd'
      cases hd'
    have:numL s i (s.length - i') i' x=.ok (x,i'):=by
     cases hf:s.length - i' with
     | zero=>rfl
     | succ f=>rw [numL,if_neg (by rw [hd']; decide)]
    rw [this] at hm
    refine Kx (Kx (KFs R' (KAw R' ?_)))
    refine KDU (a:=i) (b:=i') rfl rfl (by omega) (by omega) (KJ (KBf (by rw [List.length_take,List.length_drop]; omega) (KB ?_)))
    rw [← hx hi']
    exact H1 _ _ _ hm.symm K R'
 refine Kx (KAw R ?_)
 refine Jl (c:=decide (KI s i=45)) (fun _ Q' hq=>KJ (WH R (KB ?_))) ?_
 ·rw [KGn,decide_eq_decide.2 (show some (KI s i)=some 45↔KI s i=45 from ⟨Option.some.inj,congrArg _⟩)]
  exact hq
 refine KW (fun hc=>?_) (fun hc=>?_)
 ·have h45:KI s i=45:=by simpa using hc
  refine YM R (Zz (by rw [h45]; decide)) (fun h1 u1 R1=>key _ (Km.upd u1 rfl) ?_)
  unfold numJ
  rw [if_pos h45]
  exact R1
 ·have h45:¬ KI s i=45:=by simpa using hc
  refine key _ (Km.refl _ _) ?_
  unfold numJ
  rw [if_neg h45]
  exact R
theorem KHQ {Q:Int→Heap→Prop} (R:Rx h b s e) (H:Q 0 h):(Ky (some ⟨b,0,none⟩) true).wp h Q:=by
 unfold Ky
 refine Kx (KLf R (fun i hi=>?_))
 refine Jl (c:=false) (fun _ Q' hq=>KJ (KAy R (KB hq))) (iteF rfl ?_)
 unfold ZE
 exact KJ (KAy R (KJ (KKK (iteT rfl (KAx R (KB H))))))
def hexV (c:UInt8):Int:=if digB c=true then (c.toNat:Int) - 48 else if 97≤c.toNat∧c.toNat≤102 then (c.toNat:Int) - 87 else -1
theorem KIf:∀ n:Fin 256,hexV (UInt8.ofNat n.val)=hexN (UInt8.ofNat n.val):=by decide +kernel
theorem KKL (c:UInt8):hexV c=hexN c:=by
 have:=KIf ⟨c.toNat,c.toNat_lt⟩
 simpa only [UInt8.ofNat_toNat] using this
theorem KAz {c:UInt8} {Q:Int→Heap→Prop} (H:Q (hexN c) h):(Jj (c.toNat:Int)).wp h Q:=by
 rw [← KKL] at H
 unfold hexV at H
 unfold Jj
 refine KJ (YN ?_)
 refine KW (fun hd=>KB ?_) (fun hd=>?_)
 ·rw [if_pos hd] at H
  have:=KHN hd
  rw [show IntKind.wrap .i64 (IntKind.wrap .u8 ((c.toNat:Int) - 48))=(c.toNat:Int) - 48 by rw [IntKind.wrap_u8,IntKind.wrap_i64]; omega]
  exact H
 ·rw [if_neg (by rw [hd]; decide)] at H
  refine Jl (c:=decide ((c.toNat:Int)≤102)) (fun _ Q' hq=>KB hq) ?_
  refine KW (fun hc=>KB ?_) (fun hc=>KB ?_)
  ·rw [Bool.and_eq_true,decide_eq_true_iff,decide_eq_true_iff] at hc
   rw [if_pos (by omega)] at H
   rw [show IntKind.wrap .i64 ((IntKind.wrap .i64 (IntKind.wrap .u8 ((c.toNat:Int) - 97)))+10)=(c.toNat:Int) - 87 by rw [IntKind.wrap_u8,IntKind.wrap_i64,IntKind.wrap_i64]; omega]
   exact H
  ·rw [Bool.and_eq_false_iff,decide_eq_false_iff_not,decide_eq_false_iff_not] at hc
   rw [if_neg (by omega)] at H
   exact H
theorem KMQ {Q:Int→Heap→Prop} (H:Q (-1) h):(Jj 0).wp h Q:=by
 refine KAz (c:=0) ?_
 rw [KBb]
 exact H
theorem KMR {x y:Int} (hx:0≤x) (hx2:x≤15) (hy:0≤y) (hy2:y≤15):IntKind.wrap .u8 (IntKind.wrap .i64 ((IntKind.wrap .i64 (16 * x))+y))=((UInt8.ofNat ((x * 16+y).toNat)).toNat:Int):=by
 rw [IntKind.wrap_u8,IntKind.wrap_i64,IntKind.wrap_i64,UInt8.toNat_ofNat']
 omega
theorem KLg {Q:Int→Heap→Prop} (R:Rgd h b s i)
  (H1:∀ (c:UInt8) j h',escP s i=.ok (c,j)→Kb b h h'→Rgd h' b s j→Q (c.toNat:Int) h') (H2:∀ e h',escP s i=.error e→Kb b h h'→Rx h' b s e→Q 0 h'):(Zd (some ⟨b,0,none⟩)).wp h Q:=by
 unfold Zd
 refine KJ (WH R ?_)
 rw [u8_c (d:=39) (n:=39) rfl,u8_c (d:=92) (n:=92) rfl]
 refine or_b (c:=decide (KI s i=92)) (fun _ Q' hq=>KB hq) ?_
 refine KW (fun hc=>?_) (fun hc=>?_)
 ·rw [Bool.or_eq_true,decide_eq_true_iff,decide_eq_true_iff] at hc
  have hi:i < s.length:=Zz (by rcases hc with h | h <;> (rw [h]; decide))
  refine YM R hi (fun h1 u1 R1=>KB (H1 _ _ _ ?_ (Km.upd u1 rfl) R1))
  unfold escP
  rw [if_pos hc]
 ·have hc':¬ (KI s i=39∨KI s i=92):=by
   intro hh
   rw [← decide_eq_true_iff (p:=KI s i=39),← decide_eq_true_iff (p:=KI s i=92),← Bool.or_eq_true,hc] at hh
   cases hh
  refine KJ (GA (lit:=[120]) R (by decide) (fun j h1 hj K1 R1=>?_) (fun e h1 hj K1 X1=>?_))
  ·have hE:escP s i=if hexN (KI s j) < 0∨(1 < hexN (KI s j)∧hexN (KI s j) < 7) then .error j
     else if hexN (KI s (j+1)) < 0∨(hexN (KI s j)=7∧hexN (KI s (j+1)) < 15) then .error (j+1)
     else .ok (UInt8.ofNat ((hexN (KI s j) * 16+hexN (KI s (j+1))).toNat),j+2):=by
    unfold escP
    rw [if_neg hc',hj]
   have hle15:=Ns (KI s j)
   have hle15':=Ns (KI s (j+1))
   refine KJ (WH R1 (KJ (KAz ?_)))
   refine or_b (c:=decide (hexN (KI s j) ≥ 2) && decide (hexN (KI s j) < 7)) (fun _ Q' hq=>Jl (c:=decide (hexN (KI s j) < 7)) (fun _ Q2 hq2=>KB hq2) (KB hq)) ?_
   rw [show (decide (hexN (KI s j) < 0) || (decide (hexN (KI s j) ≥ 2) && decide (hexN (KI s j) < 7)))=decide (hexN (KI s j) < 0∨(1 < hexN (KI s j)∧hexN (KI s j) < 7)) by
    rw [Bool.decide_or,Bool.decide_and]
    congr 2]
   refine KW (fun hb=>?_) (fun hb=>?_)
   ·rw [if_pos (of_decide_eq_true hb)] at hE
    exact VQ R1 (fun h2 u X=>KB (H2 _ _ hE (K1.trans (Km.upd u rfl)) X))
   ·have hb:=of_decide_eq_false hb
    rw [if_neg hb] at hE
    have hjl:j < s.length:=KDW (by omega)
    refine YM R1 hjl (fun h2 u2 R2=>?_)
    have K2:Kb b h h2:=K1.trans (Km.upd u2 rfl)
    refine KJ (WH R2 (KJ (KAz ?_)))
    refine or_b (c:=decide (hexN (KI s j)=7) && decide (hexN (KI s (j+1))≠15)) (fun _ Q' hq=>?_) ?_
    ·rw [eqI]
     refine Jl (c:=decide (hexN (KI s (j+1))≠15)) (fun _ Q2 hq2=>KB ?_) (KB hq)
     rw [show (hexN (KI s (j+1)) != 15)=decide (hexN (KI s (j+1))≠15) by rw [bne,eqI,decide_not]]
     exact hq2
    rw [show (decide (hexN (KI s (j+1)) < 0) || (decide (hexN (KI s j)=7) && decide (hexN (KI s (j+1))≠15)))=decide (hexN (KI s (j+1)) < 0∨(hexN (KI s j)=7∧hexN (KI s (j+1)) < 15)) by
     rw [Bool.decide_or,Bool.decide_and]
     congr 2
     exact decide_eq_decide.2 (by omega)]
    refine KW (fun hb2=>?_) (fun hb2=>?_)
    ·rw [if_pos (of_decide_eq_true hb2)] at hE
     exact VQ R2 (fun h3 u X=>KB (H2 _ _ hE (K2.trans (Km.upd u rfl)) X))
    ·have hb2:=of_decide_eq_false hb2
     rw [if_neg hb2] at hE
     have hjl2:j+1 < s.length:=KDW (by omega)
     refine YM R2 hjl2 (fun h3 u3 R3=>KB ?_)
     rw [KMR (by omega) hle15 (by omega) hle15']
     exact H1 _ _ _ hE (K2.trans (Km.upd u3 rfl)) R3
  ·have hE:escP s i=.error e:=by unfold escP; rw [if_neg hc',hj]
   refine KJ (KAy X1 (KJ (KMQ ?_)))
   refine or_b (c:=false) (fun h=>absurd h (by decide)) (iteT rfl ?_)
   exact KAx X1 (KB (H2 _ _ hE K1 X1))
end
end Gx
namespace Gx
open Go
set_option linter.unusedVariables false
set_option linter.unusedSimpArgs false
end Gx
namespace Gx
open Go Go.Proofs Go.Shelf Go.RowKit Go.Lib
set_option linter.unusedVariables false
set_option linter.unusedSimpArgs false
set_option maxRecDepth 100000
theorem KLh {h:Heap} {Q:ByteArray→Heap→Prop} {b i:Nat} {s:List UInt8} (R:Rgd h b s i)
  (H1:∀ t j h',strP s i=.ok (t,j)→Kb b h h'→Rgd h' b s j→Q (bs t) h') (H2:∀ e h',strP s i=.error e→Kb b h h'→Rx h' b s e→Q (bs []) h'):(JB (some ⟨b,0,none⟩)).wp h Q:=by
 unfold JB
 have hbl:=R.lt
 have main:∀ (h1:Heap),Kb b h h1→((∃ j,Vf s [39] i=.ok j∧Rgd h1 b s j)∨∃ e,strP s i=.error e∧Rx h1 b s e)→(M.loop (JO (some ⟨b,0,none⟩)) Sl.nil).wp h1 Q:=by
  intro h1 K1 hst
  have hb1:b < h1.size:=Nat.lt_of_lt_of_le hbl K1.size
  refine M.loop_inv (fun (x:Sl) hh=>(∃ (acc:List UInt8) (f i':Nat),s.length < f+i'∧acc.length≤i'∧Kb b h1 hh∧Rgd hh b s i'∧Gw h1.size hh x 1 (acc.map bv)∧strL s f i' acc=strP s i)∨∃ e,strP s i=.error e∧Kb b h1 hh∧Rx hh b s e)
   (fun x hh=>match hh[b]? with | some (.cells #[_,_,.int _ z] _ _)=>if z < 0 then s.length+2 - x.len else 0 | _=>0) ?_ ?_
  ·rintro x hh hst self hself
   unfold JO
   rcases hst with ⟨acc,f,i',hf,hai,K,R',G,hm⟩ | ⟨e,he,K,X⟩
   ·have hsm:=R'.small
    have hle:=R'.le
    have hxl:=G.len
    rw [List.length_map,Nat.mul_one] at hxl
    have hmu:(match hh[b]? with | some (.cells #[_,_,.int _ z] _ _)=>if z < 0 then s.length+2 - x.len else 0 | _=>0)=s.length+2 - x.len:=by rw [R'.blk]; rfl
    rw [hmu] at hself
    have bad:∀ (e:Nat) (h2:Heap) (x2:Sl),strP s i=.error e→Kb b h1 h2→Rx h2 b s e→(self x2).wp h2 Q:=by
     intro e h2 x2 he K2 X2
     refine hself _ _ (.inr ⟨e,he,K2,X2⟩) ?_
     obtain ⟨k,_,_,g⟩:=X2
     rw [g]
     show (if ((e:Nat):Int) < 0 then s.length+2 - x2.len else 0) < _
     rw [if_neg (by omega)]
     omega
    obtain ⟨f,rfl⟩:∃ g,f=g+1:=⟨f - 1,by omega⟩
    rw [strL] at hm
    refine Kx (KFt R' (iteT rfl (KJ (WH R' ?_))))
    refine Kx (Kx (KAw R' (KFs R' ?_)))
    rw [Kw]
    have hfail:¬ KI s i'=39→((KI s i').toNat < 32∨126 < (KI s i').toNat)→(ZC self (some ⟨b,0,none⟩) x ((KI s i').toNat:Int) true).wp hh Q:=by
     intro h39 hbad
     rw [if_neg h39,if_pos hbad] at hm
     unfold ZC
     exact iteT rfl (VQ R' (fun h2 u X=>bad _ _ _ hm.symm (K.trans (Km.upd u rfl)) X))
    refine KW (fun hge=>?_) (fun hlt=>?_)
    ·have h0:KI s i'=0:=by unfold KI; rw [List.getElem?_eq_none (by have:=of_decide_eq_true hge; omega)]; rfl
     exact hfail (by rw [h0]; decide) (.inl (by rw [h0]; decide))
    have hil:i' < s.length:=by have:=of_decide_eq_false hlt; omega
    refine KW (fun h32=>?_) (fun h32=>?_)
    ·have h32:=of_decide_eq_true h32
     exact hfail (fun e=>by rw [e] at h32; exact absurd h32 (by decide)) (.inl (by omega))
    have h32:=of_decide_eq_false h32
    by_cases h126:126 < (KI s i').toNat
    ·rw [decide_eq_true (show ((KI s i').toNat:Int) > 126 by omega)]
     exact hfail (fun e=>by rw [e] at h126; exact absurd h126 (by decide)) (.inr h126)
    rw [decide_eq_false (show ¬ ((KI s i').toNat:Int) > 126 by omega)]
    unfold ZC
    refine iteF rfl ?_
    rw [u8_c (d:=39) (n:=39) rfl,u8_c (d:=92) (n:=92) rfl]
    refine KW (fun h39=>?_) (fun h39=>?_)
    ·have h39:=of_decide_eq_true h39
     rw [if_pos h39] at hm
     refine YM R' hil (fun h2 u2 R2=>?_)
     have G2:Gw h1.size h2 x 1 (acc.map bv):=G.same (fun k hk=>u2.ne k (fun e=>by have:=(G.lt hk).2; omega))
     refine KK6 (ns:=acc) hxl G2.reads (KB ?_)
     exact H1 _ _ _ hm.symm (K1.trans (K.trans (Km.upd u2 rfl))) R2
    have h39:=of_decide_eq_false h39
    rw [if_neg h39,if_neg (by omega)] at hm
    have next:∀ (c:UInt8) (i2:Nat) (h3:Heap),i' < i2→Kb b h1 h3→Gw h1.size h3 x 1 (acc.map bv)→(∀ h4 r4,Kb b h1 h4→h4[b]?=h3[b]?→Gw h1.size h4 r4 1 ((acc++[c]).map bv)→(self r4).wp h4 Q) →
      (bdL Zm 1 #[.int .u8 (c.toNat:Int)]>>=fun y=>apL Zm 1 1 (#[.int .u8 0]:Array Value) x y>>=fun z=>self z).wp h3 Q:=by
     intro c i2 h3 hi2 K3 G3 hk
     refine KE5 G3 K3.size (by omega) (fun h4 r4 G4 hs4 same4=>?_)
     exact hk h4 r4 ⟨Nat.le_trans K3.size hs4,fun k hk hkb=>(same4 k hk).trans (K3.same k hk hkb)⟩ (same4 b hb1) G4
    have good:∀ (c:UInt8) (i2:Nat) (h3:Heap),i' < i2→Kb b h1 h3→Rgd h3 b s i2→Gw h1.size h3 x 1 (acc.map bv)→strL s f i2 (acc++[c])=strP s i →
      (bdL Zm 1 #[.int .u8 (c.toNat:Int)]>>=fun y=>apL Zm 1 1 (#[.int .u8 0]:Array Value) x y>>=fun z=>self z).wp h3 Q:=by
     intro c i2 h3 hi2 K3 R3 G3 hm3
     refine next c i2 h3 hi2 K3 G3 (fun h4 r4 K4 hb4 G4=>?_)
     have hl4:=G4.len
     rw [List.length_map,List.length_append,List.length_singleton,Nat.mul_one] at hl4
     have R4:Rgd h4 b s i2:=⟨by rw [hb4]; exact R3.blk,R3.le,R3.small⟩
     have hle2:=R3.le
     refine hself _ _ (.inl ⟨acc++[c],f,i2,by omega,by rw [List.length_append,List.length_singleton]; omega,K4,R4,G4,hm3⟩) ?_
     rw [R4.blk]
     show (if (-1:Int) < 0 then s.length+2 - r4.len else 0) < _
     rw [if_pos (by decide)]
     omega
    refine KW (fun h92=>?_) (fun h92=>?_)
    ·rw [if_pos (of_decide_eq_true h92)] at hm
     refine YM R' hil (fun h2 u2 R2=>?_)
     have K2:Kb b h1 h2:=K.trans (Km.upd u2 rfl)
     have G2:Gw h1.size h2 x 1 (acc.map bv):=G.same (fun k hk=>u2.ne k (fun e=>by have:=(G.lt hk).2; omega))
     refine KJ (KLg R2 (fun c j2 h3 he K3 R3=>?_) (fun e h3 he K3 X3=>?_))
     ·rw [he] at hm
      exact good c j2 h3 (by have:=KEL he; omega) (K2.trans K3) R3 (G2.same (fun k hk=>K3.same k (G2.lt hk).1 (fun e=>by have:=(G2.lt hk).2; omega))) hm
     ·rw [he] at hm
      refine next 0 (i'+1) h3 (by omega) (K2.trans K3) (G2.same (fun k hk=>K3.same k (G2.lt hk).1 (fun e=>by have:=(G2.lt hk).2; omega))) (fun h4 r4 K4 hb4 G4=>?_)
      obtain ⟨q,q1,q2,q3⟩:=X3
      exact bad e h4 r4 hm.symm K4 ⟨q,q1,q2,hb4.trans q3⟩
    ·rw [if_neg (of_decide_eq_false h92)] at hm
     refine YM R' hil (fun h2 u2 R2=>?_)
     have K2:Kb b h1 h2:=K.trans (Km.upd u2 rfl)
     have G2:Gw h1.size h2 x 1 (acc.map bv):=G.same (fun k hk=>u2.ne k (fun e=>by have:=(G.lt hk).2; omega))
     exact good _ (i'+1) h2 (by omega) K2 R2 G2 hm
   ·refine Kx (KEV X (iteF (decide_eq_false (by omega)) (KB ?_)))
    exact H2 e hh he (K1.trans K) X
  ·rcases hst with ⟨j,hj,R1⟩ | ⟨e,he,X⟩
   ·refine .inl ⟨[],s.length+1 - j,j,by have:=R1.le; omega,Nat.zero_le _,Km.refl _ _,R1,Gw.nil _ _ _,?_⟩
    unfold strP
    rw [hj]
   ·exact .inr ⟨e,he,Km.refl _ _,X⟩
 refine KJ (GA (lit:=[39]) R (by decide) (fun j h1 hj K1 R1=>main h1 K1 (.inl ⟨j,hj,R1⟩)) (fun e h1 hj K1 X1=>main h1 K1 (.inr ⟨e,?_,X1⟩)))
 unfold strP
 rw [hj]
theorem KHR {h:Heap} {Q:Array Value→Heap→Prop} {g:Nat} {z cs:Array Value} {t:TypeId} (hg:h[g]?=some (.cells z t (0,0))) (hz:z.size=4) (hc:cs.size=4) (h1:∀ v ∈ cs.toList,one v=true)
  (H:∀ h',Upd g h h'→Q cs h'):(M.need (cs.size=4)>>=fun _=>stG ⟨g,0,none⟩ cs>>=fun _=>ldG 4 ⟨g,0,none⟩>>=fun r=>(M.pure r:M (Array Value))).wp h Q:=by
 refine JI hc (stR hg (by omega) h1 (fun h' u g'=>?_))
 rw [ZB (by rw [Array.length_toList]; omega)] at g'
 exact ldR g' hc (KB (H _ u))
theorem KJB {β:Type} {h:Heap} {Q:β→Heap→Prop} {n:Int} {f:Array Value→M β} (H:∀ h',Ext h h'→(f (ZW 1 n [] Sl.nil)).wp h' Q):(Vn n>>=f).wp h Q:=KIN (cs:=ZW 1 n [] Sl.nil) rfl (Z4 _ _ _ _) H
theorem KHS {β:Type} {h:Heap} {Q:β→Heap→Prop} {s:List UInt8} {f:Array Value→M β} (H:∀ h',Ext h h'→(f (ZW 2 0 s Sl.nil)).wp h' Q):(Vo (bs s)>>=f).wp h Q:=KIN (cs:=ZW 2 0 s Sl.nil) rfl (Z4 _ _ _ _) H
theorem KAB {β:Type} {h:Heap} {Q:β→Heap→Prop} {c:Bool} {f:Array Value→M β} (H:∀ h',Ext h h'→(f (ZW 3 (if c=true then 1 else 0) [] Sl.nil)).wp h' Q):(Jt c>>=f).wp h Q:=by
 unfold Jt
 refine Kf (Zv (fun h1 e1 hs1 g1=>?_))
 have key:∀ n:Int,(∀ h',Ext h h'→(f (ZW 3 n [] Sl.nil)).wp h' Q)→((M.need ((ZW 3 n [] Sl.nil).size=4)>>=fun _=>stG ⟨h.size,0,none⟩ (ZW 3 n [] Sl.nil)>>=fun _=>ldG 4 ⟨h.size,0,none⟩>>=fun r=>(M.pure r:M (Array Value)))>>=f).wp h1 Q:=by
  intro n HH
  refine Kf (JI rfl (Kf (stR (cs:=vz) (vs:=ZW 3 n [] Sl.nil) g1 (Nat.le_refl 4) (Z4 _ _ _ _) (fun h2 u2 g2=>Kf ?_))))
  rw [ZB (cs:=vz) (vs:=(ZW 3 n [] Sl.nil).toList) rfl] at g2
  exact ldR g2 rfl (Ko (HH _ (e1.upd u2 (Nat.le_refl _))))
 refine KD1 (fun hc=>?_) (fun hc=>?_)
 ·subst hc; exact key 1 H
 ·subst hc; exact key 0 H
def KLi (s:List UInt8) (d:Nat):Prop:=∀ (i:Nat) (h:Heap) (Q:Array Value→Heap→Prop) (b:Nat),Rgd h b s i →
 (∀ v j h' c,pval s d i=.ok (v,j)→Kb b h h'→Rgd h' b s j→Zk (HS h h') h' v c→Q c h') →
 (∀ e v h' c,pval s d i=.error e→Kb b h h'→Rx h' b s e→Zk (HS h h') h' v c→Q c h')→(ZV (some ⟨b,0,none⟩) ((8 - d:Nat):Int)).wp h Q
def KIg (two:Bool):List UInt8:=if two=true then [58,32] else [44,32]
theorem KHT {s:List UInt8} {d:Nat} (hd:d≤7) (IH:KLi s d) {en:UInt8} (hen:en≠0) (hen2:en≠44) {two:Bool} {i:Nat} {h:Heap} {Q:Sl→Heap→Prop} {b:Nat} (R:Rgd h b s (i+1)) (hi:i < s.length)
  (H1:∀ l j h' r,UA (pval s d) en two s (s.length - i) [] (i+1)=.ok (l,j)→Kb b h h'→Rgd h' b s j→VsRepS (HS h h') h' r l→Q r h')
  (H2:∀ e h',UA (pval s d) en two s (s.length - i) [] (i+1)=.error e→Kb b h h'→Rx h' b s e→Q Sl.nil h') :
  (UW (some ⟨b,0,none⟩) ((7 - d:Nat):Int) (bs (KIg two)) (en.toNat:Int)).wp h Q:=by
 unfold UW
 have hP:=KCU s d
 have hb1:=R.lt
 generalize htgt:UA (pval s d) en two s (s.length - i) [] (i+1)=tgt at H1 H2
 refine KJ (WH R ?_)
 rw [u8_c (d:=en) (n:=(en.toNat:Int)) rfl]
 obtain ⟨f0,hf0⟩:∃ f0,s.length - i=f0+1:=⟨s.length - i - 1,by omega⟩
 rw [hf0,UA] at htgt
 refine KW (fun heq=>?_) (fun hne=>?_)
 ·have heq:=of_decide_eq_true heq
  rw [if_pos heq] at htgt
  refine YM R (Zz (by rw [heq]; exact hen)) (fun h2 u2 R2=>KB ?_)
  exact H1 [] _ h2 Sl.nil htgt.symm (Km.upd u2 rfl) R2 ⟨rfl,Nat.le_refl _,by decide,by rw [YY]; trivial⟩
 have hne:=of_decide_eq_false hne
 rw [if_neg hne] at htgt
 have hsep0:sepP ([]:List Vl) s (i+1)=.ok (i+1):=rfl
 rw [hsep0] at htgt
 let T (f:Nat) (l:List Vl) (i1:Nat):Except Nat (List Vl × Nat):=match U4 (pval s d) two s i1 with
  | .error e=>.error e
  | .ok (vs,i2)=>if KI s i2≠en∧KI s i2≠44 then .error i2 else UA (pval s d) en two s f (l++vs) i2
 let C (f:Nat) (l:List Vl) (i2:Nat):Except Nat (List Vl × Nat):=if KI s i2≠en∧KI s i2≠44 then .error i2 else UA (pval s d) en two s f l i2
 let B (f:Nat) (l:List Vl) (i1:Nat):Except Nat (List Vl × Nat):=match pval s d i1 with
  | .error e=>.error e
  | .ok (w,j)=>C f (l++[w]) j
 refine M.loop_inv (fun (x:Sl) hh=>(∃ (l:List Vl) (css:List (Array Value)) (f i':Nat),s.length < f+1+i'∧l.length≤i'∧Kb b h hh∧Rgd hh b s i'∧VGw h.size (fun k=>h.size≤k∧k < hh.size∧¬ Sl.on x k) hh x css l ∧
   ((two=false∧T f l i'=tgt)∨(two=true∧l.length % 2=0∧T f l i'=tgt)∨(two=true∧l.length % 2=1∧B f l i'=tgt)))∨∃ e,tgt=.error e∧Kb b h hh∧Rx hh b s e)
  (fun x hh=>match hh[b]? with | some (.cells #[_,_,.int _ z] _ _)=>if z < 0 then s.length+2 - x.len else 0 | _=>0) ?_ ?_
 ·rintro x hh hst self hself
  unfold Jp
  rcases hst with ⟨l,css,f,i',hf,hli,K,R',G,hm⟩ | ⟨e,he,K,X⟩
  ·have hsm:=R'.small
   have hle:=R'.le
   have hxl:x.len=l.length:=by rw [G.gw.len4 G.w4,G.len]
   have hKs:=K.size
   have hmu:(match hh[b]? with | some (.cells #[_,_,.int _ z] _ _)=>if z < 0 then s.length+2 - x.len else 0 | _=>0)=s.length+2 - x.len:=by rw [R'.blk]; rfl
   rw [hmu] at hself
   have bad:∀ (e:Nat) (h2:Heap) (x2:Sl),tgt=.error e→Kb b h h2→Rx h2 b s e→(self x2).wp h2 Q:=by
    intro e h2 x2 he K2 X2
    refine hself _ _ (.inr ⟨e,he,K2,X2⟩) ?_
    obtain ⟨k,_,_,g⟩:=X2
    rw [g]
    show (if ((e:Nat):Int) < 0 then s.length+2 - x2.len else 0) < _
    rw [if_neg (by omega)]
    omega
   refine Kx (KFt R' (iteT rfl ?_))
   rw [w64 (by omega) (by omega),show (((7 - d:Nat):Int)+1)=((8 - d:Nat):Int) by omega]
   have one_:∀ {F:Sl→M Sl},(∀ v j h3 x3 css3,pval s d i'=.ok (v,j)→Kb b h h3→Rgd h3 b s j→VGw h.size (fun k=>h.size≤k∧k < h3.size∧¬ Sl.on x3 k) h3 x3 css3 (l++[v])→(F x3).wp h3 Q) →
     (∀ e h3 x3,pval s d i'=.error e→Kb b h h3→Rx h3 b s e→x3.len=l.length+1→(F x3).wp h3 Q) →
     (Y8 Go.Proofs.Tryz.prog ZY #[.pointer (some ⟨b,0,none⟩),.int .i64 ((8 - d:Nat):Int)] (fun r:Array Value=>.agg r)>>=fun Xx24 =>
      (N4 4 1 (#[.int .i64 0,.int .i64 0,.string ByteArray.empty,.slice none 0 0]:Array Value) [(0,.agg Xx24)]>>=fun y=>bdL KE 1 y>>=fun z=>apL KE 4 56 (#[.int .i64 0,.int .i64 0,.string ByteArray.empty,.slice none 0 0]:Array Value) x z>>=F)).wp hh Q:=by
    intro F HF HE
    have put:∀ (v:Vl) (h3:Heap) (c:Array Value),Kb b hh h3→Zk (HS hh h3) h3 v c→(∀ h4 x4 css4,Kb b h h4→h4[b]?=h3[b]?→VGw h.size (fun k=>h.size≤k∧k < h4.size∧¬ Sl.on x4 k) h4 x4 css4 (l++[v])→(F x4).wp h4 Q) →
      (N4 4 1 (#[.int .i64 0,.int .i64 0,.string ByteArray.empty,.slice none 0 0]:Array Value) [(0,.agg c)]>>=fun y=>bdL KE 1 y>>=fun z=>apL KE 4 56 (#[.int .i64 0,.int .i64 0,.string ByteArray.empty,.slice none 0 0]:Array Value) x z>>=F).wp h3 Q:=by
     intro v h3 c K3 V3 hk
     have hK3:=K3.size
     have G3:VGw h.size (fun k=>h.size≤k∧k < h3.size∧¬ Sl.on x k) h3 x css l :=
      (G.same (fun k hk=>K3.same k (G.gw.lt hk).1 (fun e=>by have:=(G.gw.lt hk).2; omega)) (fun k hk=>K3.same k hk.2.1 (fun e=>by have:=hk.1; omega))).mono (fun k hk=>⟨hk.1,by have:=hk.2.1; omega,hk.2.2⟩)
     refine KGw G3 (fun k hk=>hk.2) (V3.mono (fun k hk=>⟨by have:=hk.1; omega,hk.2,fun ho=>by have:=(G.gw.lt ho).1; have:=hk.1; omega⟩)) (by omega) (by omega) (fun h4 x4 G4 hs4 same4 on4=>?_)
     refine hk h4 x4 _ ⟨by omega,fun k hk hkb=>(same4 k (by omega) (fun ho=>by have:=(G.gw.lt ho).2; omega)).trans ((K.trans K3).same k hk hkb)⟩ (same4 b (by omega) (fun ho=>by have:=(G.gw.lt ho).2; omega)) (G4.mono (fun k hk=>⟨hk.1,by have:=hk.2.1; omega,fun ho=>(on4 k ho).elim hk.2.2 (fun h=>by have:=hk.2.1; omega)⟩))
    refine KJ (Xa (U5 _ _) (IH i' hh _ b R' (fun v j h3 c hv K3 R3 V3=>?_) (fun e v h3 c hv K3 X3 V3=>?_)))
    ·exact put v h3 c K3 V3 (fun h4 x4 css4 K4 hb4 G4=>HF v j h4 x4 css4 hv K4 ⟨by rw [hb4]; exact R3.blk,R3.le,R3.small⟩ G4)
    ·refine put v h3 c K3 V3 (fun h4 x4 css4 K4 hb4 G4=>?_)
     obtain ⟨q,q1,q2,q3⟩:=X3
     exact HE e h4 x4 hv K4 ⟨q,q1,q2,hb4.trans q3⟩ (by rw [G4.gw.len4 G4.w4,G4.len,List.length_append,List.length_singleton])
   have hev:sEq (bs (KIg two)) (⟨#[44,32]⟩:ByteArray)=!two:=by
    rw [show (⟨#[44,32]⟩:ByteArray)=bs [44,32] from rfl,KEz]
    cases two <;> decide
   rw [hev]
   have hmod:∀ k:Nat,(Int.tmod (k:Int) 2)=((k % 2:Nat):Int):=fun k=>(Int.ofNat_tmod k 2).symm
   have whole:∀ (l2:List Vl) (css2:List (Array Value)) (j:Nat) (h3:Heap) (x3:Sl),i' < j→l2.length=l.length+1→Kb b h h3→Rgd h3 b s j→VGw h.size (fun k=>h.size≤k∧k < h3.size∧¬ Sl.on x3 k) h3 x3 css2 l2→(two=true→l2.length % 2=0)→C f l2 j=tgt →
     (M.ite (decide (KI s j=en)) (nilP (some (⟨b,0,none⟩:Addr))>>=fun x50=>ldI .i64 ((x50).add 1)>>=fun x52=>nilP (some (⟨b,0,none⟩:Addr))>>=fun x54=>stV ((x54).add 1) (.int .i64 (IntKind.wrap .i64 (x52+1)))>>=fun _=>M.pure x3)
      (M.ite ((Int.tmod (x3.len:Int) 2) == 1) (KN (some ⟨b,0,none⟩) (bs (KIg two))>>=fun _=>self x3) (KN (some ⟨b,0,none⟩) (⟨#[44,32]⟩:ByteArray)>>=fun _=>self x3)):M Sl).wp h3 Q:=by
    intro l2 css2 j h3 x3 hij hl2 K3 R3 G3 hpar hC
    have hj:=R3.le
    have hx3:x3.len=l2.length:=by rw [G3.gw.len4 G3.w4,G3.len]
    refine KW (fun heq=>?_) (fun hne=>?_)
    ·have heq:=of_decide_eq_true heq
     have hjl:j < s.length:=Zz (by rw [heq]; exact hen)
     obtain ⟨f',rfl⟩:∃ f',f=f'+1:=⟨f - 1,by omega⟩
     refine YM R3 hjl (fun h4 u4 R4=>KB ?_)
     have hu4:=u4.size
     have hC':tgt=.ok (l2,j+1):=by
      rw [← hC]
      show (if KI s j≠en∧KI s j≠44 then _ else _)=_
      rw [if_neg (fun hh=>hh.1 heq),UA,if_pos heq]
     have G4:=G3.same (fun k hk=>u4.ne k (fun e=>by have:=(G3.gw.lt hk).2; omega)) (fun k hk=>u4.ne k (fun e=>by have:=hk.1; omega))
     refine H1 l2 (j+1) h4 x3 hC' (K3.trans (Km.upd u4 rfl)) R4 ?_
     refine (G4.rep_ (by omega)).same (fun _ _=>rfl) (fun k hk=>?_)
     rcases hk with hk | hk
     ·exact ⟨by have:=hk.1; omega,by have:=hk.2.1; omega⟩
     ·have:=G4.gw.lt hk
      exact ⟨by omega,by omega⟩
    ·have hne:=of_decide_eq_false hne
     have hmust:(KN (some ⟨b,0,none⟩) (bs [44,32])>>=fun _=>self x3).wp h3 Q:=by
      refine KJ (GA (lit:=[44,32]) R3 (by decide) (fun j2 h4 hj2 K4 R4=>?_) (fun e h4 hj2 K4 X4=>?_))
      ·have hj2':=UD hj2
       have h44:KI s j=44:=by
        rw [Vf] at hj2
        split at hj2
        ·rename_i hc
         unfold KI; rw [hc]; rfl
        ·cases hj2
       have hjl:j < s.length:=Zz (by rw [h44]; decide)
       obtain ⟨f',rfl⟩:∃ f',f=f'+1:=⟨f - 1,by omega⟩
       have hT:T f' l2 j2=tgt:=by
        rw [← hC]
        show _=(if KI s j≠en∧KI s j≠44 then _ else _)
        rw [if_neg (fun hh=>hh.2 h44),UA,if_neg hne]
        unfold sepP
        rw [if_neg (by omega),hj2]
        all_goals rfl
       have hK4:=K4.size
       have hK3:=K3.size
       have G4:VGw h.size (fun k=>h.size≤k∧k < h4.size∧¬ Sl.on x3 k) h4 x3 css2 l2 :=
        (G3.same (fun k hk=>K4.same k (G3.gw.lt hk).1 (fun e=>by have:=(G3.gw.lt hk).2; omega)) (fun k hk=>K4.same k hk.2.1 (fun e=>by have:=hk.1; omega))).mono (fun k hk=>⟨hk.1,by have:=hk.2.1; omega,hk.2.2⟩)
       have hj2l:j2=j+2:=hj2'.1
       refine hself _ _ (.inl ⟨l2,css2,f',j2,by omega,by omega,K3.trans K4,R4,G4,?_⟩) ?_
       ·cases two with
        | false=>exact .inl ⟨rfl,hT⟩
        | true=>exact .inr (.inl ⟨rfl,hpar rfl,hT⟩)
       ·rw [R4.blk]
        show (if (-1:Int) < 0 then s.length+2 - x3.len else 0) < _
        rw [if_pos (by decide)]
        omega
      ·refine bad e h4 x3 ?_ (K3.trans K4) X4
       rw [← hC]
       show (if KI s j≠en∧KI s j≠44 then _ else _)=_
       by_cases h44:KI s j=44
       ·have hjl:j < s.length:=Zz (by rw [h44]; decide)
        obtain ⟨f',rfl⟩:∃ f',f=f'+1:=⟨f - 1,by omega⟩
        rw [if_neg (fun hh=>hh.2 h44),UA,if_neg hne]
        unfold sepP
        rw [if_neg (by omega),hj2]
       ·rw [if_pos ⟨hne,h44⟩]
        rw [Vf,if_neg] at hj2
        ·cases hj2; rfl
        ·intro hc
         refine h44 ?_
         unfold KI; rw [hc]; rfl
     refine KW (fun hodd=>?_) (fun heven=>?_)
     ·rw [hx3,hmod] at hodd
      have hodd:((l2.length % 2:Nat):Int)=1:=by simpa using hodd
      cases two with
      | true=>have:=hpar rfl; omega
      | false=>exact hmust
     ·exact hmust
   have hbadmust:∀ (e:Nat) (h3:Heap) (x3:Sl),tgt=.error e→Kb b h h3→Rx h3 b s e→(M.ite ((Int.tmod (x3.len:Int) 2) == 1) (KN (some ⟨b,0,none⟩) (bs (KIg two))>>=fun _=>self x3) (KN (some ⟨b,0,none⟩) (⟨#[44,32]⟩:ByteArray)>>=fun _=>self x3):M Sl).wp h3 Q:=by
    intro e h3 x3 he K3 X3
    refine KW (fun _=>?_) (fun _=>?_)
    ·cases two with
     | true=>exact KJ (KCg (c:=58) (r:=[32]) X3 (by decide) (bad e h3 x3 he K3 X3))
     | false=>exact KJ (KCg (c:=44) (r:=[32]) X3 (by decide) (bad e h3 x3 he K3 X3))
    ·exact KJ (KCg (c:=44) (r:=[32]) X3 (by decide) (bad e h3 x3 he K3 X3))
   refine one_ (fun v j h3 x3 css3 hv K3 R3 G3=>?_) (fun e h3 x3 hv K3 X3 hx3=>?_)
   ·have hvj:=hP _ _ _ hv
    have hx3:x3.len=(l++[v]).length:=by rw [G3.gw.len4 G3.w4,G3.len]
    have hll:(l++[v]).length=l.length+1:=by simp
    rw [hx3,hmod]
    rcases hm with ⟨h2,hm⟩ | ⟨h2,hpar,hm⟩ | ⟨h2,hpar,hm⟩
    ·subst h2
     have hC:C f (l++[v]) j=tgt:=by
      rw [← hm]
      show _=(match U4 (pval s d) false s i' with | .error e=>_ | .ok (vs,i2)=>_)
      have hpair:U4 (pval s d) false s i'=.ok ([v],j):=by unfold U4; rw [hv]; rfl
      rw [hpair]
     refine or_b (c:=false) (fun h=>by cases h) (Jl (c:=decide (KI s j=en)) (fun _ Q' hq=>KJ (WH R3 (KB (by rw [u8_c (d:=en) (n:=(en.toNat:Int)) rfl]; exact hq)))) ?_)
     have:=whole _ _ j h3 x3 (by omega) hll K3 R3 G3 (fun h=>by cases h) hC
     rw [hx3,hmod] at this
     exact this
    ·subst h2
     refine or_b (c:=false) (fun _ Q' hq=>KB ?_) (Jl (c:=false) (fun h=>by cases h) (iteF rfl ?_))
     ·rw [show (((((l++[v]).length % 2:Nat)):Int) == 0)=false by rw [eqI]; exact decide_eq_false (by omega)]
      exact hq
     refine iteT (by rw [eqI]; exact decide_eq_true (by omega)) ?_
     refine KJ (GA (lit:=[58,32]) R3 (by decide) (fun j2 h4 hj2 K4 R4=>?_) (fun e h4 hj2 K4 X4=>?_))
     ·have hK4:=K4.size
      have hK3:=K3.size
      have G4:VGw h.size (fun k=>h.size≤k∧k < h4.size∧¬ Sl.on x3 k) h4 x3 css3 (l++[v]) :=
       (G3.same (fun k hk=>K4.same k (G3.gw.lt hk).1 (fun e=>by have:=(G3.gw.lt hk).2; omega)) (fun k hk=>K4.same k hk.2.1 (fun e=>by have:=hk.1; omega))).mono (fun k hk=>⟨hk.1,by have:=hk.2.1; omega,hk.2.2⟩)
      have hj2l:j2=j+2:=(UD hj2).1
      have hB:B f (l++[v]) j2=tgt:=by
       rw [← hm]
       show (match pval s d j2 with | .error e=>_ | .ok (w,j)=>_)=(match U4 (pval s d) true s i' with | .error e=>_ | .ok (vs,i2)=>_)
       unfold U4
       rw [hv]
       dsimp only
       rw [if_pos rfl,hj2]
       dsimp only
       cases hw:pval s d j2 with
       | error e=>rfl
       | ok p =>
        obtain ⟨w,j3⟩:=p
        dsimp only
        show (if KI s j3≠en∧KI s j3≠44 then _ else _)=_
        rw [List.append_assoc]
        rfl
      refine hself _ _ (.inl ⟨l++[v],css3,f,j2,by omega,by omega,K3.trans K4,R4,G4,.inr (.inr ⟨rfl,by omega,hB⟩)⟩) ?_
      rw [R4.blk]
      show (if (-1:Int) < 0 then s.length+2 - x3.len else 0) < _
      rw [if_pos (by decide)]
      have:=R4.le
      omega
     ·refine bad e h4 x3 ?_ (K3.trans K4) X4
      rw [← hm]
      show (match U4 (pval s d) true s i' with | .error e=>_ | .ok (vs,i2)=>_)=_
      unfold U4
      rw [hv]
      dsimp only
      rw [if_pos rfl,hj2]
    ·subst h2
     have hC:C f (l++[v]) j=tgt:=by
      rw [← hm]
      show _=(match pval s d i' with | .error e=>_ | .ok (w,j)=>_)
      rw [hv]
     refine or_b (c:=true) (fun _ Q' hq=>KB ?_) (Jl (c:=decide (KI s j=en)) (fun _ Q' hq=>KJ (WH R3 (KB (by rw [u8_c (d:=en) (n:=(en.toNat:Int)) rfl]; exact hq)))) ?_)
     ·rw [show (((((l++[v]).length % 2:Nat)):Int) == 0)=true by rw [eqI]; exact decide_eq_true (by omega)]
      exact hq
     have:=whole _ _ j h3 x3 (by omega) hll K3 R3 G3 (fun _=>by omega) hC
     rw [hx3,hmod] at this
     exact this
   ·have herr:tgt=.error e:=by
     rcases hm with ⟨h2,hm⟩ | ⟨h2,hpar,hm⟩ | ⟨h2,hpar,hm⟩
     ·rw [← hm]
      show (match U4 (pval s d) two s i' with | .error e=>_ | .ok (vs,i2)=>_)=_
      unfold U4
      rw [hv]
     ·rw [← hm]
      show (match U4 (pval s d) two s i' with | .error e=>_ | .ok (vs,i2)=>_)=_
      unfold U4
      rw [hv]
     ·rw [← hm]
      show (match pval s d i' with | .error e=>_ | .ok (w,j)=>_)=_
      rw [hv]
    refine or_b (c:=((Int.tmod (x3.len:Int) 2) == 0)) (fun _ Q' hq=>KB hq) (Jl (c:=false) (fun _ Q' hq=>KJ (KAy X3 (KB ?_))) ?_)
    ·rw [show ((0:Int) == (en.toNat:Int))=false by
      rw [eqI]
      refine decide_eq_false (fun e=>hen (UInt8.toNat_inj.1 ?_))
      show en.toNat=0
      omega]
     exact hq
    ·rw [Bool.and_false]
     exact iteF rfl (hbadmust e h3 x3 herr K3 X3)
  ·refine Kx (KEV X (iteF (decide_eq_false (by omega)) (KB ?_)))
   exact H2 e hh he K X
 ·refine .inl ⟨[],[],f0,i+1,by omega,Nat.zero_le _,Km.refl _ _,R,VGw.nil _ _ _,?_⟩
  cases two with
  | false=>exact .inl ⟨rfl,htgt⟩
  | true=>exact .inr (.inl ⟨rfl,rfl,htgt⟩)
end Gx
namespace Gx
open Go Go.Proofs Go.Shelf Go.RowKit Go.Lib
set_option linter.unusedVariables false
set_option linter.unusedSimpArgs false
set_option maxRecDepth 100000
theorem KJC (S:Nat→Prop) (h:Heap):Zk S h (.mk 0 0 [] []) (ZW 0 0 [] Sl.nil):=KCV S h ⟨by decide,by decide⟩ ⟨by decide,by decide⟩ (by decide)
theorem KFL (s:List UInt8):∀ d,d≤8→KLi s d
 | 0,_=>fun i h Q b R H1 H2=>by
  unfold ZV
  refine Zv (fun h1 e1 hs1 g1=>iteT (by rfl) (VQ (R.ext e1) (fun h2 u2 X2=>?_)))
  have hbl:=R.lt
  refine KHR (cs:=ZW 0 0 [] Sl.nil) ((u2.ne _ (by omega)).trans g1) rfl rfl (Z4 _ _ _ _) (fun h3 u3=>?_)
  have Ku:Kb b h1 h2:=Km.upd u2 rfl
  have Kh:Kb b h h2:=(Km.ext e1).trans Ku
  exact H2 i (.mk 0 0 [] []) h3 _ rfl (Kh.own u3 (Nat.le_refl _)) (X2.upd u3 (by omega)) (KJC _ _)
 | d+1,hd=>fun i h Q b R H1 H2=>by
  have IH:=KFL s d (by omega)
  unfold ZV
  refine Zv (fun h1 e1 hs1 g1=>iteF (decide_eq_false (by omega)) ?_)
  have R1:=R.ext e1
  have hbl:=R.lt
  have K1:Kb b h h1:=Km.ext e1
  have fin:∀ (v:Vl) (cs:Array Value) (h2:Heap),Kb b h1 h2→Zk (fun k=>h1.size≤k∧k < h2.size) h2 v cs→(∀ h3,Kb b h h3→h3[b]?=h2[b]?→Zk (HS h h3) h3 v cs→Q cs h3) →
    (M.need (cs.size=4)>>=fun _=>stG ⟨h.size,0,none⟩ cs>>=fun _=>ldG 4 ⟨h.size,0,none⟩>>=fun r=>(M.pure r:M (Array Value))).wp h2 Q:=by
   intro v cs h2 K2 V2 hk
   have g2:=K2.blk g1 (show ¬ h.size=b by omega)
   refine KHR g2 rfl V2.size V2.to.one (fun h3 u3=>hk h3 ?_ (u3.ne b (by omega)) ?_)
   ·have:=K1.trans K2
    exact ⟨by rw [u3.size]; exact this.size,fun q hq hqb=>(u3.ne q (by omega)).trans (this.same q hq hqb)⟩
   ·have hu:=u3.size
    exact (V2.same (fun k hk=>u3.ne k (by omega))).mono (fun k hk=>⟨by omega,by omega⟩)
  have finG:∀ (v:Vl) (cs:Array Value) (j:Nat) (h2:Heap),pval s (d+1) i=.ok (v,j)→Kb b h1 h2→Rgd h2 b s j→Zk (fun k=>h1.size≤k∧k < h2.size) h2 v cs →
    (M.need (cs.size=4)>>=fun _=>stG ⟨h.size,0,none⟩ cs>>=fun _=>ldG 4 ⟨h.size,0,none⟩>>=fun r=>(M.pure r:M (Array Value))).wp h2 Q :=
   fun v cs j h2 hv K2 R2 V2=>fin v cs h2 K2 V2 (fun h3 K3 hb3 V3=>H1 v j h3 cs hv K3 ⟨by rw [hb3]; exact R2.blk,R2.le,R2.small⟩ V3)
  have finX:∀ (v:Vl) (cs:Array Value) (e:Nat) (h2:Heap),pval s (d+1) i=.error e→Kb b h1 h2→Rx h2 b s e→Zk (fun k=>h1.size≤k∧k < h2.size) h2 v cs →
    (M.need (cs.size=4)>>=fun _=>stG ⟨h.size,0,none⟩ cs>>=fun _=>ldG 4 ⟨h.size,0,none⟩>>=fun r=>(M.pure r:M (Array Value))).wp h2 Q:=by
   intro v cs e h2 hv K2 X2 V2
   refine fin v cs h2 K2 V2 (fun h3 K3 hb3 V3=>H2 e v h3 cs hv K3 ?_ V3)
   obtain ⟨q,q1,q2,q3⟩:=X2
   exact ⟨q,q1,q2,hb3.trans q3⟩
  have scal:∀ {k n:Int} {t:List UInt8} {S:Nat→Prop} {h2:Heap},I64 k→I64 n→t.length≤1099511627776→Zk S h2 (.mk k n t []) (ZW k n t Sl.nil):=fun hk hn ht=>KCV _ _ hk hn (by omega)
  have hle:=R.le
  have hsm:=R.small
  have i1:I64 1:=⟨by decide,by decide⟩
  have i0:I64 0:=⟨by decide,by decide⟩
  rw [pval] at finG finX
  clear fin
  refine KJ (WH R1 ?_)
  refine or_b (c:=digB (KI s i)) (fun _ Q' hq=>KJ (YN (KB hq))) ?_
  rw [u8_c (d:=45) (n:=45) rfl]
  refine KW (fun hc=>?_) (fun hc=>?_)
  ·have hc:KI s i=45∨digB (KI s i)=true:=by rwa [Bool.or_eq_true,decide_eq_true_iff] at hc
   rw [if_pos hc] at finG finX
   refine KJ (KDp R1 (fun n j h2 hn K2 R2=>?_) (fun e h2 hn K2 X2=>?_))
   ·exact KJB (fun h3 e3=>finG (.mk 1 n [] []) _ j h3 (by rw [hn]) (K2.trans (Km.ext e3)) (R2.ext e3) (scal i1 (zZ hn hle).1 (by decide)))
   ·exact KJB (fun h3 e3=>finX (.mk 1 0 [] []) _ e h3 (by rw [hn]) (K2.trans (Km.ext e3)) (X2.ext e3) (scal i1 i0 (by decide)))
  have hc:¬ (KI s i=45∨digB (KI s i)=true):=fun hh=>by
   rw [← decide_eq_true_iff (p:=KI s i=45),← Bool.or_eq_true,hc] at hh
   cases hh
  rw [if_neg hc] at finG finX
  rw [u8_c (d:=39) (n:=39) rfl]
  refine KW (fun hc=>?_) (fun hc=>?_)
  ·rw [if_pos (of_decide_eq_true hc)] at finG finX
   refine KJ (KLh R1 (fun t j h2 ht K2 R2=>?_) (fun e h2 ht K2 X2=>?_))
   ·exact KHS (fun h3 e3=>finG (.mk 2 0 t []) _ j h3 (by rw [ht]) (K2.trans (Km.ext e3)) (R2.ext e3) (scal ⟨by decide,by decide⟩ i0 (by have:=(KCS ht).2.2; omega)))
   ·exact KHS (fun h3 e3=>finX (.mk 2 0 [] []) _ e h3 (by rw [ht]) (K2.trans (Km.ext e3)) (X2.ext e3) (scal ⟨by decide,by decide⟩ i0 (by decide)))
  rw [if_neg (of_decide_eq_false hc)] at finG finX
  rw [u8_c (d:=116) (n:=116) rfl]
  refine KW (fun hc=>?_) (fun hc=>?_)
  ·rw [if_pos (of_decide_eq_true hc)] at finG finX
   refine KJ (GA (lit:=[116,114,117,101]) R1 (by decide) (fun j h2 hj K2 R2=>?_) (fun e h2 hj K2 X2=>?_))
   ·exact KAB (fun h3 e3=>finG (.mk 3 1 [] []) _ j h3 (by rw [hj]) (K2.trans (Km.ext e3)) (R2.ext e3) (scal ⟨by decide,by decide⟩ i1 (by decide)))
   ·exact KAB (fun h3 e3=>finX (.mk 3 1 [] []) _ e h3 (by rw [hj]) (K2.trans (Km.ext e3)) (X2.ext e3) (scal ⟨by decide,by decide⟩ i1 (by decide)))
  rw [if_neg (of_decide_eq_false hc)] at finG finX
  rw [u8_c (d:=102) (n:=102) rfl]
  refine KW (fun hc=>?_) (fun hc=>?_)
  ·rw [if_pos (of_decide_eq_true hc)] at finG finX
   refine KJ (GA (lit:=[102,97,108,115,101]) R1 (by decide) (fun j h2 hj K2 R2=>?_) (fun e h2 hj K2 X2=>?_))
   ·exact KAB (fun h3 e3=>finG (.mk 3 0 [] []) _ j h3 (by rw [hj]) (K2.trans (Km.ext e3)) (R2.ext e3) (scal ⟨by decide,by decide⟩ i0 (by decide)))
   ·exact KAB (fun h3 e3=>finX (.mk 3 0 [] []) _ e h3 (by rw [hj]) (K2.trans (Km.ext e3)) (X2.ext e3) (scal ⟨by decide,by decide⟩ i0 (by decide)))
  rw [if_neg (of_decide_eq_false hc)] at finG finX
  rw [u8_c (d:=118) (n:=118) rfl,u8_c (d:=101) (n:=101) rfl]
  refine or_b (c:=decide (KI s i=101)) (fun _ Q' hq=>KB hq) ?_
  refine KW (fun hc=>?_) (fun hc=>?_)
  ·have hc:KI s i=118∨KI s i=101:=by rwa [Bool.or_eq_true,decide_eq_true_iff,decide_eq_true_iff] at hc
   have hil:i < s.length:=Zz (by rcases hc with h | h <;> (rw [h]; decide))
   suffices body:∀ k:Int,I64 k→(if decide (KI s i=118)=true then k=6 else k=7) →
     (∀ (v:Vl) (cs:Array Value) (j:Nat) (h2:Heap),Yn k s i=.ok (v,j)→Kb b h1 h2→Rgd h2 b s j→Zk (fun k=>h1.size≤k∧k < h2.size) h2 v cs→(M.need (cs.size=4)>>=fun _=>stG ⟨h.size,0,none⟩ cs>>=fun _=>ldG 4 ⟨h.size,0,none⟩>>=fun r=>(M.pure r:M (Array Value))).wp h2 Q) →
     (∀ (v:Vl) (cs:Array Value) (e:Nat) (h2:Heap),Yn k s i=.error e→Kb b h1 h2→Rx h2 b s e→Zk (fun k=>h1.size≤k∧k < h2.size) h2 v cs→(M.need (cs.size=4)>>=fun _=>stG ⟨h.size,0,none⟩ cs>>=fun _=>ldG 4 ⟨h.size,0,none⟩>>=fun r=>(M.pure r:M (Array Value))).wp h2 Q)→_ by
    by_cases h:KI s i=118
    ·rw [if_pos h] at finG finX
     exact body 6 ⟨by decide,by decide⟩ (by rw [if_pos (decide_eq_true h)]) finG finX
    ·rw [if_neg h,if_pos (hc.resolve_left h)] at finG finX
     exact body 7 ⟨by decide,by decide⟩ (by rw [if_neg (by simpa using h)]) finG finX
   clear finG finX
   intro k ik hkk finG finX
   refine YM R1 hil (fun h2 u2 R2=>?_)
   have K2:Kb b h1 h2:=Km.upd u2 rfl
   have g2:h2[h.size]?=some (.cells vz KE (0,0)):=(u2.ne _ (by omega)).trans g1
   have tail:∀ (n:Int) (h3:Heap),Kb b h2 h3→I64 n→(∀ h4,Kb b h1 h4→h4[b]?=h3[b]?→h4[h3.size]?=some (.cells (ZW k n [] Sl.nil) KE (0,0))→h4[h.size]?=some (.cells vz KE (0,0))→h3.size < h4.size→(Ke (some ⟨b,0,none⟩) ⟨h.size,0,none⟩ ⟨h3.size,0,none⟩).wp h4 Q) →
     (mkB KE (#[.int .i64 0,.int .i64 0,.string ByteArray.empty,.slice none 0 0]:Array Value)>>=fun Xx54 =>
      M.need ((ZW 7 n [] Sl.nil).size=4)>>=fun _=>stG Xx54 (ZW 7 n [] Sl.nil)>>=fun _ =>
      M.ite (decide (KI s i=118)) (stV ((Xx54).add 0) (.int .i64 6)>>=fun _=>Ke (some ⟨b,0,none⟩) ⟨h.size,0,none⟩ Xx54) (Ke (some ⟨b,0,none⟩) ⟨h.size,0,none⟩ Xx54):M (Array Value)).wp h3 Q:=by
    intro n h3 K3 hn hk
    have hK3:=K3.size
    have hu2:=u2.size
    have hb3:b < h3.size:=by omega
    refine Zv (fun h4 e4 hs4 g4=>JI rfl (stR (cs:=vz) (vs:=ZW 7 n [] Sl.nil) g4 (Nat.le_refl 4) (Z4 _ _ _ _) (fun h5 u5 g5=>?_)))
    rw [ZB (cs:=vz) (vs:=(ZW 7 n [] Sl.nil).toList) rfl] at g5
    have hu5:=u5.size
    have K5:Kb b h1 h5:=K2.trans (K3.trans ⟨by omega,fun q hq _=>(u5.ne q (by omega)).trans (e4.same q hq)⟩)
    have hb5:h5[b]?=h3[b]?:=(u5.ne b (by omega)).trans (e4.same b hb3)
    have hv5:h5[h.size]?=some (.cells vz KE (0,0)):=(u5.ne _ (by omega)).trans ((e4.same _ (by omega)).trans (K3.blk g2 (show ¬ h.size=b by omega)))
    by_cases hv:KI s i=118
    ·rw [decide_eq_true hv] at hkk ⊢
     rw [if_pos rfl] at hkk
     subst hkk
     refine iteT rfl (N5 (x:=.int .i64 7) (by rw [Kp,KS g5]; rfl) (by rw [Kp]; exact ZX g5) rfl ?_)
     rw [Kp,Nat.zero_add]
     have u6:=Upd.hset h5 h3.size 0 (.int .i64 6)
     have g6:(hset h5 ⟨h3.size,0,none⟩ (.int .i64 6))[h3.size]?=some (.cells (ZW 6 n [] Sl.nil) KE (0,0)):=VA g5
     exact hk _ ⟨by rw [u6.size]; exact K5.size,fun q hq hqb=>(u6.ne q (by have:=K2.size; omega)).trans (K5.same q hq hqb)⟩ ((u6.ne b (by omega)).trans hb5) g6 ((u6.ne _ (by omega)).trans hv5) (by rw [u6.size]; omega)
    ·rw [decide_eq_false hv] at hkk ⊢
     rw [if_neg (by decide)] at hkk
     subst hkk
     exact iteF rfl (hk h5 K5 hb5 g5 hv5 (by omega))
   have j1X:∀ (n:Int) (h3 h4:Heap) (e:Nat),Yn k s i=.error e→I64 n→Rx h3 b s e→h1.size≤h3.size→Kb b h1 h4→h4[b]?=h3[b]?→h4[h3.size]?=some (.cells (ZW k n [] Sl.nil) KE (0,0))→h3.size < h4.size→(Ke (some ⟨b,0,none⟩) ⟨h.size,0,none⟩ ⟨h3.size,0,none⟩).wp h4 Q:=by
    intro n h3 h4 e he hn X3 hs3 K4 hb4 g4 hlt
    have X4:Rx h4 b s e:=by obtain ⟨q,q1,q2,q3⟩:=X3; exact ⟨q,q1,q2,hb4.trans q3⟩
    unfold Ke
    refine KJ (KCg (c:=93) (r:=[]) X4 (by decide) (ldR g4 rfl ?_))
    exact finX (.mk k n [] []) _ e h4 he K4 X4 (scal ik hn (by decide))
   refine KJ (GA (lit:=[91]) R2 (by decide) (fun j h3 hj K3 R3=>?_) (fun e h3 hj K3 X3=>?_))
   ·refine KJ (KDp R3 (fun n j2 h4 hn K4 R4=>?_) (fun e h4 hn K4 X4=>?_))
    ·have in_:=(zZ hn R3.le).1
     refine tail n h4 (K3.trans K4) in_ (fun h5 K5 hb5 g5 hv5 hlt=>?_)
     have R5:Rgd h5 b s j2:=⟨by rw [hb5]; exact R4.blk,R4.le,R4.small⟩
     have hs4:h1.size≤h4.size:=by have:=(K2.trans (K3.trans K4)).size; exact this
     have hbl1:b < h1.size:=by omega
     unfold Ke
     refine KJ (GA (lit:=[93]) R5 (by decide) (fun j3 h6 hj3 K6 R6=>?_) (fun e h6 hj3 K6 X6=>?_))
     ·refine ldR (K6.blk g5 (show ¬ h4.size=b by omega)) rfl ?_
      refine finG (.mk k n [] []) _ j3 h6 ?_ (K5.trans K6) R6 (scal ik in_ (by decide))
      unfold Yn; rw [hj]; dsimp only; rw [hn]; dsimp only; rw [hj3]
     ·refine ldR (K6.blk g5 (show ¬ h4.size=b by omega)) rfl ?_
      refine finX (.mk k n [] []) _ e h6 ?_ (K5.trans K6) X6 (scal ik in_ (by decide))
      unfold Yn; rw [hj]; dsimp only; rw [hn]; dsimp only; rw [hj3]
    ·refine tail 0 h4 (K3.trans K4) i0 (fun h5 K5 hb5 g5 hv5 hlt=>?_)
     exact j1X 0 h4 h5 e (by unfold Yn; rw [hj]; dsimp only; rw [hn]) i0 X4 (by have:=(K2.trans (K3.trans K4)).size; exact this) K5 hb5 g5 hlt
   ·refine KJ (KHQ X3 ?_)
    refine tail 0 h3 K3 i0 (fun h5 K5 hb5 g5 hv5 hlt=>?_)
    exact j1X 0 h3 h5 e (by unfold Yn; rw [hj]) i0 X3 (by have:=(K2.trans K3).size; exact this) K5 hb5 g5 hlt
  have hc:¬ KI s i=118∧¬ KI s i=101:=by
   rw [Bool.or_eq_false_iff,decide_eq_false_iff_not,decide_eq_false_iff_not] at hc
   exact hc
  rw [if_neg hc.1,if_neg hc.2] at finG finX
  rw [u8_c (d:=91) (n:=91) rfl,u8_c (d:=123) (n:=123) rfl,show ((8 - (d+1):Nat):Int)=((7 - d:Nat):Int) by omega]
  refine KW (fun hc=>?_) (fun hc=>?_)
  ·have hcc:=of_decide_eq_true hc
   have hil:i < s.length:=Zz (by rw [hcc]; decide)
   rw [if_pos hcc] at finG finX
   refine YM R1 hil (fun h2 u2 R2=>?_)
   have hu2:=u2.size
   have Ku:Kb b h1 h2:=Km.upd u2 rfl
   refine KJ (Xa (VO _ _ _ _) (KHT (two:=false) (en:=93) (by omega) IH (by decide) (by decide) R2 hil (fun l j h3 r hl K3 R3 V3=>?_) (fun e h3 hl K3 X3=>?_)))
   ·exact finG (.mk 4 0 [] l) _ j h3 (by rw [hl]) (Ku.trans K3) R3 (z8 ⟨by decide,by decide⟩ i0 (V3.same (fun _ _=>rfl) (fun k hk=>⟨by have:=hk.1; omega,hk.2⟩)))
   ·exact finX (.mk 4 0 [] []) _ e h3 (by rw [hl]) (Ku.trans K3) X3 (scal ⟨by decide,by decide⟩ i0 (by decide))
  rw [if_neg (of_decide_eq_false hc)] at finG finX
  refine KW (fun hc=>?_) (fun hc=>?_)
  ·have hcc:=of_decide_eq_true hc
   have hil:i < s.length:=Zz (by rw [hcc]; decide)
   rw [if_pos hcc] at finG finX
   refine YM R1 hil (fun h2 u2 R2=>?_)
   have hu2:=u2.size
   have Ku:Kb b h1 h2:=Km.upd u2 rfl
   refine KJ (Xa (VO _ _ _ _) (KHT (two:=true) (en:=125) (by omega) IH (by decide) (by decide) R2 hil (fun l j h3 r hl K3 R3 V3=>?_) (fun e h3 hl K3 X3=>?_)))
   ·exact finG (.mk 5 0 [] l) _ j h3 (by rw [hl]) (Ku.trans K3) R3 (z8 ⟨by decide,by decide⟩ i0 (V3.same (fun _ _=>rfl) (fun k hk=>⟨by have:=hk.1; omega,hk.2⟩)))
   ·exact finX (.mk 5 0 [] []) _ e h3 (by rw [hl]) (Ku.trans K3) X3 (scal ⟨by decide,by decide⟩ i0 (by decide))
  rw [if_neg (of_decide_eq_false hc)] at finX
  exact VQ R1 (fun h2 u2 X2=>finX (.mk 0 0 [] []) (ZW 0 0 [] Sl.nil) i h2 rfl (Km.upd u2 rfl) X2 (KJC _ _))
theorem KA0 {s:List UInt8} {h:Heap} {Q:Array Value × Int × Int→Heap→Prop} (hs:s.length≤1099511627776)
  (H:∀ h' c,Ext h h'→Zk (h.size≤·) h' (ZR s).1 c→Q (c,((ZR s).2.1:Int),(ZR s).2.2) h'):(Jf (bs s)).wp h Q:=by
 unfold Jf
 refine Zv (fun h1 e1 s1 g1=>KJm ?_)
 have e2:=Ext.push h1 (.cells (#[.string (bs s),.int .i64 0,.int .i64 (-1)]:Array Value) ZJ)
 have g2:(h1.push (.cells (#[.string (bs s),.int .i64 0,.int .i64 (-1)]:Array Value) ZJ))[h1.size]?=some (.cells (#[.string (bs s),.int .i64 0,.int .i64 (-1)]:Array Value) ZJ (0,0)):=Jh
 have s2:(h1.push (.cells (#[.string (bs s),.int .i64 0,.int .i64 (-1)]:Array Value) ZJ)).size=h1.size+1:=Array.size_push ..
 generalize h1.push (.cells (#[.string (bs s),.int .i64 0,.int .i64 (-1)]:Array Value) ZJ)=h2 at e2 g2 s2 ⊢
 have R2:Rgd h2 h1.size s 0:=⟨g2,Nat.zero_le _,hs⟩
 have g1':h2[h.size]?=some (.cells vz KE (0,0)):=e2.blk g1
 have endX:∀ (e:Nat) (h5:Heap) (p:Nat),ZR s=(vl0,e,22)→Kb h1.size h2 h5→Rx h5 h1.size s e→(Z0 ⟨h.size,0,none⟩ (some ⟨h1.size,0,none⟩) ⟨p,0,none⟩).wp h5 Q:=by
  intro e h5 p hP K5 X5
  rw [hP] at H
  have g5:=K5.blk g1' (show ¬ h.size=h1.size by omega)
  unfold Z0
  refine Kx (KEV X5 (iteT (decide_eq_true (by omega)) (Kx (KEV X5 ?_))))
  refine JI rfl (stR (cs:=vz) (vs:=ZW 0 0 [] Sl.nil) g5 (Nat.le_refl 4) (Z4 0 0 [] Sl.nil) (fun h6 u6 g6=>?_))
  rw [ZB (cs:=vz) (vs:=(ZW 0 0 [] Sl.nil).toList) rfl] at g6
  have X6:=X5.upd u6 (by omega)
  refine KAQ ?_ (ldR g6 rfl (KB (H h6 _ ?_ (KCR _ _))))
  ·obtain ⟨q,_,_,q3⟩:=X6
   rw [Kp,KS q3]; rfl
  ·refine ⟨by have:=K5.size; have:=u6.size; omega,fun i hi=>?_⟩
   exact (u6.ne i (by omega)).trans ((K5.same i (by omega) (by omega)).trans ((e2.same i (by omega)).trans (e1.same i hi)))
 refine KJ (KFL s 8 (by decide) 0 h2 _ h1.size R2 (fun v j h3 c hv K3 R3 V3=>?_) (fun e v h3 c hv K3 X3 V3=>?_))
 ·refine Zv (fun h4 e4 s4 g4=>JI V3.size (stR g4 (by rw [V3.size]; exact Nat.le_refl 4) V3.to.one (fun h5 u5 g5=>?_)))
  rw [ZB (cs:=vz) (vs:=c.toList) (by rw [Array.length_toList,V3.size]; rfl),Array.toArray_toList] at g5
  have hK3:=K3.size
  have hu5:=u5.size
  have K5:Kb h1.size h2 h5:=K3.trans ⟨by omega,fun q hq _=>(u5.ne q (by omega)).trans (e4.same q hq)⟩
  have R5:Rgd h5 h1.size s j:=⟨(u5.ne _ (by omega)).trans (e4.blk R3.blk),R3.le,R3.small⟩
  have V5:Zk (HS h2 h3) h5 v c:=V3.same (fun k hk=>(u5.ne k (by have:=hk.2; omega)).trans (e4.same k hk.2))
  refine Kx (KFt R5 ?_)
  refine Jl (c:=decide (j < s.length)) (fun _ Q' hq=>Kx (KAw R5 (KB ?_))) ?_
  ·rw [Kw,show decide ((j:Int) < (s.length:Int))=decide (j < s.length) from decide_eq_decide.2 (by omega)]
   exact hq
  refine KW (fun hc=>?_) (fun hc=>?_)
  ·have hj:j < s.length:=by simpa using hc
   have hP:ZR s=(vl0,j,22):=by unfold ZR Gu; rw [hv]; dsimp only; rw [if_pos hj]
   exact VQ R5 (fun h6 u6 X6=>endX j h6 _ hP (K5.trans (Km.upd u6 rfl)) X6)
  ·have hj:¬ j < s.length:=by simpa using hc
   have hR:Gu s=.ok v:=by unfold Gu; rw [hv]; dsimp only; rw [if_neg hj]
   unfold Z0
   have g5':=K5.blk g1' (show ¬ h.size=h1.size by omega)
   refine Kx (KFt R5 (iteF rfl (ldR g5 V3.size (KJ (KEJ V5.to (fun h6 e6=>?_))))))
   have g6:=e6.blk g5
   have g6':=e6.blk g5'
   have E6:Ext h h6:=⟨by have:=e6.size; omega,fun i hi=>(e6.same i (by omega)).trans ((K5.same i (by omega) (by omega)).trans ((e2.same i (by omega)).trans (e1.same i hi)))⟩
   unfold KBZ
   by_cases hm:mayV 8 v=true
   ·rw [if_pos hm]
    have hP:ZR s=(v,0,0):=by unfold ZR; rw [hR]; dsimp only; rw [if_pos hm]
    rw [hP] at H
    refine iteF rfl (ldR g6 V3.size (JI V3.size (stR g6' (by rw [V3.size]; exact Nat.le_refl 4) V3.to.one (fun h7 u7 g7=>?_))))
    rw [ZB (cs:=vz) (vs:=c.toList) (by rw [Array.length_toList,V3.size]; rfl),Array.toArray_toList] at g7
    refine ldR g7 V3.size (KB (H h7 c (E6.upd u7 (Nat.le_refl _)) ?_))
    exact (V5.same (fun k hk=>(u7.ne k (by have:=hk.1; omega)).trans (e6.same k (by have:=hk.2; omega)))).mono (fun k hk=>by have:=hk.1; omega)
   ·rw [if_neg hm]
    have hP:ZR s=(vl0,0,20):=by unfold ZR; rw [hR]; dsimp only; rw [if_neg hm]
    rw [hP] at H
    refine iteT rfl (JI rfl (stR (cs:=vz) (vs:=ZW 0 0 [] Sl.nil) g6' (Nat.le_refl 4) (Z4 0 0 [] Sl.nil) (fun h7 u7 g7=>?_)))
    rw [ZB (cs:=vz) (vs:=(ZW 0 0 [] Sl.nil).toList) rfl] at g7
    exact ldR g7 rfl (KB (H h7 _ (E6.upd u7 (Nat.le_refl _)) (KCR _ _)))
 ·have hP:ZR s=(vl0,e,22):=by unfold ZR Gu; rw [hv]
  refine Zv (fun h4 e4 s4 g4=>JI V3.size (stR g4 (by rw [V3.size]; exact Nat.le_refl 4) V3.to.one (fun h5 u5 g5=>?_)))
  have hK3:=K3.size
  have hu5:=u5.size
  have K5:Kb h1.size h2 h5:=K3.trans ⟨by omega,fun q hq _=>(u5.ne q (by omega)).trans (e4.same q hq)⟩
  have X5:Rx h5 h1.size s e:=(X3.ext e4).upd u5 (by omega)
  refine Kx (KEV X5 ?_)
  refine Jl (c:=false) (fun hh=>absurd (of_decide_eq_true hh) (by omega)) ?_
  rw [Bool.and_false]
  exact iteF rfl (endX e h5 _ hP K5 X5)
end Gx
namespace Gx
open Go
set_option linter.unusedVariables false
set_option linter.unusedSimpArgs false
set_option maxRecDepth 100000
theorem KBg {c:UInt8} {h:Heap} {Q:Bool→Heap→Prop} (H:Q (KCW c) h):(Jr (c.toNat:Int)).wp h Q:=by
 unfold Jr
 refine M.loop_inv (fun (t:Int) hh=>hh=h∧∃ i:Nat,t=(i:Int)∧i≤11∧(KDZ.drop i).contains c=KCW c) (fun t _=>((11:Int) - t).toNat) ?_ ⟨rfl,0,rfl,Nat.zero_le _,rfl⟩
 rintro t hh ⟨rfl,i,rfl,hi,hm⟩ self hself
 unfold VU
 refine KW (fun hc=>?_) (fun hc=>KB ?_)
 ·have hic:i < KDZ.length:=by have:=of_decide_eq_true hc; show i < 11; omega
  refine UP (l:=KDZ) rfl hic ?_
  rw [List.drop_eq_getElem_cons hic,List.contains_cons] at hm
  generalize KDZ[i]=d at hm ⊢
  rw [eqI]
  refine KW (fun h1=>KB ?_) (fun h1=>?_)
  ·have:d=c:=UInt8.toNat_inj.1 (by have:=of_decide_eq_true h1; omega)
   subst this
   rw [beq_self_eq_true,Bool.true_or] at hm
   rw [hm]; exact H
  ·have hne:(c == d)=false:=by
    cases h2:(c == d) with
    | false=>rfl
    | true =>
     have:=eq_of_beq h2
     subst this
     exact absurd rfl (of_decide_eq_false h1)
   rw [hne,Bool.false_or] at hm
   have hi11:i < 11:=hic
   rw [w64 (by omega) (by omega)]
   exact hself _ _ ⟨rfl,i+1,by push_cast; rfl,hic,hm⟩ (by omega)
 ·have:i=11:=by have:=of_decide_eq_false hc; omega
  subst this
  have hm:false=KCW c:=hm
  rw [hm]; exact H
theorem zm {c:UInt8} {h:Heap} {Q:Bool→Heap→Prop} (H:Q (letB c) h):(JW (c.toNat:Int)).wp h Q:=by
 unfold JW
 refine Jl (c:=decide ((c.toNat:Int)≤122)) (fun _ Q' hq=>KB hq) ?_
 refine or_b (c:=decide ((c.toNat:Int) ≥ 65) && decide ((c.toNat:Int)≤90)) (fun _ Q' hq=>Jl (c:=decide ((c.toNat:Int)≤90)) (fun _ Q'' hq2=>KB hq2) (KB hq)) ?_
 refine or_b (c:=decide ((c.toNat:Int)=95)) (fun _ Q' hq=>KB (by rw [eqI]; exact hq)) (KB ?_)
 have:(decide ((c.toNat:Int) ≥ 97) && decide ((c.toNat:Int)≤122) || (decide ((c.toNat:Int) ≥ 65) && decide ((c.toNat:Int)≤90)) || decide ((c.toNat:Int)=95))=letB c:=by
  unfold letB isLt
  rw [← Bool.decide_and,← Bool.decide_and,← Bool.decide_or,← Bool.decide_or]
  exact decide_eq_decide.2 (by omega)
 rw [this]
 exact H
theorem KEW {c:UInt8} {h:Heap} {Q:Bool→Heap→Prop} (H:Q (isDg c.toNat) h):(UI (c.toNat:Int)).wp h Q:=by
 unfold UI
 refine Jl (c:=decide ((c.toNat:Int)≤57)) (fun _ Q' hq=>KB hq) (KB ?_)
 have:(decide ((c.toNat:Int) ≥ 48) && decide ((c.toNat:Int)≤57))=isDg c.toNat:=by
  unfold isDg
  rw [← Bool.decide_and]
  exact decide_eq_decide.2 (by omega)
 rw [this]
 exact H
theorem KBh {s:List UInt8} {h:Heap} {Q:Int→Heap→Prop} (hs:s.length≤1099511627776) (H:Q (JT s:Int) h):(Js (bs s)).wp h Q:=by
 unfold Js
 refine M.loop_inv (fun (z:Int) hh=>∃ i:Nat,z=(i:Int)∧hh=h∧i≤s.length∧JT s=i+JT (s.drop i)) (fun z _=>((s.length:Int) - z).toNat) ?_ ⟨0,rfl,rfl,Nat.zero_le _,by rw [List.drop_zero]; omega⟩
 rintro z hh ⟨i,rfl,rfl,hi,hw⟩ self hself
 unfold VV
 rw [Kw]
 by_cases hlt:i < s.length
 ·refine Up (decide_eq_true (by omega)) (Kf (UP (i:=i) rfl hlt (Kf (KJ (zm ?_)))))
  rw [List.drop_eq_getElem_cons hlt,Nt] at hw
  refine Kf (or_b (c:=isDg (s[i]).toNat) (fun _ Q' hq=>UP (i:=i) rfl hlt (KJ (KEW (KB hq)))) (Ko ?_))
  rw [show (letB s[i] || isDg (s[i]).toNat)=KEO s[i] from rfl]
  refine KW (fun hc=>?_) (fun hc=>KB ?_)
  ·rw [if_pos hc] at hw
   rw [w64 (by omega) (by omega)]
   exact hself _ _ ⟨i+1,by simp,rfl,hlt,by omega⟩ (by omega)
  ·rw [if_neg (by rw [hc]; decide)] at hw
   rw [show (i:Int)=(JT s:Int) by omega]
   exact H
 ·refine W7 (decide_eq_false (by omega)) (Ko (iteF rfl (KB ?_)))
  have hi':i=s.length:=by omega
  subst hi'
  rw [List.drop_length] at hw
  have hw:JT s=s.length:=hw
  rw [show (s.length:Int)=(JT s:Int) by omega]
  exact H
def KKM:List UInt8→Nat
 | []=>0
 | c::r=>if c=39 then U1 (c::r) else 0
theorem KDq {s:List UInt8} {h:Heap} {Q:Int→Heap→Prop} (hs:s.length≤1099511627776) (H:Q (KKM s:Int) h):(J1 (bs s)).wp h Q:=by
 unfold J1
 rw [Kw,eqI]
 cases s with
 | nil=>exact Up (decide_eq_true rfl) (Ko (iteT rfl (KB H)))
 | cons c r =>
  refine W7 (decide_eq_false (by simp only [List.length_cons]; omega)) (Kf (UP (i:=0) rfl (by simp) (Ko ?_)))
  rw [show (c::r)[0]=c from rfl,bne,u8_c (d:=39) (n:=39) rfl]
  rw [show KKM (c::r)=if c=39 then U1 (c::r) else 0 from rfl] at H
  refine KW (fun h1=>KB ?_) (fun h1=>?_)
  ·rw [if_neg (fun e=>by rw [decide_eq_true e] at h1; cases h1)] at H
   exact H
  rw [if_pos (Decidable.byContradiction (fun e=>by rw [decide_eq_false e] at h1; cases h1))] at H
  generalize c::r=s at hs H ⊢
  refine M.loop_inv (fun (z:Int) hh=>∃ i f:Nat,z=(i:Int)∧hh=h∧i≤s.length+2∧s.length≤f+i∧U1 s=XM s (f+1) i) (fun z _=>((s.length:Int)+3 - z).toNat) ?_ ⟨1,s.length,rfl,rfl,by omega,by omega,rfl⟩
  rintro z hh ⟨i,f,rfl,rfl,hi,hf,hc⟩ self hself
  unfold Uv
  dsimp only
  rw [Kw]
  rw [XM] at hc
  refine KW (fun hlt=>?_) (fun hge=>KB ?_)
  ·have hlt:i < s.length:=by have:=of_decide_eq_true hlt; omega
   rw [if_pos hlt,KG0 hlt] at hc
   obtain ⟨f,rfl⟩:∃ g,f=g+1:=⟨f - 1,by omega⟩
   refine UP (i:=i) rfl hlt ?_
   rw [u8_c (d:=92) (n:=92) rfl]
   unfold J0
   refine KW (fun h1=>?_) (fun h1=>?_)
   ·rw [if_pos (of_decide_eq_true h1)] at hc
    rw [show IntKind.wrap .i64 ((i:Int)+1)=(i:Int)+1 from w64 (by omega) (by omega),w64 (by omega) (by omega)]
    exact hself _ _ ⟨i+2,f,by push_cast; omega,rfl,by omega,by omega,hc⟩ (by omega)
   refine UP (i:=i) rfl hlt ?_
   rw [u8_c (d:=39) (n:=39) rfl]
   refine KW (fun h2=>KB ?_) (fun h2=>?_)
   ·rw [if_neg (of_decide_eq_false h1),if_pos (of_decide_eq_true h2)] at hc
    rw [w64 (by omega) (by omega),show (i:Int)+1=(U1 s:Int) by rw [hc]; rfl]
    exact H
   ·rw [if_neg (of_decide_eq_false h1),if_neg (of_decide_eq_false h2)] at hc
    rw [w64 (by omega) (by omega)]
    exact hself _ _ ⟨i+1,f,by simp,rfl,by omega,by omega,hc⟩ (by omega)
  ·rw [if_neg (by have:=of_decide_eq_false hge; omega)] at hc
   rw [hc] at H
   exact H
theorem KFu:(ZR []).2.2≠0:=by decide +kernel
theorem KEX:(ZR [45]).2.2≠0∨(ZR [45]).1.k≠1:=by decide +kernel
theorem KDr {k:Int} {s:List UInt8} {t:Vl→Tkn}:oneV k s 0 t=(tkn0,0):=by
 unfold oneV oneW
 rw [List.take_zero,if_pos (.inl KFu)]
theorem KBi {s:List UInt8} {b z:Nat} {h h0:Heap} {Q:Array Value × Int→Heap→Prop} (hz:z≤s.length) (hz1:z≤1) (hs:s.length≤1099511627776) (E:Ext h0 h) (hb0:h0.size≤b) (g:h[b]?=some (.cells tkn0.cells KP (0,0)))
  (H:∀ h' o,o=(if JT (s.drop z)=0 then (tkn0,0) else oneV 1 s (z+JT (s.drop z)) (fun v=>⟨2,[],v.n,0⟩))→Ext h0 h'→Q (o.1.cells,(o.2:Int)) h'):(J4 (bs s) ⟨b,0,none⟩ (z:Int)).wp h Q:=by
 unfold J4
 have hw:=Y6 (s.drop z)
 rw [List.length_drop] at hw
 refine zb (a:=z) (b:=s.length) rfl (by rw [Kw]) hz (Nat.le_refl _) ?_
 rw [List.take_of_length_le (by rw [List.length_drop]; omega)]
 refine KJ (KBh (by rw [List.length_drop]; omega) ?_)
 generalize JT (s.drop z)=k at hw H ⊢
 rw [w64 (by omega) (by omega)]
 refine zb (a:=0) (b:=z+k) rfl (by push_cast; rfl) (Nat.zero_le _) (by omega) ?_
 rw [List.drop_zero,Nat.sub_zero]
 refine KJ (KA0 (by rw [List.length_take]; omega) (fun h2 c e2 V2=>?_))
 dsimp only
 refine Zv (fun h3 e3 s3 g3=>JI V2.size (stR g3 (by rw [V2.size]; exact Nat.le_refl 4) V2.to.one (fun h4 u4 g4=>?_)))
 rw [ZB (cs:=vz) (vs:=c.toList) (by rw [Array.length_toList,V2.size]; rfl),Array.toArray_toList] at g4
 have e4:Ext h h4:=(e2.trans e3).upd u4 e2.size
 obtain ⟨v,hv⟩:∃ v,v=(ZR (s.take (z+k))).1:=⟨_,rfl⟩
 obtain ⟨er,her⟩:∃ er,er=(ZR (s.take (z+k))).2.2:=⟨_,rfl⟩
 unfold oneV at H
 rw [← hv] at V2 H
 rw [← her] at H ⊢
 obtain ⟨kk,nn,ss,l⟩:=v
 dsimp only [Vl.k,Vl.n,Vl.s] at H
 unfold oneW at H
 obtain ⟨x,rfl,_⟩:=Zk.eq.1 V2
 refine or_b (c:=decide (er≠0)) (fun _ Q' hq=>KB (by rw [bne,eqI,← decide_not]; exact hq)) ?_
 refine or_b (c:=decide (kk≠1)) (fun _ Q' hq=>Zo (n:=kk) (by rw [Kp,KS g4]; rfl) (KB (by rw [bne,eqI,← decide_not]; exact hq))) ?_
 rw [eqI,← Bool.decide_or,← Bool.decide_or]
 have gb:=e4.blk g
 have E4:=E.trans e4
 refine KW (fun hc=>?_) (fun hc=>?_)
 ·have hc:=of_decide_eq_true hc
  refine YL (t0:=tkn0) (t:=tkn0) gb (fun h5 u5=>KB (H h5 (tkn0,0) ?_ (E4.upd u5 hb0)))
  split
  ·rfl
  ·rename_i hk
   rw [if_pos (by rcases hc with (h1 | h2) | h3; exact absurd (by omega) hk; exact .inl h2; exact .inr h3)]
 ·have hc:=of_decide_eq_false hc
  refine Zo (n:=nn) (by rw [Kp,KS g4]; rfl) ?_
  rw [show (z:Int)+(k:Int)=((z+k:Nat):Int) by push_cast; rfl]
  refine YL (t0:=tkn0) (t:=⟨2,[],nn,0⟩) gb (fun h5 u5=>KB (H h5 (⟨2,[],nn,0⟩,z+k) ?_ (E4.upd u5 hb0)))
  rw [if_neg (fun e=>hc (.inl (.inl (by omega)))),if_neg (fun e=>hc (e.elim (fun e=>.inl (.inr e)) .inr))]
theorem KA1 {s:List UInt8} {h:Heap} {Q:Array Value × Int→Heap→Prop} (h0:s≠[]) (hs:s.length≤1099511627776)
  (H:∀ h',Ext h h'→Q ((oneP s).1.cells,((oneP s).2:Int)) h'):(UL (bs s)).wp h Q:=by
 obtain ⟨c,r,rfl⟩:=List.exists_cons_of_ne_nil h0
 unfold UL
 refine Zv (fun h1 e1 s1 g1=>?_)
 have hl:=Y6 (c::r)
 refine UP (i:=0) rfl (by simp) ?_
 rw [show (c::r)[0]=c from rfl]
 refine KJ (KBg ?_)
 rw [X9] at H
 refine KW (fun hm=>?_) (fun hm=>?_)
 ·rw [if_pos hm] at H
  refine zb (a:=0) (b:=1) rfl rfl (Nat.zero_le _) (by simp) ?_
  exact YL (t0:=tkn0) (t:=⟨4,[c],0,0⟩) g1 (fun h5 u5=>KB (H _ (e1.upd u5 (Nat.le_refl _))))
 rw [if_neg (by rw [hm]; decide)] at H
 refine UP (i:=0) rfl (by simp) ?_
 rw [show (c::r)[0]=c from rfl]
 refine KJ (zm ?_)
 refine KW (fun hlt=>?_) (fun hlt=>?_)
 ·rw [if_pos hlt] at H
  refine KJ (KBh hs ?_)
  refine zb (a:=0) (b:=JT (c::r)) rfl rfl (Nat.zero_le _) hl ?_
  rw [List.drop_zero,Nat.sub_zero]
  exact YL (t0:=tkn0) (t:=⟨1,(c::r).take (JT (c::r)),0,0⟩) g1 (fun h5 u5=>KB (H _ (e1.upd u5 (Nat.le_refl _))))
 rw [if_neg (by rw [hlt]; decide)] at H
 refine KJ (KDq hs ?_)
 have hq:KKM (c::r)=if c=39 then U1 (c::r) else 0:=rfl
 have hcl:U1 (c::r)≤(c::r).length:=Y7 _ _ _
 refine KW (fun hpos=>?_) (fun hpos=>?_)
 ·have hpos:=of_decide_eq_true hpos
  have h39:c=39:=Decidable.byContradiction (fun e=>by rw [hq,if_neg e] at hpos; omega)
  rw [if_pos h39] at H hq
  rw [hq]
  refine zb (a:=0) (b:=U1 (c::r)) rfl rfl (Nat.zero_le _) hcl ?_
  rw [List.drop_zero,Nat.sub_zero]
  generalize U1 (c::r)=n at hcl H ⊢
  refine KJ (KA0 (by rw [List.length_take]; omega) (fun h2 c2 e2 V2=>?_))
  dsimp only
  refine Zv (fun h3 e3 s3 g3=>JI V2.size (stR g3 (by rw [V2.size]; exact Nat.le_refl 4) V2.to.one (fun h4 u4 g4=>?_)))
  rw [ZB (cs:=vz) (vs:=c2.toList) (by rw [Array.length_toList,V2.size]; rfl),Array.toArray_toList] at g4
  have e4:Ext h1 h4:=(e2.trans e3).upd u4 e2.size
  obtain ⟨v,hv⟩:∃ v,v=(ZR ((c::r).take n)).1:=⟨_,rfl⟩
  obtain ⟨er,her⟩:∃ er,er=(ZR ((c::r).take n)).2.2:=⟨_,rfl⟩
  unfold oneV at H
  rw [← hv] at V2 H
  rw [← her] at H ⊢
  obtain ⟨k,nn,ss,l⟩:=v
  dsimp only [Vl.k,Vl.n,Vl.s] at H
  unfold oneW at H
  obtain ⟨x,rfl,_⟩:=Zk.eq.1 V2
  refine or_b (c:=decide (k≠2)) (fun _ Q' hq=>Zo (n:=k) (by rw [Kp,KS g4]; rfl) (KB (by rw [bne,eqI,← decide_not]; exact hq))) ?_
  rw [show (er != 0 || decide (k≠2))=decide (er≠0∨k≠2) by rw [bne,eqI,← decide_not,← Bool.decide_or]]
  have gb:=e4.blk g1
  have E4:=e1.trans e4
  refine KW (fun hc=>?_) (fun hc=>?_)
  ·rw [if_pos (of_decide_eq_true hc)] at H
   exact YL (t0:=tkn0) (t:=tkn0) gb (fun h5 u5=>KB (H _ (E4.upd u5 (Nat.le_refl _))))
  ·rw [if_neg (of_decide_eq_false hc)] at H
   refine Vx (n:=bs ss) (by rw [Kp,KS g4]; rfl) ?_
   exact YL (t0:=tkn0) (t:=⟨3,ss,0,0⟩) gb (fun h5 u5=>KB (H _ (E4.upd u5 (Nat.le_refl _))))
 ·have hpos:=of_decide_eq_false hpos
  refine UP (i:=0) rfl (by simp) ?_
  rw [show (c::r)[0]=c from rfl,u8_c (d:=45) (n:=45) rfl]
  refine KW (fun h45=>?_) (fun h45=>?_)
  ·have h45:=of_decide_eq_true h45
   subst h45
   rw [if_neg (by decide),if_pos rfl] at H
   refine KBi (s:=45::r) (z:=1) (by simp) (Nat.le_refl _) hs e1 (Nat.le_refl _) g1 (fun h' o ho E'=>?_)
   rw [show (45::r).drop 1=r from rfl] at ho
   have:o=oneV 1 (45::r) (1+JT r) (fun v=>⟨2,[],v.n,0⟩):=by
    rw [ho]
    split
    ·rename_i h0
     rw [h0]
     unfold oneV oneW
     rw [show (45::r).take (1+0)=[45] from rfl,if_pos KEX]
    ·rfl
   rw [this]
   exact H _ E'
  ·have h45:=of_decide_eq_false h45
   refine KBi (s:=c::r) (z:=0) (Nat.zero_le _) (by omega) hs e1 (Nat.le_refl _) g1 (fun h' o ho E'=>?_)
   rw [List.drop_zero,Nat.zero_add] at ho
   by_cases h39:c=39
   ·subst h39
    rw [if_pos rfl] at H
    have hcl0:U1 (39::r)=0:=by rw [hq,if_pos rfl] at hpos; omega
    rw [hcl0,KDr] at H
    have hw0:JT (39::r)=0:=by rw [Nt,if_neg (by decide)]
    rw [if_pos hw0] at ho
    rw [ho]
    exact H _ E'
   ·rw [if_neg h39,if_neg h45] at H
    have:o=oneV 1 (c::r) (JT (c::r)) (fun v=>⟨2,[],v.n,0⟩):=by
     rw [ho]
     split
     ·rename_i h0
      rw [h0,KDr]
     ·rfl
    rw [this]
    exact H _ E'
end Gx
namespace Gx
open Go
set_option linter.unusedVariables false
set_option linter.unusedSimpArgs false
set_option maxRecDepth 100000
theorem XO {t:Tkn} {h:Heap} {Q:Int→Heap→Prop} (H:∀ h',Ext h h'→Q (tokE t) h'):(Jd t.cells).wp h Q:=by
 unfold Jd
 refine Zv (fun h1 e1 s1 g1=>?_)
 obtain ⟨k,s,n,a⟩:=t
 have cA:KV h1 ((⟨h.size,0,none⟩:Addr).add 3)=some (.int .i64 a):=by rw [Kp,KS g1]; rfl
 have cN:KV h1 ((⟨h.size,0,none⟩:Addr).add 2)=some (.int .i64 n):=by rw [Kp,KS g1]; rfl
 have cS:KV h1 ((⟨h.size,0,none⟩:Addr).add 1)=some (.string (bs s)):=by rw [Kp,KS g1]; rfl
 have cK:KV h1 ((⟨h.size,0,none⟩:Addr).add 0)=some (.int .i64 k):=by rw [add_zero,KS g1]; rfl
 have fin:∀ {b:Bool},tokB ⟨k,s,n,a⟩=(b && !decide (a < 0))→(ZQ ⟨h.size,0,none⟩ b).wp h1 Q:=fun {b} hb=>by
  unfold ZQ
  have:=H _ e1
  unfold tokE at this
  rw [hb] at this
  refine or_b (c:=decide (a < 0)) (fun _ Q' hq=>Zo cA (KB hq)) ?_
  refine KW (fun hc=>KB ?_) (fun hc=>KB ?_)
  ·rw [if_neg (by revert hc; cases b <;> cases decide (a < 0) <;> decide)] at this
   exact this
  ·rw [if_pos (by revert hc; cases b <;> cases decide (a < 0) <;> decide)] at this
   exact this
 have hT:tokB ⟨k,s,n,a⟩=(!(decide (a < 0) || (decide (n≠0) && decide (k≠2))) && (if k=1 then KEN s else if k=2 then decide (s=[]) else if k=3 then decide (s.length≤128) else if k=4 then KDb s else false)):=rfl
 have hn:decide (n≠0)=!decide (n=0):=decide_not
 refine Zo cK ?_
 rw [eqI,eqI,eqI,eqI]
 refine KW (fun k1=>?_) (fun k1=>?_)
 ·have k1:=of_decide_eq_true k1
  subst k1
  rw [if_pos rfl,hn] at hT
  refine Vx cS (KJ (KFo ?_))
  refine Jl (c:=decide (n=0)) (fun _ Q' hq=>Zo cN (KB (by rw [eqI]; exact hq))) (fin ?_)
  rw [hT]
  cases decide (a < 0) <;> cases decide (n=0) <;> cases KEN s <;> rfl
 rw [if_neg (of_decide_eq_false k1)] at hT
 refine KW (fun k2=>?_) (fun k2=>?_)
 ·have k2:=of_decide_eq_true k2
  subst k2
  rw [if_pos rfl] at hT
  refine Vx cS ?_
  rw [sEq0]
  refine fin ?_
  rw [hT]
  cases decide (a < 0) <;> cases decide (n≠0) <;> cases decide (s=[]) <;> rfl
 have hk2:decide (k≠2)=true:=by rw [decide_not,k2]; rfl
 rw [if_neg (of_decide_eq_false k2),hk2,Bool.and_true,hn] at hT
 refine KW (fun k3=>?_) (fun k3=>?_)
 ·rw [if_pos (of_decide_eq_true k3)] at hT
  refine Vx cS ?_
  refine Jl (c:=decide (n=0)) (fun _ Q' hq=>Zo cN (KB (by rw [eqI]; exact hq))) (fin ?_)
  rw [hT,Kw,show decide ((s.length:Int)≤128)=decide (s.length≤128) from decide_eq_decide.2 (by omega)]
  cases decide (a < 0) <;> cases decide (n=0) <;> cases decide (s.length≤128) <;> rfl
 rw [if_neg (of_decide_eq_false k3)] at hT
 refine KW (fun k4=>?_) (fun k4=>?_)
 ·rw [if_pos (of_decide_eq_true k4)] at hT
  refine Vx cS ?_
  rw [Kw]
  have fin2:tokB ⟨k,s,n,a⟩=(KDb s && decide (n=0) && !decide (a < 0)):=by
   rw [hT]
   cases decide (a < 0) <;> cases decide (n=0) <;> cases KDb s <;> rfl
  refine Jl (c:=KDb s) (fun hl Q' hq=>?_) ?_
  ·rw [eqI] at hl
   have hl:=of_decide_eq_true hl
   match s,hl,cS,hq with
   | [c],_,cS,hq=>exact Vx cS (UP (i:=0) rfl (by simp) (KJ (KBg (KB hq))))
   | [],hl,_,_=>cases hl
   | _::_::_,hl,_,_=>simp only [List.length_cons] at hl; omega
  ·have hm:((s.length:Int) == 1 && KDb s)=KDb s:=by
    rw [eqI]
    match s with
    | []=>rfl
    | [c]=>exact Bool.true_and _
    | _::_::_=>exact Bool.and_false _
   rw [hm]
   exact Jl (c:=decide (n=0)) (fun _ Q' hq=>Zo cN (KB (by rw [eqI]; exact hq))) (fin fin2)
 ·rw [if_neg (of_decide_eq_false k4)] at hT
  refine fin ?_
  rw [hT,Bool.and_false]; rfl
def XT (s:List UInt8) (m:Nat):List Tkn × Nat:=((allT s 0).1.take m,match (allT s 0).1[m]? with | some t=>t.a.toNat | none=>(allT s 0).2)
theorem KEY {s:List UInt8} {m:Nat} {h:Heap} {Q:Sl × Int→Heap→Prop} (hs:s.length≤1099511627776)
  (H:∀ h' r,Ext h h'→Gw h.size h' r 4 (Ve (tks (XT s m).1))→Q (r,((XT s m).2:Int)) h'):(UM (bs s) (m:Int)).wp h Q:=by
 unfold UM
 refine M.loop_inv (fun (x:Sl × Int) hh=>∃ i a':Nat,x.2=(a':Int)∧a'≤s.length∧i≤(allT s 0).1.length∧i≤a'∧i≤m∧(allT s 0).1.drop i=(allT s a').1∧(allT s 0).2=(allT s a').2∧Ext h hh∧Gw h.size hh x.1 4 (Ve (tks ((allT s 0).1.take i)))) (fun x _=>((s.length:Int) - x.2).toNat) ?_
  ⟨0,0,rfl,Nat.zero_le _,Nat.zero_le _,Nat.le_refl _,Nat.zero_le _,rfl,rfl,Ext.refl _,Gw.nil _ _ _⟩
 rintro ⟨r,t⟩ hh ⟨i,a',ht,ha',hi,hia,him,hd,h2e,E,G⟩ self hself
 have ht:t=(a':Int):=ht
 subst ht
 have G:Gw h.size hh r 4 (Ve (tks ((allT s 0).1.take i))):=G
 have hrl:=G.tkR.1
 rw [List.length_take,Nat.min_eq_left hi] at hrl
 unfold VK
 dsimp only
 refine M.loop_inv (fun (z:Int) h'=>∃ p:Nat,z=(p:Int)∧h'=hh∧a'≤p∧p≤s.length∧Z7 s a'=Z7 s p) (fun z _=>((s.length:Int) - z).toNat) ?_ ⟨a',rfl,rfl,Nat.le_refl _,ha',rfl⟩
 rintro z h' ⟨p,rfl,rfl,hap,hp,hsk⟩ self2 hself2
 unfold VJ
 dsimp only
 rw [Kw]
 have hcond:∀ {β:Type} {Q':β→Heap→Prop} {f:Bool→M β},(f (decide (p < s.length∧Z7 s p≠p))).wp h' Q'→((M.ite (decide ((p:Int) < (s.length:Int))) (ixS (bs s) (p:Int)>>=fun x17=>M.ite (x17 == 32) (M.pure true) (ixS (bs s) (p:Int)>>=fun x22=>M.pure (x22 == 10))>>=fun x24=>M.pure x24) (M.pure false))>>=f).wp h' Q':=fun {β Q' f} hf=>by
  by_cases hlt:p < s.length
  ·refine Up (decide_eq_true (by omega)) (Kf (UP (i:=p) rfl hlt ?_))
   refine Kf (or_b (c:=decide (s[p]=10)) (fun _ Q'' hq=>UP (i:=p) rfl hlt (KB (by rw [u8_c (d:=10) (n:=10) rfl]; exact hq))) (Ko ?_))
   rw [u8_c (d:=32) (n:=32) rfl,← Bool.decide_or]
   have:decide (s[p]=32∨s[p]=10)=decide (p < s.length∧Z7 s p≠p):=by
    refine decide_eq_decide.2 ⟨fun hb=>⟨hlt,fun e=>?_⟩,fun hb=>Decidable.byContradiction (fun e=>?_)⟩
    ·rw [GI hlt,if_pos (show WU s[p]=true from decide_eq_true hb)] at e
     have:=(qq (s:=s) (a:=p+1) hlt).1
     omega
    ·exact hb.2 (by rw [GI hlt,if_neg (show ¬ WU s[p]=true from fun hb=>e (of_decide_eq_true hb))])
   rw [this]; exact hf
  ·refine W7 (decide_eq_false (by omega)) (Ko ?_)
   rw [decide_eq_false (fun hb=>hlt hb.1)] at hf
   exact hf
 refine hcond (KW (fun hc=>?_) (fun hc=>?_))
 ·obtain ⟨hlt,hne⟩:=of_decide_eq_true hc
  have hst:=GI hlt
  have hb:WU s[p]=true:=Decidable.byContradiction (fun e=>hne (by rw [hst,if_neg e]))
  rw [if_pos hb] at hst
  rw [w64 (by omega) (by omega)]
  exact hself2 _ _ ⟨p+1,by push_cast; rfl,rfl,by omega,hlt,hsk.trans hst⟩ (by omega)
 have hsp:Z7 s a'=p:=by
  rw [hsk]
  rcases Nat.lt_or_ge p s.length with hlt | hge
  ·exact Decidable.byContradiction (fun e=>of_decide_eq_false hc ⟨hlt,e⟩)
  ·exact KDc hge
 have stop:(Wy s a'=none∨i=m)→Q (r,(p:Int)) h':=fun hst=>by
  have hf:XT s m=((allT s 0).1.take i,p):=by
   unfold XT
   cases hn:Wy s a' with
   | none =>
    rw [WW hn] at hd h2e
    have hlen:(allT s 0).1.length=i:=by
     have:=List.drop_eq_nil_iff.1 hd
     omega
    rw [List.getElem?_eq_none (by omega),List.take_of_length_le (by omega),List.take_of_length_le (by omega),h2e,hsp]
   | some q =>
    obtain ⟨t,a2⟩:=q
    rcases hst with hst | rfl
    ·rw [hn] at hst; cases hst
    ·rw [WX ha' hn] at hd
     have h0:(allT s 0).1[i]?=some t:=by
      have:=congrArg (fun l=>l[0]?) hd
      simpa using this
     rw [h0]
     obtain ⟨p2,hp2,_⟩:=KAv ha' hn
     have:t.a=(p:Int):=by
      unfold Wy at hn
      rw [hsp] at hn
      split at hn
      ·split at hn
       ·cases hn
       ·cases hn; rfl
      ·cases hn
     dsimp only
     rw [this]; rfl
  have:=H h' r E (by rw [hf]; exact G)
  rw [hf] at this
  exact this
 refine or_b (c:=decide (r.len=m)) (fun _ Q' hq=>KB (by rw [eqI,show decide ((r.len:Int)=(m:Int))=decide (r.len=m) from decide_eq_decide.2 (by omega)]; exact hq)) ?_
 rw [eqI,show decide ((p:Int)=(s.length:Int))=decide (p=s.length) from decide_eq_decide.2 (by omega),← Bool.decide_or]
 refine KW (fun hc2=>KB (stop ?_)) (fun hc2=>?_)
 ·rcases of_decide_eq_true hc2 with he | he
  ·left
   unfold Wy
   rw [hsp,if_neg (by omega)]
  ·right; omega
 have hc2:=of_decide_eq_false hc2
 have hlt:p < s.length:=by
  rcases Nat.lt_or_ge p s.length with h | h
  ·exact h
  ·exact absurd (.inl (by omega)) hc2
 refine zb (a:=p) (b:=s.length) rfl rfl hp (Nat.le_refl _) ?_
 rw [List.take_of_length_le (by rw [List.length_drop]; omega)]
 have hne:s.drop p≠[]:=fun e=>by have:=congrArg List.length e; rw [List.length_drop] at this; simp at this; omega
 have hol:=KCY (s.drop p)
 rw [List.length_drop] at hol
 refine KJ (KA1 hne (by rw [List.length_drop]; omega) (fun h2 e2=>Zv (fun h3 e3 s3 g3=>JI rfl (stR g3 (Nat.le_refl 4) (WI _) (fun h4 u4 g4=>?_)))))
 have g4:h4[h2.size]?=some (.cells (oneP (s.drop p)).1.cells KP (0,0)):=by
  have e:lay tkn0.cells 0 (oneP (s.drop p)).1.cells.toList=(oneP (s.drop p)).1.cells:=by rw [ZB (cs:=tkn0.cells) (vs:=(oneP (s.drop p)).1.cells.toList) rfl,Array.toArray_toList]
  rw [← e]; exact g4
 have E4:Ext h' h4:=(e2.trans e3).upd u4 e2.size
 refine N5 (x:=.int .i64 (oneP (s.drop p)).1.a) (by rw [Kp,KS g4]; rfl) (by rw [Kp]; exact ZX g4) rfl ?_
 rw [Kp]
 have u5:=Upd.hset h4 h2.size (0+3) (.int .i64 (p:Int))
 have g5:(hset h4 ⟨h2.size,0+3,none⟩ (.int .i64 (p:Int)))[h2.size]?=some (.cells (Tkn.cells { (oneP (s.drop p)).1 with a:=(p:Int) }) KP (0,0)):=by rw [VA g4]; rfl
 generalize hset h4 ⟨h2.size,0+3,none⟩ (.int .i64 (p:Int))=h5 at u5 g5 ⊢
 have E5:Ext h' h5:=E4.upd u5 e2.size
 have hnx:Wy s a'=if (oneP (s.drop p)).2=0∨tokB { (oneP (s.drop p)).1 with a:=(p:Int) }=false then none else some ({ (oneP (s.drop p)).1 with a:=(p:Int) },p+(oneP (s.drop p)).2):=by
  unfold Wy
  rw [hsp,if_pos hlt]
 generalize ht:({ (oneP (s.drop p)).1 with a:=(p:Int) }:Tkn)=t at g5 hnx
 generalize (oneP (s.drop p)).2=k at hnx hol
 have go:∀ {h6:Heap} {c:Bool},Ext h5 h6→c=decide (k=0∨tokB t=false)→(M.ite c (do
     M.pure (r,(p:Int))
     ) (do
     let Xx39←ldG 4 ⟨h2.size,0,none⟩
     let y_41←N4 4 1 (#[.int .i64 0,.string ByteArray.empty,.int .i64 0,.int .i64 0]:Array Value) [(0,.agg Xx39)]
     let Xx40←bdL KP 1 y_41
     let Xx42←apL KP 4 40 (#[.int .i64 0,.string ByteArray.empty,.int .i64 0,.int .i64 0]:Array Value) r Xx40
     self (Xx42,IntKind.wrap .i64 ((p:Int)+(k:Int)))
     ):M (Sl × Int)).wp h6 Q:=fun {h6 c} e6 hcc=>by
  have E6:=E5.trans e6
  refine KW (fun h0=>KB ?_) (fun h0=>?_)
  ·rw [if_pos (of_decide_eq_true (hcc.symm.trans h0))] at hnx
   have H':∀ h'' r',Ext h h''→Gw h.size h'' r' 4 (Ve (tks (XT s m).1))→Q (r',((XT s m).2:Int)) h'':=H
   have hf:XT s m=((allT s 0).1.take i,p):=by
    unfold XT
    rw [WW hnx] at hd h2e
    have hlen:(allT s 0).1.length=i:=by
     have:=List.drop_eq_nil_iff.1 hd
     omega
    rw [List.getElem?_eq_none (by omega),List.take_of_length_le (by omega),List.take_of_length_le (by omega),h2e,hsp]
   have:=H h6 r (E.trans E6) (by rw [hf]; exact G.ext E6)
   rw [hf] at this
   exact this
  ·have hno:=of_decide_eq_false (hcc.symm.trans h0)
   rw [if_neg hno] at hnx
   have hk0:k≠0:=fun e=>hno (.inl e)
   rw [WX ha' hnx] at hd h2e
   have hlt2:i < (allT s 0).1.length:=by
    rcases Nat.lt_or_ge i (allT s 0).1.length with h | h
    ·exact h
    ·rw [List.drop_eq_nil_iff.2 h] at hd; cases hd
   rw [List.drop_eq_getElem_cons hlt2] at hd
   obtain ⟨hd1,hd2⟩:=List.cons.inj hd
   have G6:=G.ext E6
   have hz6:=(E.trans E6).size
   refine KHK G6 (by omega) (by rw [List.length_take]; omega) (e6.blk g5) (fun h7 r7 G7 hs7 same7=>?_)
   rw [w64 (by omega) (by omega)]
   refine hself (_,_) _ ⟨i+1,p+k,by push_cast; rfl,by omega,hlt2,by omega,?_,hd2,h2e,⟨by omega,fun j hj=>(same7 j (by omega) (fun ho=>by have:=(G6.lt ho).2; omega)).trans ((E.trans E6).same j hj)⟩,?_⟩ (by dsimp only; omega)
   ·have:i≠m:=fun e=>hc2 (.inr (by omega))
    omega
   ·rw [List.take_succ_eq_append_getElem hlt2,hd1]
    exact G7
 rw [eqI]
 by_cases hk0:k=0
 ·exact Up (decide_eq_true (by omega)) (Ko (go (Ext.refl _) (decide_eq_true (.inl hk0)).symm))
 ·refine W7 (decide_eq_false (by omega)) (Kf (ldR g5 rfl (Kf (KJ (XO (fun h6 e6=>Ko (go e6 ?_)))))))
  rw [KG2]
  cases tokB t with
  | true=>exact (decide_eq_false (fun h=>h.elim hk0 (fun h=>by cases h))).symm
  | false=>exact (decide_eq_true (.inr rfl)).symm
end Gx
namespace Gx
open Go
set_option linter.unusedVariables false
set_option linter.unusedSimpArgs false
set_option maxRecDepth 100000
theorem KJD {er kk k:Int} {t:Tkn} {n:Nat} (ht:t.a=0):(oneW er kk k t n).1.a=0:=by
 unfold oneW
 split
 ·rfl
 ·exact ht
theorem KJE:∀ s:List UInt8,(oneP s).1.a=0
 | []=>rfl
 | c::r=>by
  rw [X9]
  split
  ·rfl
  split
  ·rfl
  split
  ·exact KJD rfl
  ·exact KJD rfl
theorem KJF {t:Tkn} (h:t.a=0) (p:Nat):tokB { t with a:=(p:Int) }=tokB t:=by
 obtain ⟨k,s,n,a⟩:=t
 have h:a=0:=h
 subst h
 unfold tokB
 dsimp only
 rw [show decide ((p:Int) < 0)=decide ((0:Int) < 0) from decide_eq_decide.2 (by omega)]
theorem KHU {s:List UInt8}:∀ (f a:Nat),a≤s.length→s.length - a < f→∀ t ∈ (allT s a).1,∃ p:Nat,t.a=(p:Int)∧p < s.length∧(oneP (s.drop p)).2≠0∧tokB (oneP (s.drop p)).1=true
 | 0,a,ha,hf=>by omega
 | f+1,a,ha,hf=>by
  cases hn:Wy s a with
  | none=>rw [WW hn]; intro t ht; cases ht
  | some q =>
   obtain ⟨t,a'⟩:=q
   have hlt:=XN ha hn
   rw [WX ha hn]
   intro x hx
   rcases List.mem_cons.1 hx with rfl | hx
   ·unfold Wy at hn
    split at hn
    ·rename_i hp
     split at hn
     ·cases hn
     ·rename_i h1
      cases hn
      refine ⟨_,rfl,hp,fun e=>h1 (.inl e),?_⟩
      rw [← KJF (KJE _) (Z7 s a)]
      exact Decidable.byContradiction (fun e=>h1 (.inr (by simpa using e)))
    ·cases hn
   ·exact KHU f a' hlt.2 (by omega) x hx
theorem KFM {s:List UInt8}:∀ (f a:Nat),a≤s.length→s.length - a < f→(allT s a).2 < s.length→(oneP (s.drop (allT s a).2)).2=0∨tokB (oneP (s.drop (allT s a).2)).1=false
 | 0,a,ha,hf,_=>by omega
 | f+1,a,ha,hf,he=>by
  cases hn:Wy s a with
  | none =>
   rw [WW hn] at he ⊢
   dsimp only at he ⊢
   unfold Wy at hn
   rw [if_pos he] at hn
   split at hn
   ·rename_i h1
    rw [KJF (KJE _) (Z7 s a)] at h1
    exact h1
   ·cases hn
  | some q =>
   obtain ⟨t,a'⟩:=q
   have hlt:=XN ha hn
   rw [WX ha hn] at he ⊢
   exact KFM f a' hlt.2 (by omega) he
theorem KHV {s:List UInt8} {h:Heap} {Q:Sl × Int × Int→Heap→Prop}
  (H:∀ h' r,Ext h h'→TkR h' r (lexP s).1→Q (r,((lexP s).2.1:Int),(lexP s).2.2) h'):(Uw (bs s)).wp h Q:=by
 unfold Uw
 rw [Kw]
 unfold lexP at H
 refine KW (fun hlong=>KB ?_) (fun hshort=>?_)
 ·rw [if_pos (by have:=of_decide_eq_true hlong; omega)] at H
  exact H h Sl.nil (Ext.refl _) (TkR.nil _)
 have hs:s.length≤1099511627776:=by have:=of_decide_eq_false hshort; omega
 rw [if_neg (by have:=of_decide_eq_false hshort; omega)] at H
 refine KJ (KEY (m:=4096) hs (fun h1 r e1 G=>?_))
 dsimp only
 rw [eqI]
 have hle:=KFI s
 have R:=G.tkR
 have hrl:=R.1
 cases hg:(allT s 0).1[4096]? with
 | some t =>
  rw [hg] at H
  have hf:XT s 4096=((allT s 0).1.take 4096,t.a.toNat):=by unfold XT; rw [hg]
  rw [hf] at R hrl ⊢
  dsimp only at H R hrl ⊢
  obtain ⟨hi,hte⟩:=List.getElem?_eq_some_iff.1 hg
  rw [List.length_take,Nat.min_eq_left (by omega)] at hrl
  obtain ⟨p,hp,hpl,ho,hb⟩:=KHU _ 0 (Nat.zero_le _) (Nat.lt_succ_self _) t (hte ▸ List.getElem_mem hi)
  have htn:t.a.toNat=p:=by rw [hp]; rfl
  rw [htn] at H ⊢
  refine iteF (decide_eq_false (by omega)) (iteT (by rw [eqI]; exact decide_eq_true (by omega)) ?_)
  refine zb (a:=p) (b:=s.length) rfl rfl (by omega) (Nat.le_refl _) ?_
  rw [List.take_of_length_le (by rw [List.length_drop]; omega)]
  have hne:s.drop p≠[]:=fun e=>by have:=congrArg List.length e; rw [List.length_drop] at this; simp at this; omega
  refine KJ (KA1 hne (by rw [List.length_drop]; omega) (fun h2 e2=>Zv (fun h3 e3 s3 g3=>JI rfl (stR g3 (Nat.le_refl 4) (WI _) (fun h4 u4 g4=>?_)))))
  have g4:h4[h2.size]?=some (.cells (oneP (s.drop p)).1.cells KP (0,0)):=by
   have e:lay tkn0.cells 0 (oneP (s.drop p)).1.cells.toList=(oneP (s.drop p)).1.cells:=by rw [ZB (cs:=tkn0.cells) (vs:=(oneP (s.drop p)).1.cells.toList) rfl,Array.toArray_toList]
   rw [← e]; exact g4
  have E4:Ext h1 h4:=(e2.trans e3).upd u4 e2.size
  refine Up (decide_eq_true (by omega)) (Kf (ldR g4 rfl (Kf (KJ (XO (fun h5 e5=>Ko (iteT ?_ (KB ?_))))))))
  ·unfold tokE; rw [hb]; rfl
  ·exact H _ Sl.nil ((e1.trans E4).trans e5) (TkR.nil _)
 | none =>
  rw [hg] at H
  dsimp only at H
  have hlen:=List.getElem?_eq_none_iff.1 hg
  have hf:XT s 4096=((allT s 0).1,(allT s 0).2):=by unfold XT; rw [hg,List.take_of_length_le hlen]
  rw [hf] at R hrl ⊢
  dsimp only at R hrl ⊢
  have hend:=KFM _ 0 (Nat.zero_le s.length) (Nat.lt_succ_self _)
  generalize hq:(allT s 0).2=q at H hle hend ⊢
  refine KW (fun hc=>KB ?_) (fun hc=>?_)
  ·have hc:=of_decide_eq_true hc
   rw [if_neg (by omega)] at H
   rw [hc]
   exact H h1 r e1 R
  ·have hc:=of_decide_eq_false hc
   rw [if_pos (by omega)] at H
   have stop:∀ {h':Heap},Ext h1 h'→(J5 (q:Int)).wp h' Q:=fun {h'} e'=>by
    unfold J5
    exact KB (H h' Sl.nil (e1.trans e') (TkR.nil _))
   refine KW (fun hm=>?_) (fun _=>stop (Ext.refl _))
   have hbad:=hend (by omega)
   refine zb (a:=q) (b:=s.length) rfl rfl (by omega) (Nat.le_refl _) ?_
   rw [List.take_of_length_le (by rw [List.length_drop]; omega)]
   have hne:s.drop q≠[]:=fun e=>by have:=congrArg List.length e; rw [List.length_drop] at this; simp at this; omega
   refine KJ (KA1 hne (by rw [List.length_drop]; omega) (fun h2 e2=>Zv (fun h3 e3 s3 g3=>JI rfl (stR g3 (Nat.le_refl 4) (WI _) (fun h4 u4 g4=>?_)))))
   have g4:h4[h2.size]?=some (.cells (oneP (s.drop q)).1.cells KP (0,0)):=by
    have e:lay tkn0.cells 0 (oneP (s.drop q)).1.cells.toList=(oneP (s.drop q)).1.cells:=by rw [ZB (cs:=tkn0.cells) (vs:=(oneP (s.drop q)).1.cells.toList) rfl,Array.toArray_toList]
    rw [← e]; exact g4
   have E4:Ext h1 h4:=(e2.trans e3).upd u4 e2.size
   refine KD1 (fun h0=>?_) (fun h0=>Ko (iteF rfl (stop E4)))
   have h0:=of_decide_eq_true h0
   refine Kf (ldR g4 rfl (Kf (KJ (XO (fun h5 e5=>Ko (iteF ?_ (stop (E4.trans e5))))))))
   have hb:tokB (oneP (s.drop q)).1=false:=hbad.resolve_left (by omega)
   unfold tokE; rw [hb]; rfl
theorem KFv {x y:Sl} {ts:List Tkn} {h:Heap} {Q:Bool→Heap→Prop} (hx:TkR h x ts) (hy:TkR h y ts) (hm:ts.length≤1099511627776) (H:Q true h):(K8 x y).wp h Q:=by
 unfold K8
 refine iteF (by rw [hx.1,hy.1]; simp) ?_
 rw [hx.1]
 refine M.loop_inv (fun (t:Int) hh=>∃ i:Nat,t=(i:Int)∧i≤ts.length∧hh=h) (fun t _=>ts.length+1 - t.toNat) ?_ ⟨0,rfl,Nat.zero_le _,rfl⟩
 rintro t hh ⟨i,rfl,hi,rfl⟩ self hself
 unfold Zf
 refine KW (fun hlt=>?_) (fun hge=>KB H)
 have hlt:i < ts.length:=by have:=of_decide_eq_true hlt; omega
 obtain ⟨a,ha,hca⟩:=hx.at hlt
 obtain ⟨b,hb,hcb⟩:=hy.at hlt
 refine KBs (by omega) (by rw [hx.1]; omega) ha (KBs (by omega) (by rw [hy.1]; omega) hb ?_)
 refine Xf rfl hca (Xf rfl hcb ?_)
 refine ⟨true,⟨⟨⟨_,rfl,rfl⟩,⟨_,rfl,rfl⟩,⟨_,rfl,rfl⟩,⟨_,rfl,rfl⟩,trivial⟩,⟨⟨_,rfl,rfl⟩,⟨_,rfl,rfl⟩,⟨_,rfl,rfl⟩,⟨_,rfl,rfl⟩,trivial⟩,by generalize ts[i]=u; simp [cEq,vEq,Tkn.cells]⟩,iteF rfl ?_⟩
 rw [w64 (by omega) (by omega)]
 exact hself _ _ ⟨i+1,by omega,by omega,rfl⟩ (by omega)
theorem KLj:lexP [103,46,86,40,49,41]=([⟨1,[103],0,0⟩,⟨4,[46],0,1⟩,⟨1,[86],0,2⟩,⟨4,[40],0,3⟩,⟨2,[],1,4⟩,⟨4,[41],0,5⟩],6,0):=by kernel_rfl
theorem KDs {h:Heap} {Q:Bool→Heap→Prop} (he:ErrV h) (H:∀ h',Ext h h'→Q true h'):(UN).wp h Q:=by
 unfold UN
 refine KJ (KFK (s:=[103,46,86,40,49,41]) he (fun h1 r e1 R hc=>?_))
 rw [KLj] at R ⊢
 obtain ⟨a,ha,hca⟩:=R.at (i:=4) (by decide)
 have hrl:r.len=6:=R.1
 refine Up (by rw [hrl]; rfl) (Kf (KBs (b:=a) (by decide) (by rw [hrl]; decide) ha (Kf (Xf (cs:=Tkn.cells ⟨2,[],1,4⟩) rfl hca ?_))))
 refine Kf ⟨true,⟨⟨⟨_,rfl,rfl⟩,⟨_,rfl,rfl⟩,⟨_,rfl,rfl⟩,⟨_,rfl,rfl⟩,trivial⟩,⟨⟨_,rfl,rfl⟩,⟨_,rfl,rfl⟩,⟨_,rfl,rfl⟩,⟨_,rfl,rfl⟩,trivial⟩,by decide +kernel⟩,?_⟩
 exact Ko (Up rfl (Ko (Up rfl (Ko (KB (H _ e1))))))
theorem KFw {s:List UInt8} {h:Heap} {Q:Bool→Heap→Prop} (hp:KDD h) (hd:KGX h) (he:ErrV h) (H:∀ h',Ext h h'→Q true h'):(Ux (bs s)).wp h Q:=by
 unfold Ux
 refine KJ (KFK he (fun h1 r1 e1 R1 _=>KJ (KHV (fun h2 r2 e2 R2=>KJ (KDs (he.ext (e1.trans e2)) (fun h3 e3=>?_))))))
 have hl:(lexP s).1.length≤1099511627776:=by
  unfold lexP
  split
  ·simp
  ·split
   ·simp
   ·split
    ·simp
    ·rename_i hg _
     have:=List.getElem?_eq_none_iff.1 hg
     dsimp only
     omega
 refine Up rfl (Kf (KJ (KFv (R1.ext (e2.trans e3)) (R2.ext e3) hl (Ko ?_))))
 refine Up rfl (Ko (Up ?_ (Ko (KB ?_))))
 ·exact decide_eq_true rfl
 ·have:((lexP s).2.2 == (lexP s).2.2)=true:=decide_eq_true rfl
  dsimp only
  rw [this]
  exact H _ ((e1.trans e2).trans e3)
end Gx
namespace Go.Proofs.YtpibdohdkfkcnaaGreatDoor
open Go Go.RowKit Gx
set_option linter.unusedVariables false
set_option maxRecDepth 100000
theorem c3:Tryz.prog.cellsOf 3=1:=by kernel_rfl
theorem c2:Tryz.prog.cellsOf 2=1:=by kernel_rfl
theorem c9:Tryz.prog.cellsOf 9=1:=by kernel_rfl
section
variable {H:Type} {enc:TypeId × Value→H}
theorem KIh {W:World} {t:TypeId} {n:Nat} {c:Value} {x:DataW H × List MemPlace} {sp:Nat→Bool} {held:Bool} {base:Nat} (ht:Tryz.prog.underlying t=some .string) (h:DataW.trod enc Tryz.prog W base sp held n t [c]=some x):∃ s:ByteArray,c=.string s∧s.size≤maxLen∧Rows.uptoBulk x.1=s.data.toList.length+1:=by
 cases n with
 | zero=>simp [DataW.trod] at h
 | succ n =>
  unfold DataW.trod at h
  rw [ht] at h
  cases c with
  | string s =>
   simp only at h
   split at h
   ·rename_i hk
    cases h
    exact ⟨s,rfl,hk,by simp [Rows.uptoBulk]⟩
   ·cases h
  | _=>simp at h
theorem KCj {W:World} {a:Addr}:W.cell? a=KV W.heap a:=rfl
end
end Go.Proofs.YtpibdohdkfkcnaaGreatDoor
namespace Gx
open Go Go.RowKit Go.ChangeShapes Go.WideShapes Go.ChangeAt Go.Joins
set_option linter.unusedVariables false
section
variable {H:Type} {enc:TypeId × Value→H} {P:Program}
theorem KIi {W W':World} (he:Ext W.heap W'.heap) {p:MemPlace} (hp:p.block < W.heap.size):W.sameAt W' p:=by
 cases p with
 | cell b o=>exact World.cell?_of_block (w:=W) (he.same b hp)
 | map b=>exact he.same b hp
theorem KIj {t:TypeId} (hl:laidOutB P=true) (hr:P.readableRec t=true) (hrow:t < P.types.size) {W W':World} {v:Value} {d:DataW H} {ps:List MemPlace}
  (h:DataW.Trod enc P W 0 (fun _=>true) true t v d ps) (he:Ext W.heap W'.heap) :
  DataW.Trod enc P W' 0 (fun b=>decide (b < W.heap.size)) true t v d ps:=by
 have hlt:∀ x ∈ ps,x.block < W.heap.size:=by
  obtain ⟨m,hm⟩:=h
  exact DataW.trod_lt m _ _ _ hm
 exact WideElems.Trod_stays hl hr hrow h (fun x hx=>KIi he (hlt x hx)) (fun x hx=>by simpa using hlt x hx)
theorem KHW {W W':World} (he:Ext W.heap W'.heap) (hr:Rest W W') (may:MemPlace→Prop):W.keptBut W' may:=by
 refine ⟨hr.os,hr.output,fun i hi=>?_⟩
 rw [he.same i hi]
 split <;> simp_all
end
end Gx
namespace Go.Proofs.YtpibdohdkfkcnaaGreatDoor
open Go Go.RowKit Go.ChangeShapes Go.WideShapes Go.ChangeAt Go.Joins Gx
set_option linter.unusedVariables false
set_option maxRecDepth 100000
theorem Own:ownKnob Tryz.prog.godebug=none:=by kernel_rfl
theorem Laid:laidOutB Tryz.prog=true:=by kernel_rfl
def KIk:List (String × DataW Unit):=[("math/bits.deBruijn32tab",Rows.laid_math_bits_deBruijn32tab),("math/bits.deBruijn64tab",Rows.laid_math_bits_deBruijn64tab),("internal/strconv.uint64pow10",Rows.laid_internal_strconv_uint64pow10),("unicode/utf8.acceptRanges",Rows.laid_unicode_utf8_acceptRanges),("strconv.ErrRange",Rows.laid_strconv_ErrRange),("strconv.ErrSyntax",Rows.laid_strconv_ErrSyntax),("unicode/utf8.first",Rows.laid_unicode_utf8_first)]
theorem gPow:Tryz.prog.globalNamed "internal/strconv.uint64pow10"=some 3:=by kernel_rfl
theorem gDb:Tryz.prog.globalNamed "math/bits.deBruijn64tab"=some 5:=by kernel_rfl
theorem YO {P:Program} {x:String × DataW Unit} {r:List (String × DataW Unit)} {W:World} (h:laidMet P (x::r) W):laidMet P r W:=by
 obtain ⟨ps,h1,h2,h3⟩:=h
 obtain ⟨n,d⟩:=x
 obtain ⟨g,t,cs,fuel,p,q,a1,a2,a3,a4,a5,rfl⟩:=h1
 exact ⟨q,a5,(List.nodup_append.1 h2).2.1,fun b off hb=>h3 b off (List.mem_append.2 (.inr hb))⟩
theorem KKN {W:World} (h:laidMet Tryz.prog KIk W):KDD W.heap:=by
 have h1:Lib.TabIs Tryz.prog W "internal/strconv.uint64pow10" .u64 [1,10,100,1000,10000,100000,1000000,10000000,100000000,1000000000,10000000000,100000000000,1000000000000,10000000000000,100000000000000,1000000000000000,10000000000000000,100000000000000000,1000000000000000000,10000000000000000000] :=
  Lib.tabIs_of_head (rest:=[("unicode/utf8.acceptRanges",Rows.laid_unicode_utf8_acceptRanges),("strconv.ErrRange",Rows.laid_strconv_ErrRange),("strconv.ErrSyntax",Rows.laid_strconv_ErrSyntax),("unicode/utf8.first",Rows.laid_unicode_utf8_first)]) gPow (by kernel_rfl:(Tryz.prog.globals[3]?).map (·.type)=some 250) Tryz.underlying250 Tryz.underlying216 (by kernel_rfl) (by kernel_rfl) (YO (YO h))
 unfold Lib.TabIs at h1
 simp only [World.var?,gPow,Option.bind_some] at h1
 split at h1
 ·rename_i cs t fz hh
  cases h1
  exact ⟨fz,t,hh⟩
 ·cases h1
theorem KLk {W:World} (h:laidMet Tryz.prog KIk W):KGX W.heap:=by
 have h1:Lib.TabIs Tryz.prog W "math/bits.deBruijn64tab" .u8 [0,1,56,2,57,49,28,3,61,58,42,50,38,29,17,4,62,47,59,36,45,43,51,22,53,39,33,30,24,18,12,5,63,55,48,27,60,41,37,16,46,35,44,21,52,32,23,11,54,26,40,15,34,20,31,10,25,14,19,9,13,8,7,6] :=
  Lib.tabIs_of_head (rest:=[("internal/strconv.uint64pow10",Rows.laid_internal_strconv_uint64pow10),("unicode/utf8.acceptRanges",Rows.laid_unicode_utf8_acceptRanges),("strconv.ErrRange",Rows.laid_strconv_ErrRange),("strconv.ErrSyntax",Rows.laid_strconv_ErrSyntax),("unicode/utf8.first",Rows.laid_unicode_utf8_first)]) gDb (by kernel_rfl:(Tryz.prog.globals[5]?).map (·.type)=some 262) Tryz.underlying262 Tryz.underlying5 (by kernel_rfl) (by kernel_rfl) (YO h)
 unfold Lib.TabIs at h1
 simp only [World.var?,gDb,Option.bind_some] at h1
 split at h1
 ·rename_i cs t fz hh
  cases h1
  exact ⟨_,t,fz,hh,rfl⟩
 ·cases h1
def KCh (cs:Array Value):Obj→Obj
 | .cells _ t frozen=>.cells cs t frozen
 | o=>o
def KKO (h:Array Obj):Array Obj:=(((h.modify 7 (KCh #[.iface 275 (.pointer (some ⟨h.size,0,none⟩))])).modify 6 (KCh #[.iface 275 (.pointer (some ⟨h.size+1,0,none⟩))])).push (.cells #[.string ⟨#[118,97,108,117,101,32,111,117,116,32,111,102,32,114,97,110,103,101]⟩] 277)).push (.cells #[.string ⟨#[105,110,118,97,108,105,100,32,115,121,110,116,97,120]⟩] 277)
noncomputable def litV:Lit→Value
 | .int k n=>.int k n
 | .bool b=>.bool b
 | _=>undef
noncomputable def KMS (ps:List (DataW Unit)):List Value:=ps.flatMap fun p=>match p with
 | .lit l=>[litV l]
 | .agg qs=>qs.map fun q=>match q with
  | .lit l=>litV l
  | _=>undef
 | _=>[]
noncomputable def KLl (l:List (String × DataW Unit)) (h:Array Obj):Array Obj:=l.foldl (fun h x=>match Tryz.prog.globalNamed x.1,x.2 with
 | some g,.agg ps=>h.modify g (KCh (KMS ps).toArray)
 | _,_=>h) h
noncomputable def KA2 (os:Os) (args:Array Value):World :=
 { World.holding Tryz.prog os ⟨#[],args,[]⟩ with heap:=KKO (KLl KIk (World.holding Tryz.prog os ⟨#[],args,[]⟩).heap) }
theorem gErr:Tryz.prog.globalNamed "strconv.ErrRange"=some 7:=by kernel_rfl
theorem KMT {W:World} (h:laidMet Tryz.prog KIk W):ErrV W.heap:=by
 obtain ⟨ps,h1,h2,h3⟩:=(YO (YO (YO (YO h))))
 obtain ⟨g,t,cs,fuel,p,q,a1,a2,a3,a4,a5,rfl⟩:=h1
 rw [gErr] at a1
 cases a1
 have ht:t=84:=Option.some.inj (a2.symm.trans (by kernel_rfl))
 subst ht
 have hcs:∃ u v,cs.toList=[.iface u v]:=by
  cases fuel with
  | zero=>simp [DataW.trod] at a4
  | succ fuel =>
   unfold DataW.trod at a4
   rw [Tryz.underlying84] at a4
   cases hc:cs.toList with
   | nil=>rw [hc] at a4; simp at a4
   | cons c r =>
    rw [hc] at a4
    cases r with
    | cons c2 r2=>exfalso; cases c <;> simp at a4
    | nil=>cases c <;> first | exact ⟨_,_,rfl⟩ | (exfalso; simp [Rows.laid_strconv_ErrRange] at a4)
 obtain ⟨u,v,hcs⟩:=hcs
 have hcs':cs=#[.iface u v]:=by
  apply Array.ext'
  exact hcs
 subst hcs'
 simp only [World.var?,gErr,Option.bind_some] at a3
 split at a3
 ·rename_i cs' t' fz hh
  cases a3
  exact ⟨u,v,by rw [KS hh]; rfl⟩
 ·cases a3
end Go.Proofs.YtpibdohdkfkcnaaGreatDoor
