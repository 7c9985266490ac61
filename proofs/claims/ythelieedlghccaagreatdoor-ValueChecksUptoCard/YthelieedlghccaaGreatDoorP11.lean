/- Own proofs: what those Lean programs compute. No condition. -/
import Derived.Test.YthelieedlghccaaGreatDoorP0
import Derived.Test.YthelieedlghccaaGreatDoorP1
import Derived.Test.YthelieedlghccaaGreatDoorP2
import Derived.Test.YthelieedlghccaaGreatDoorP3
import Derived.Test.YthelieedlghccaaGreatDoorP4
import Derived.Test.YthelieedlghccaaGreatDoorP5
import Derived.Test.YthelieedlghccaaGreatDoorP6
import Derived.Test.YthelieedlghccaaGreatDoorP7
import Derived.Test.YthelieedlghccaaGreatDoorP8
import Derived.Test.YthelieedlghccaaGreatDoorP9
import Derived.Test.YthelieedlghccaaGreatDoorP10
import Derived.WalkKit
import Derived.ProofKit
import Derived.OpenShut
import Derived.ShutString
import Derived.ChangeOld
import Derived.Below
import Derived.SizedLaws
import Derived.Lib.SmallJoins
set_option linter.unusedVariables false
set_option linter.unusedSimpArgs false
namespace Gx
open Go
set_option linter.unusedVariables false
set_option linter.unusedSimpArgs false
theorem q8 {n:Int} {h:Heap} {Q:ByteArray→Heap→Prop} (hn:I64 n) (hp:NV h) (H:∀ h',Ext h h'→Q (bs (Lib.itoa n)) h'):(GK n).wp h Q:=by
 unfold GK Jm
 refine KX (KX (Xb (qj n) ⟨hn.1,hn.2,hp,fun h' h1 h2=>KQ (KQ (H _ ⟨h1,h2⟩))⟩))
theorem KFc {β:Type} {n:Nat} (hn:n < 16) {t:Int} (ht:t=(n:Int)) {h:Heap} {Q:β→Heap→Prop} {f:ByteArray→M β} (hd:zl h) (H:∀ h',Ext h h'→(f (bs [hexc n])).wp h' Q):(Jm t 16>>=f).wp h Q:=by
 subst ht
 unfold Jm
 exact KX (KX (Xb (Yu _ _) (KDv hn hd (fun h' e=>KQ (H _ e)))))
def qc (c:UInt8):List UInt8:=if c < 32∨126 < c then [92,120,hexc (c.toNat / 16),hexc (c.toNat % 16)] else if c=39∨c=92 then [92,c] else [c]
def KAp (s:List UInt8):List UInt8:=39::s.flatMap qc++[39]
structure BW (h0:Heap) (b c:Nat) (o:Obj) (h:Heap) (r:Sl) (l:List UInt8):Prop where
 bld:Bld h0.size h b r l
 ext:Ext h0 h
 blk:h[c]?=some o
 off:¬ Sl.on r c
 ne:c≠b
theorem BW.keep {h0 h h':Heap} {b c:Nat} {o:Obj} {r r':Sl} {l l':List UInt8} (W:BW h0 b c o h r l) (B:Bld h0.size h' b r' l') (K:BKeep b r r' h h'):BW h0 b c o h' r' l' :=
 ⟨B,K.ext W.ext W.bld (Nat.le_refl _),(K.same c (GR W.blk) W.ne W.off).trans W.blk,fun ho=>(K.on_ c ho).elim W.off (fun h=>by have:=GR W.blk; omega),W.ne⟩
theorem BW.more {h0 h h':Heap} {b c:Nat} {o:Obj} {r:Sl} {l:List UInt8} (W:BW h0 b c o h r l) (e:Ext h h'):BW h0 b c o h' r l :=
 ⟨W.bld.ext e,W.ext.trans e,e.blk W.blk,W.off,W.ne⟩
theorem KI9 (c:UInt8):iShr .u8 (c.toNat:Int) 4=((c.toNat / 16:Nat):Int):=by
 have h:(c.toNat:Int).fdiv 16=((c.toNat / 16:Nat):Int):=by
  rw [Int.fdiv_eq_ediv_of_nonneg _ (by decide)]; rfl
 exact h
set_option maxRecDepth 100000 in
theorem KJA:∀ c:UInt8,iAnd .u8 (c.toNat:Int) 15=((c.toNat % 16:Nat):Int):=by
 intro c
 have hk:∀ n,n < 256→iAnd .u8 ((n:Nat):Int) 15=((n % 16:Nat):Int):=by decide
 exact hk c.toNat c.toNat_lt
theorem KFd {l:List UInt8} {i:Nat} (hi:i < l.length) (f:UInt8→List UInt8):(l.take (i+1)).flatMap f=(l.take i).flatMap f++f l[i]:=by
 rw [KEN hi,List.flatMap_append]; simp
theorem KCc {s:List UInt8} {h:Heap} {Q:ByteArray→Heap→Prop} (hs:(KAp s).length≤140737488355328) (hd:zl h) (H:∀ h',Ext h h'→Q (bs (KAp s)) h'):(XA (bs s)).wp h Q:=by
 unfold XA
 refine Jp (fun h1 e1 z1 g1=>?_)
 have B1:=Bld.new (Nat.le_refl _) g1
 refine KX (X8 (c:=39) B1 (by omega) (by simp) rfl (fun h2 r2 B2 K2=>?_))
 refine fun cap hcap mk hmk=>?_
 have e3:=Ext.push h2 (.cells ((Jt (bs s)).toArray++Array.replicate (cap - (bs s).size) (.int .u8 0)) Zi mk)
 have g3:(h2.push (.cells ((Jt (bs s)).toArray++Array.replicate (cap - (bs s).size) (.int .u8 0)) Zi mk))[h2.size]?=some (.cells ((Jt (bs s)).toArray++Array.replicate (cap - (bs s).size) (.int .u8 0)) Zi mk):=Zj
 generalize h2.push (.cells ((Jt (bs s)).toArray++Array.replicate (cap - (bs s).size) (.int .u8 0)) Zi mk)=h3 at e3 g3 ⊢
 have hlt:=B2.lt
 have W3:BW h h.size h2.size _ h3 r2 [39]:=⟨B2.ext e3,(K2.ext e1 B1 (Nat.le_refl _)).trans e3,g3,fun ho=>by have:=(B2.row.lt ho).1; omega,by omega⟩
 rw [UT]
 have hq:(KAp s).length=(s.flatMap qc).length+2:=by simp [KAp]
 have hsl:s.length≤(s.flatMap qc).length:=by
  rw [List.length_flatMap]
  clear hs H hcap W3 g3 e3 hq K2 B2 hlt
  induction s with
  | nil=>simp
  | cons a s ih=>rw [List.map_cons,List.sum_cons,List.length_cons]; have:1≤(qc a).length:=by { unfold qc; split <;> (try split) <;> simp }; omega
 have hpre:∀ i,((s.take i).flatMap qc).length≤(s.flatMap qc).length:=fun i=>by
  conv=>rhs; rw [← List.take_append_drop i s,List.flatMap_append,List.length_append]
  omega
 refine M.loop_inv (fun (t:Int) h'=>∃ i:Nat,t=(i:Int)∧i≤s.length∧∃ r,BW h h.size h2.size (.cells ((Jt (bs s)).toArray++Array.replicate (cap - (bs s).size) (.int .u8 0)) Zi mk) h' r (39::(s.take i).flatMap qc)) (fun t _=>((s.length:Int) - t).toNat) ?_ ⟨0,rfl,Nat.zero_le _,r2,W3⟩
 rintro t h' ⟨i,rfl,hi,r,W⟩ self hself
 unfold YF
 have hpi:=hpre i
 refine Kx (fun hc=>?_) (fun hc=>?_)
 ·have hlt':i < s.length:=by have:=of_decide_eq_true hc; dsimp only at this; omega
  have hpj:=hpre (i+1)
  have htk:=KFd hlt' qc
  have cell:KV h' ((⟨h2.size,0,none⟩:Addr).add ((i:Int).toNat * 1))=some (.int .u8 (s[i].toNat:Int)):=by
   rw [Zn,Ks W.blk,show 0+(i:Int).toNat * 1=i by omega,Array.getElem?_append_left (by rw [z7]; simpa using hlt')]
   simp [z7,hlt',bv]
  refine GW (by omega) (by show (i:Int) < (s.length:Int); omega) rfl (Ux cell ?_)
  have hw64:IntKind.wrap .i64 ((i:Int)+1)=((i+1:Nat):Int):=by rw [w64 (by omega) (by omega)]; simp
  have hnext:∀ {h4:Heap} {r4:Sl},BW h h.size h2.size (.cells ((Jt (bs s)).toArray++Array.replicate (cap - (bs s).size) (.int .u8 0)) Zi mk) h4 r4 (39::(s.take (i+1)).flatMap qc)→(Uy self (i:Int)).wp h4 Q:=fun W4=>by
   unfold Uy
   rw [hw64]
   exact hself _ _ ⟨i+1,rfl,by omega,_,W4⟩ (by omega)
  rw [htk] at hnext hpj
  have c32:(decide ((s[i].toNat:Int) < 32))=decide (s[i] < 32):=by rw [Bool.eq_iff_iff]; simp [u8_lt_int]
  have c126:(decide ((s[i].toNat:Int) > 126))=decide (126 < s[i]):=by rw [Bool.eq_iff_iff]; simp [u8_lt_int]
  refine or_b (c:=decide (126 < s[i])) (fun _ Q' hq'=>KQ (by rw [c126]; exact hq')) ?_
  rw [c32]
  have hlo:h.size≤h'.size:=W.ext.size
  refine Kx (fun hx=>?_) (fun hx=>?_)
  ·have hx':s[i] < 32∨126 < s[i]:=by simpa using hx
   have hqc:qc s[i]=[92,120,hexc (s[i].toNat / 16),hexc (s[i].toNat % 16)]:=by unfold qc; rw [if_pos hx']
   rw [hqc] at hnext hpj
   simp only [List.length_append,List.length_cons,List.length_nil] at hpj
   have hdiv:s[i].toNat / 16 < 16:=by have:=s[i].toNat_lt; omega
   refine KX (X7 (s:=[92,120]) W.bld hlo (by simp only [List.length_cons,List.length_append,List.length_nil]; omega) (fun h4 r4 n4 B4 K4=>?_))
   have W4:=W.keep B4 K4
   refine KFc hdiv (by rw [KI9,w64 (by omega) (by omega)]) (hd.ext W4.ext) (fun h5 e5=>?_)
   have W5:=W4.more e5
   refine KX (X7 W5.bld W5.ext.size (by simp only [List.length_cons,List.length_append,List.length_nil]; omega) (fun h6 r6 n6 B6 K6=>?_))
   have W6:=W5.keep B6 K6
   refine KFc (Nat.mod_lt _ (by decide)) (by rw [KJA,w64 (by omega) (by omega)]) (hd.ext W6.ext) (fun h7 e7=>?_)
   have W7:=W6.more e7
   refine KX (X7 W7.bld W7.ext.size (by simp only [List.length_cons,List.length_append,List.length_nil]; omega) (fun h8 r8 n8 B8 K8=>?_))
   exact hnext (by have:=W7.keep B8 K8; simpa using this)
  ·have hx':¬ (s[i] < 32∨126 < s[i]):=by simpa using hx
   have c39:((s[i].toNat:Int) == 39)=decide (s[i]=39):=by
    rw [Bool.eq_iff_iff]; simp only [beq_iff_eq,decide_eq_true_eq]
    exact ⟨fun e=>UInt8.toNat_inj.1 (by simpa using (by omega:s[i].toNat=39)),fun e=>by rw [e]; rfl⟩
   have c92:((s[i].toNat:Int) == 92)=decide (s[i]=92):=by
    rw [Bool.eq_iff_iff]; simp only [beq_iff_eq,decide_eq_true_eq]
    exact ⟨fun e=>UInt8.toNat_inj.1 (by simpa using (by omega:s[i].toNat=92)),fun e=>by rw [e]; rfl⟩
   refine or_b (c:=decide (s[i]=92)) (fun _ Q' hq'=>KQ (by rw [c92]; exact hq')) ?_
   rw [c39]
   refine Kx (fun hy=>?_) (fun hy=>?_)
   ·have hy':s[i]=39∨s[i]=92:=by simpa using hy
    have hqc:qc s[i]=[92,s[i]]:=by unfold qc; rw [if_neg hx',if_pos hy']
    rw [hqc] at hnext hpj
    simp only [List.length_append,List.length_cons,List.length_nil] at hpj
    refine KX (X8 (c:=92) W.bld hlo (by simp only [List.length_cons,List.length_append,List.length_nil]; omega) rfl (fun h4 r4 B4 K4=>?_))
    have W4:=W.keep B4 K4
    refine KX (X8 (c:=s[i]) W4.bld W4.ext.size (by simp only [List.length_cons,List.length_append,List.length_nil]; omega) rfl (fun h5 r5 B5 K5=>?_))
    exact hnext (by have:=W4.keep B5 K5; simpa using this)
   ·have hy':¬ (s[i]=39∨s[i]=92):=by simpa using hy
    have hqc:qc s[i]=[s[i]]:=by unfold qc; rw [if_neg hx',if_neg hy']
    rw [hqc] at hnext hpj
    simp only [List.length_append,List.length_cons,List.length_nil] at hpj
    refine KX (X8 (c:=s[i]) W.bld hlo (by simp only [List.length_cons,List.length_append,List.length_nil]; omega) rfl (fun h4 r4 B4 K4=>?_))
    exact hnext (by have:=W.keep B4 K4; simpa using this)
 ·have hge:i=s.length:=by have:=of_decide_eq_false hc; dsimp only at this; omega
  subst hge
  rw [List.take_length] at W
  refine KX (X8 (c:=39) W.bld W.ext.size (by simp only [List.length_cons,List.length_append,List.length_nil]; omega) rfl (fun h4 r4 B4 K4=>?_))
  have W4:=W.keep B4 K4
  refine KX (KCA B4 (by simp only [List.length_cons,List.length_append,List.length_nil]; omega) (fun h5 K5 _=>KQ ?_))
  exact H _ (K5.ext W4.ext B4 (Nat.le_refl _))
end Gx
namespace Gx
open Go
set_option linter.unusedVariables false
set_option linter.unusedSimpArgs false
end Gx
namespace Gx
open Go
set_option linter.unusedVariables false
set_option linter.unusedSimpArgs false
def dgt (u:Nat):List Nat:=if h:u < 10 then [u] else dgt (u / 10)++[u % 10]
termination_by u
decreasing_by omega
theorem KFe (u:Nat):Lib.decDigits u=(dgt u).map fun d=>UInt8.ofNat (48+d):=by
 induction u using Nat.strongRecOn with
 | _ u ih =>
  unfold dgt Lib.decDigits
  split
  ·rfl
  ·rw [ih (u / 10) (by omega)]; simp
theorem KCd:∀ (k u:Nat),u < 10 ^ k→1≤k→(dgt u).length≤k
 | 0,u,h,h1=>by omega
 | k+1,u,h,h1=>by
  unfold dgt
  split
  ·simp
  ·rename_i hu
   rw [List.length_append]
   have:1≤k:=by
    rcases Nat.eq_zero_or_pos k with h0 | h0
    ·subst h0; omega
    ·exact h0
   have:=KCd k (u / 10) (by rw [Nat.pow_succ] at h; omega) this
   simp; omega
theorem KDP {β:Type} {h:Heap} {Q:β→Heap→Prop} {x y:List UInt8} {f:ByteArray→M β} (hm:x.length+y.length≤9223372036854775807) (H:(f (bs (x++y))).wp h Q):(sCat (bs x) (bs y)>>=f).wp h Q :=
 ⟨bs (x++y),⟨by rw [UT,UT]; omega,by apply ByteArray.ext; simp [bs]⟩,H⟩
theorem KGh {n:Int} (hn:I64 n):(Lib.itoa n).length≤21:=by
 obtain ⟨n1,n2⟩:=hn
 unfold Lib.itoa
 split
 ·rw [List.length_cons,KFe,List.length_map]
  have:=KCd 20 n.natAbs (by omega) (by decide)
  omega
 ·rw [KFe,List.length_map]
  have:=KCd 20 n.toNat (by omega) (by decide)
  omega
end Gx
namespace Gx
open Go
set_option linter.unusedVariables false
set_option linter.unusedSimpArgs false
def jn (sep:List UInt8):List (List UInt8)→List UInt8
 | []=>[]
 | [a]=>a
 | a::b::r=>a++(sep++jn sep (b::r))
def sv (s:List UInt8):Value:=.string (bs s)
theorem KCe (sep a:List UInt8) (l:List (List UInt8)):jn sep (a::l)=a++l.flatMap (fun s=>sep++s):=by
 induction l generalizing a with
 | nil=>simp [jn]
 | cons b r ih=>rw [jn,ih]; simp
theorem KDw {lo:Nat} {h:Heap} {b:Nat} {n:Int} {Q:Unit→Heap→Prop} (B:Bld lo h b Sl.nil []) (hlo:lo≤h.size) (h0:0≤n) (hn:n≤140737488355328)
  (H:∀ h' r',Bld lo h' b r' []→BKeep b Sl.nil r' h h'→Q () h'):(UV (some ⟨b,0,none⟩) n).wp h Q:=by
 unfold UV
 refine Nx B (fun h1 B1 u1=>iteF (by simp; omega) ?_)
 obtain ⟨p,q1,q2⟩:=B1.ptr
 have c1:KV h1 ((⟨b,0,none⟩:Addr).add 1)=some Sl.nil.v:=by rw [Zn,Ks q1]; rfl
 refine Uf (Uf (UG (n:=Sl.nil) c1 (UG (n:=Sl.nil) c1 ?_)))
 have hK1:BKeep b Sl.nil Sl.nil h h1:=⟨by rw [u1.size]; exact Nat.le_refl _,fun i hi hne _=>u1.ne i hne,fun i hi=>.inl hi⟩
 refine Kx (fun hc=>?_) (fun hc=>KQ (H _ _ B1 hK1))
 have hpos:0 < n:=of_decide_eq_true hc
 refine KX ?_
 unfold Uz
 refine Uf (Uf (UG (n:=Sl.nil) c1 (UG (n:=Sl.nil) c1 ?_)))
 have hw:IntKind.wrap .i64 ((IntKind.wrap .i64 (2 * ((Sl.nil:Sl).cap:Int)))+n)=n:=by
  rw [show IntKind.wrap .i64 (2 * ((Sl.nil:Sl).cap:Int))=0 by decide,w64 (by omega) (by omega)]; omega
 rw [hw]
 refine ⟨h0,by omega,fun cs hle hmax=>?_⟩
 have e2:=Ext.push h1 (.cells cs Zi)
 have g2:(h1.push (.cells cs Zi))[h1.size]?=some (.cells cs Zi (0,0)):=Zj
 generalize h1.push (.cells cs Zi)=h2 at e2 g2 ⊢
 have c2:=e2.cell c1
 refine KBk ⟨c2,c2⟩ (KDW (by decide) (by decide) (by dsimp only [Sl.nil]; omega) (Uf (UG (n:=Sl.nil) c2 ?_)))
 have hcs:cs.size≠0:=by omega
 rw [if_neg (show ¬ cs.size=(0:Int).toNat by simpa using hcs)]
 have hbz:(Option.map (fun x:Addr=>x.add ((0:Int).toNat * 1)) (some ⟨h1.size,0,none⟩))=some ⟨h1.size,0,none⟩:=by simp [Zn]
 have hr:(⟨Option.map (fun x:Addr=>x.add ((0:Int).toNat * 1)) (some ⟨h1.size,0,none⟩),((Sl.nil:Sl).len:Int).toNat - (0:Int).toNat,cs.size - (0:Int).toNat⟩:Sl)=⟨some ⟨h1.size,0,none⟩,0,cs.size⟩:=by
  rw [hbz]; simp [Sl.nil]
 dsimp only
 rw [hr]
 refine ⟨[],by simp [Sl.nil],.inl rfl,fun a ha j hj=>by simp at hj,by simp,Uf ?_⟩
 rw [show Yj h2 (⟨some ⟨h1.size,0,none⟩,0,cs.size⟩:Sl).base 0 []=h2 from rfl]
 obtain ⟨p',q1',q2'⟩:=(B1.ext e2).ptr
 refine Gk (x:=Sl.nil.v) c2 (by rw [Zn,JH q1']) (zH _) (KQ (KQ ?_))
 rw [Zn,Nat.zero_add]
 have hlt:=B1.lt
 have R:Gw lo h2 ⟨some ⟨h1.size,0,none⟩,0,cs.size⟩ 1 (([]:List UInt8).map bv):=.inr ⟨h1.size,_,_,rfl,by have:=u1.size; omega,g2,by simp,by simp,by simp,fun j v hj=>by simp at hj⟩
 obtain ⟨B3,K3⟩:=KCb (h:=h1) (h':=h2) (l':=[]) B1 (Upd.refl _ _) e2.size (fun i hi _=>e2.same i hi) (fun i hi=>by obtain ⟨a,ha,rfl⟩:=hi; cases ha; exact .inr (Nat.le_refl _)) R (fun h=>absurd h hcs) (fun g hg=>by cases hg; exact ⟨_,_,g2⟩)
 exact H _ _ B3 (hK1.trans K3 B.lt)
def SsAt (h:Heap) (x:Sl) (ps:List (List UInt8)):Prop:=x.len=ps.length∧x.len≤x.cap∧Y2 h x.base (ps.map sv)
theorem SsAt.ext {h h':Heap} {x:Sl} {ps:List (List UInt8)} (S:SsAt h x ps) (e:Ext h h'):SsAt h' x ps:=⟨S.1,S.2.1,e.reads S.2.2⟩
theorem SsAt.get {h:Heap} {x:Sl} {ps:List (List UInt8)} (S:SsAt h x ps) {i:Nat} (hi:i < ps.length):∃ a,x.base=some a∧KV h (a.add i)=some (.string (bs ps[i])):=by
 obtain ⟨_,_,R | ⟨a,ha,R⟩⟩:=S
 ·have:ps=[]:=by simpa using R
  subst this; simp at hi
 ·exact ⟨a,ha,R i _ (by simp [hi,sv])⟩
theorem KBd {ps:List (List UInt8)} {i:Nat} (hi:i < ps.length):((ps.take (i+1)).map List.length).sum=((ps.take i).map List.length).sum+ps[i].length:=by
 rw [List.take_succ_eq_append_getElem hi,List.map_append,List.sum_append]; simp only [List.map_cons,List.map_nil,List.sum_cons,List.sum_nil,Nat.add_zero]
theorem KCf (ps:List (List UInt8)) (i:Nat):((ps.take i).map List.length).sum≤(ps.map List.length).sum:=by
 conv=>rhs; rw [← List.take_append_drop i ps,List.map_append,List.sum_append]
 omega
theorem KID (sep:List UInt8):∀ (l:List (List UInt8)) (h:0 < l.length),jn sep l=l[0]++(l.drop 1).flatMap (fun s=>sep++s)
 | [],h=>by simp at h
 | a::r,h=>by rw [KCe]; rfl
theorem KHC (sep:List UInt8):∀ ps:List (List UInt8),ps≠[]→(jn sep ps).length=(ps.map List.length).sum+sep.length * (ps.length - 1)
 | [],h=>absurd rfl h
 | [a],_=>by simp [jn]
 | a::b::r,_=>by
  rw [jn,List.length_append,List.length_append,KHC sep (b::r) (by simp)]
  simp only [List.map_cons,List.sum_cons,List.length_cons]
  rw [show r.length+1+1 - 1=(r.length+1 - 1)+1 by omega,Nat.mul_add]
  omega
theorem KFf {h:Heap} {x:Sl} {ps:List (List UInt8)} {sep:List UInt8} {Q:ByteArray→Heap→Prop} (S:SsAt h x ps) (hs1:1≤sep.length) (hs:sep.length≤16) (hp:ps.length≤1099511627776) (hm:(jn sep ps).length≤70368744177664)
  (H:∀ h',Ext h h'→Q (bs (jn sep ps)) h'):(YL x (bs sep)).wp h Q:=by
 unfold YL
 rw [S.1]
 match hps:ps with
 | []=>exact iteT rfl (KQ (H _ (Ext.refl _)))
 | [a] =>
  obtain ⟨b,hb,hcell'⟩:=S.get (i:=0) (by simp)
  exact iteF rfl (iteT rfl (GW (by decide) (by rw [S.1]; simp) hb (Gj (n:=bs a) hcell' (KQ (H _ (Ext.refl _))))))
 | a::b0::r0 =>
  rw [← hps] at S hp hm H ⊢
  have hne:ps≠[]:=by rw [hps]; simp
  have hl2:2≤ps.length:=by rw [hps]; simp
  have hjl:=KHC sep ps hne
  rw [UT]
  refine iteF (by rw [beq_eq_false_iff_ne]; omega) (iteF (by rw [beq_eq_false_iff_ne]; omega) (iteT (by simp; omega) ?_))
  have hw1:IntKind.wrap .i64 ((ps.length:Int) - 1)=((ps.length - 1:Nat):Int):=by rw [w64 (by omega) (by omega)]; omega
  rw [hw1]
  refine ⟨IntKind.wrap .i64 ((9223372036854775807:Int).tdiv ((ps.length - 1:Nat):Int)),⟨by omega,rfl⟩,?_⟩
  have hq:(sep.length:Int) < IntKind.wrap .i64 ((9223372036854775807:Int).tdiv ((ps.length - 1:Nat):Int)):=by
   rw [Int.tdiv_eq_ediv_of_nonneg (by decide)]
   have h1:(17:Int)≤9223372036854775807 / ((ps.length - 1:Nat):Int):=by
    rw [Int.le_ediv_iff_mul_le (by omega)]; omega
   have h2:9223372036854775807 / ((ps.length - 1:Nat):Int)≤9223372036854775807:=Int.ediv_le_self _ (by decide)
   rw [w64 (by omega) (by omega)]; omega
  have hsm:sep.length * (ps.length - 1)≤70368744177664:=by omega
  have hcast:(sep.length:Int) * ((ps.length - 1:Nat):Int)=((sep.length * (ps.length - 1):Nat):Int):=by simp
  refine iteF (by simp; omega) ?_
  unfold Vn
  rw [hcast,w64n (n:=sep.length * (ps.length - 1)) (by omega),Int.zero_add,w64n (n:=sep.length * (ps.length - 1)) (by omega)]
  refine M.loop_inv (fun (t:Int × Int) h'=>h'=h∧∃ i:Nat,t.2=(i:Int)∧i≤ps.length∧t.1=((sep.length * (ps.length - 1)+((ps.take i).map List.length).sum:Nat):Int)) (fun t _=>((ps.length:Int) - t.2).toNat) ?_ ⟨rfl,0,rfl,Nat.zero_le _,by simp⟩
  rintro ⟨m,t⟩ h' ⟨rfl,i,ht,hi,hmm⟩ self hself
  have ht:t=(i:Int):=ht
  have hmm:m=_:=hmm
  subst ht; subst hmm
  unfold Wp
  rw [S.1]
  have hpi:=KCf ps i
  refine Kx (fun hc=>?_) (fun hc=>?_)
  ·have hlt:i < ps.length:=by have:=of_decide_eq_true hc; omega
   have hpj:=KCf ps (i+1)
   rw [KBd hlt] at hpj
   obtain ⟨b,hb,hcell'⟩:=S.get hlt
   refine GW (by omega) (by rw [S.1]; omega) hb (Gj (n:=bs ps[i]) (by rw [show (i:Int).toNat * 1=i by omega]; exact hcell') ?_)
   rw [UT]
   refine iteF (by rw [w64 (by omega) (by omega),decide_eq_false_iff_not]; omega) ?_
   refine hself (_,_) _ ⟨rfl,i+1,by dsimp only; rw [w64 (by omega) (by omega)]; simp,by omega,?_⟩ (by dsimp only; rw [w64 (by omega) (by omega)]; omega)
   dsimp only
   rw [w64 (by omega) (by omega),KBd hlt]; omega
  ·have hge:i=ps.length:=by have:=of_decide_eq_false hc; omega
   subst hge
   rw [List.take_length]
   refine Jp (fun h1 e1 z1 g1=>?_)
   have B1:=Bld.new (Nat.le_refl _) g1
   refine KX (KDw B1 (by omega) (by omega) (by omega) (fun h2 r2 B2 K2=>?_))
   have E2:=K2.ext e1 B1 (Nat.le_refl _)
   obtain ⟨b,hb,hcell'⟩:=(S.ext E2).get (i:=0) (by omega)
   have h0l:=KCf ps 1
   rw [KBd (i:=0) (by omega)] at h0l
   refine GW (by decide) (by rw [S.1]; omega) hb (Gj (n:=bs ps[0]) hcell' ?_)
   refine KX (X7 B2 E2.size (by rw [List.length_nil]; omega) (fun h3 r3 n3 B3 K3=>?_))
   have E3:=K3.ext E2 B2 (Nat.le_refl _)
   have hcap:=S.2.1
   have hSl:=S.1
   refine KDW (by decide) (by omega) (by omega) ?_
   have hx:(⟨if x.cap=(1:Int).toNat then x.base else x.base.map (fun a=>a.add ((1:Int).toNat * 1)),(ps.length:Int).toNat - (1:Int).toNat,x.cap - (1:Int).toNat⟩:Sl)=⟨some (b.add 1),ps.length - 1,x.cap - 1⟩:=by
    have hl:=S.1
    rw [if_neg (show ¬ x.cap=(1:Int).toNat by have:(1:Int).toNat=1:=rfl; omega),hb]
    rfl
   rw [hx]
   have hj0:jn sep ps=ps[0]++(ps.drop 1).flatMap (fun s=>sep++s):=KID sep ps (by omega)
   have hpre:∀ k,(ps[0]++((ps.drop 1).take k).flatMap (fun s=>sep++s)).length≤(jn sep ps).length:=fun k=>by
    rw [hj0,List.length_append,List.length_append]
    conv=>rhs; rw [← List.take_append_drop k (ps.drop 1),List.flatMap_append,List.length_append]
    omega
   refine M.loop_inv (fun (t:Int) hx=>∃ k:Nat,t=(k:Int)∧k≤ps.length - 1∧Ext h' hx∧∃ r,Bld h'.size hx h'.size r (ps[0]++((ps.drop 1).take k).flatMap (fun s=>sep++s))) (fun t _=>((ps.length:Int) - t).toNat) ?_ ⟨0,rfl,Nat.zero_le _,E3,r3,by simpa using B3⟩
   rintro t h4 ⟨k,rfl,hk,E4,r4,B4⟩ self2 hself2
   unfold Wo
   dsimp only
   have hpk:=hpre k
   refine Kx (fun hc=>?_) (fun hc=>?_)
   ·have hlt:k < ps.length - 1:=by have:=of_decide_eq_true hc; omega
    have hlt':1+k < ps.length:=by omega
    have hpk1:=hpre (k+1)
    have htk:((ps.drop 1).take (k+1)).flatMap (fun s=>sep++s)=((ps.drop 1).take k).flatMap (fun s=>sep++s)++(sep++ps[1+k]):=by
     rw [List.take_succ_eq_append_getElem (by simpa using hlt),List.flatMap_append]
     simp only [List.getElem_drop,List.flatMap_cons,List.flatMap_nil,List.append_nil]
    rw [htk,← List.append_assoc,← List.append_assoc,List.length_append,List.length_append] at hpk1
    obtain ⟨b',hb',hcell2⟩:=(S.ext E4).get hlt'
    rw [hb] at hb'
    cases hb'
    refine GW (by omega) (by dsimp only; omega) rfl (Gj (n:=bs ps[1+k]) (by rw [Addr.add_add,show 1+(k:Int).toNat * 1=1+k by omega]; exact hcell2) ?_)
    refine KX (X7 B4 E4.size (by omega) (fun h5 r5 n5 B5 K5=>?_))
    have E5:=K5.ext E4 B4 (Nat.le_refl _)
    refine KX (X7 B5 E5.size (by rw [List.length_append]; omega) (fun h6 r6 n6 B6 K6=>?_))
    have E6:=K6.ext E5 B5 (Nat.le_refl _)
    rw [w64 (by omega) (by omega)]
    refine hself2 _ _ ⟨k+1,by simp,by omega,E6,r6,?_⟩ (by omega)
    rw [htk,← List.append_assoc,← List.append_assoc]
    exact B6
   ·have hge:k=ps.length - 1:=by have:=of_decide_eq_false hc; omega
    subst hge
    rw [List.take_of_length_le (by simp),← hj0] at B4
    refine KX (KCA B4 (by omega) (fun h5 K5 _=>KQ (H _ (K5.ext E4 B4 (Nat.le_refl _)))))
end Gx
namespace Gx
open Go
set_option linter.unusedVariables false
set_option linter.unusedSimpArgs false
def shw (ev od:List UInt8):List (List UInt8)→List UInt8
 | []=>[]
 | [a]=>a
 | a::b::r=>a++(ev++shw od ev (b::r))
def prs:List (List UInt8)→List (List UInt8)
 | []=>[]
 | [a]=>[a]
 | a::b::r=>(a++([58,32]++b))::prs r
theorem KFg (sep:List UInt8):∀ l,jn sep l=shw sep sep l
 | []=>rfl
 | [a]=>rfl
 | a::b::r=>by rw [jn,shw,KFg sep (b::r)]
theorem KFh:∀ l:List (List UInt8),jn [44,32] (prs l)=shw [58,32] [44,32] l
 | []=>rfl
 | [a]=>rfl
 | [a,b]=>by simp [prs,jn,shw]
 | a::b::c::r=>by
  have ih:=KFh (c::r)
  rw [prs,KCe]
  rw [shw,shw,← ih]
  match hp:prs (c::r) with
  | []=>cases r <;> simp [prs] at hp
  | p::ps=>rw [KCe,List.flatMap_cons]; simp
theorem KBe:∀ (l:List (List UInt8)) (a:List UInt8),l.length % 2=0→prs (l++[a])=prs l++[a]
 | [],a,_=>rfl
 | [x],a,h=>by simp at h
 | x::y::r,a,h=>by
  rw [List.cons_append,List.cons_append,prs,prs,KBe r a (by simp at h; omega)]; rfl
theorem KFi:∀ (l:List (List UInt8)) (a b:List UInt8),l.length % 2=0→prs (l++[a,b])=prs l++[a++([58,32]++b)]
 | [],a,b,_=>rfl
 | [x],a,b,h=>by simp at h
 | x::y::r,a,b,h=>by
  rw [List.cons_append,List.cons_append,prs,prs,KFi r a b (by simp at h; omega)]; rfl
theorem KCg:∀ l:List (List UInt8),(prs l).length≤l.length
 | []=>by simp [prs]
 | [a]=>by simp [prs]
 | a::b::r=>by have:=KCg r; simp [prs]; omega
theorem KCh:∀ (ev od:List UInt8) (l:List (List UInt8)),(l.map List.length).sum≤(shw ev od l).length
 | _,_,[]=>by simp [shw]
 | _,_,[a]=>by simp [shw]
 | ev,od,a::b::r=>by
  have:=KCh od ev (b::r)
  rw [shw,List.length_append,List.length_append,List.map_cons,List.sum_cons]
  omega
theorem KIE {l:List (List UInt8)} {a:List UInt8} (h:a ∈ l):a.length≤(l.map List.length).sum:=by
 induction l with
 | nil=>cases h
 | cons x l ih =>
  rw [List.map_cons,List.sum_cons]
  rcases List.mem_cons.1 h with rfl | h
  ·omega
  ·have:=ih h; omega
theorem KIF {l:List (List UInt8)} (h:∀ a ∈ l,1≤a.length):l.length≤(l.map List.length).sum:=by
 induction l with
 | nil=>simp
 | cons x l ih =>
  rw [List.map_cons,List.sum_cons,List.length_cons]
  have:=ih (fun a ha=>h a (List.mem_cons_of_mem _ ha))
  have:=h x (by simp)
  omega
def txt:Nat→Vl→List UInt8
 | 0,_=>[63]
 | d+1,.mk k n s l =>
  if k=1 then Lib.itoa n else if k=2 then KAp s else if k=3 then (if n=1 then [116,114,117,101] else [102,97,108,115,101])
  else if k=6 then [118,91]++Lib.itoa n++[93] else if k=7 then [101,91]++Lib.itoa n++[93]
  else if k=4 then [91]++shw [44,32] [44,32] (l.map (txt d))++[93] else if k=5 then [123]++shw [58,32] [44,32] (l.map (txt d))++[125] else [63]
theorem KGi (n:Int):1≤(Lib.itoa n).length:=by
 have:∀ u,1≤(Lib.decDigits u).length:=fun u=>by unfold Lib.decDigits; split <;> simp
 unfold Lib.itoa
 split
 ·simp
 ·exact this _
theorem KIG:∀ (d:Nat) (v:Vl),1≤(txt d v).length
 | 0,_=>by simp [txt]
 | d+1,.mk k n s l=>by
  unfold txt
  repeat' split
  all_goals first | exact KGi n | (simp [KAp]; done) | (simp; omega)
theorem Gw.set {lo:Nat} {h:Heap} {r:Sl} {vs:List Value} {b j:Nat} {v:Value} (H:Gw lo h r 1 vs) (hb:r.base=some ⟨b,0,none⟩) (hj:j < vs.length):Gw lo (hset h ⟨b,j,none⟩ v) r 1 (vs.set j v):=by
 rcases H with ⟨rfl,rfl⟩ | ⟨g,ty,cells,H⟩
 ·cases hb
 ·rw [H.base] at hb
  cases hb
  refine .inr ⟨b,ty,_,H.base,H.lo,Wf H.blk,by rw [Array.size_setIfInBounds]; exact H.size,H.cap,by rw [List.length_set]; exact H.len,fun i x hx=>?_⟩
  rw [List.getElem?_set] at hx
  rw [Array.getElem?_setIfInBounds]
  split at hx
  ·rename_i hi
   subst hi
   cases hx
   have hc:=H.len
   have:=H.size
   have hcap:=H.cap
   rw [if_pos rfl,if_pos (by omega)]
  ·rename_i hi
   rw [if_neg hi]
   exact H.get i x hx
theorem ixS2 {β:Type} {lo:Nat} {h:Heap} {Q:β→Heap→Prop} {r:Sl} {ps:List (List UInt8)} {i:Nat} {t:Int} {f:Addr→M β} (G:Gw lo h r 1 (ps.map sv)) (hi:i < ps.length) (ht:t=(i:Int))
  (H:∀ b,r.base=some ⟨b,0,none⟩→KV h ⟨b,i,none⟩=some (.string (bs ps[i]))→VE h ⟨b,i,none⟩=false→(f ⟨b,i,none⟩).wp h Q):(ixL r t 1>>=f).wp h Q:=by
 subst ht
 have hl:=G.len
 simp at hl
 obtain ⟨b,hb,hc⟩:=G.cell (j:=i) (v:=sv ps[i]) (by simp [hi])
 refine GW (by omega) (by omega) hb ?_
 rw [Zn,show 0+(i:Int).toNat * 1=i by omega]
 refine H b hb hc ?_
 rcases G with ⟨rfl,_⟩ | ⟨g,ty,cells,R⟩
 ·cases hb
 ·rw [R.base] at hb; cases hb
  exact JH R.blk
theorem KGj {β:Type} {h:Heap} {Q:β→Heap→Prop} {a c:List UInt8} {x:List UInt8} {f:ByteArray→M β} (hm:a.length+x.length+c.length≤9223372036854775807) (H:(f (bs (a++x++c))).wp h Q):(sCat (bs a) (bs x)>>=fun y=>sCat y (bs c)>>=f).wp h Q :=
 KDP (by omega) (KDP (by simp only [List.length_append]; omega) H)
def prt (k:Int) (l:List (List UInt8)):List (List UInt8):=if k=5 then prs l else l
theorem KDx:∀ (d:Nat) (v:Vl) {h:Heap} {Q:ByteArray→Heap→Prop} {x:Array Value},d≤8→VRep h v x→NV h→zl h→(txt d v).length≤1099511627776→(∀ h',Ext h h'→Q (bs (txt d v)) h')→(Yy x ((9 - d:Nat):Int)).wp h Q:=by
 intro d
 induction d with
 | zero =>
  rintro v h Q x _ hx _ _ _ H
  unfold Yy
  exact Jp (fun h1 e1 z1 g1=>iteT rfl (KQ (H _ e1)))
 | succ d ih =>
  rintro ⟨k,n,s,l⟩ h Q x hd hx hp hdb hm H
  obtain ⟨xs,rfl,k1,n1,s1,r1⟩:=VRep.eq.1 hx
  unfold Yy
  refine Jp (fun h1 E z1 g1=>?_)
  have c0:KV h1 ((⟨h.size,0,none⟩:Addr).add 0)=some (.int .i64 k):=by rw [ZW g1]; rfl
  have c1:KV h1 ((⟨h.size,0,none⟩:Addr).add 1)=some (.int .i64 n):=by rw [ZW g1]; rfl
  have c2:KV h1 ((⟨h.size,0,none⟩:Addr).add 2)=some (.string (bs s)):=by rw [ZW g1]; rfl
  have c3:KV h1 ((⟨h.size,0,none⟩:Addr).add 3)=some xs.v:=by rw [ZW g1]; rfl
  have hpE:=hp.ext E
  have hdE:=hdb.ext E
  have hil:=KGh n1
  refine iteF (by simp; omega) (Ux c0 (Kx (fun h1k=>?_) (fun h1k=>?_)))
  ·have h1k:k=1:=by simpa using h1k
   unfold txt at H
   rw [if_pos h1k] at H
   exact Ux c1 (KX (q8 n1 hpE (fun h2 e2=>KQ (H _ (E.trans e2)))))
  have h1k:¬ k=1:=by simpa using h1k
  unfold txt at H hm
  rw [if_neg h1k] at H hm
  refine Kx (fun h2k=>?_) (fun h2k=>?_)
  ·have h2k:k=2:=by simpa using h2k
   rw [if_pos h2k] at H hm
   exact Gj c2 (KX (KCc (by omega) hdE (fun h2 e2=>KQ (H _ (E.trans e2)))))
  have h2k:¬ k=2:=by simpa using h2k
  rw [if_neg h2k] at H hm
  refine Kx (fun h3k=>?_) (fun h3k=>?_)
  ·have h3k:k=3:=by simpa using h3k
   rw [if_pos h3k] at H
   refine Ux c1 (Kx (fun hn=>?_) (fun hn=>?_))
   ·have hn:n=1:=by simpa using hn
    rw [if_pos hn] at H
    exact KQ (H _ E)
   ·have hn:¬ n=1:=by simpa using hn
    rw [if_neg hn] at H
    exact KQ (H _ E)
  have h3k:¬ k=3:=by simpa using h3k
  rw [if_neg h3k] at H hm
  refine Kx (fun h6k=>?_) (fun h6k=>?_)
  ·have h6k:k=6:=by simpa using h6k
   rw [if_pos h6k] at H
   exact Ux c1 (KX (q8 n1 hpE (fun h2 e2=>KGj (a:=[118,91]) (c:=[93]) (by simp; omega) (KQ (H _ (E.trans e2))))))
  have h6k:¬ k=6:=by simpa using h6k
  rw [if_neg h6k] at H hm
  refine Kx (fun h7k=>?_) (fun h7k=>?_)
  ·have h7k:k=7:=by simpa using h7k
   rw [if_pos h7k] at H
   exact Ux c1 (KX (q8 n1 hpE (fun h2 e2=>KGj (a:=[101,91]) (c:=[93]) (by simp; omega) (KQ (H _ (E.trans e2))))))
  have h7k:¬ k=7:=by simpa using h7k
  rw [if_neg h7k] at H hm
  have j1:(Vu ((9 - (d+1):Nat):Int) ⟨h.size,0,none⟩ (decide (k=4∨k=5))).wp h1 Q:=by
   unfold Vu
   refine Kx (fun h45=>?_) (fun h45=>?_)
   ·have h45:k=4∨k=5:=by simpa using h45
    have hform:∃ a c,(∀ h',Ext h h'→Q (bs (a++jn [44,32] (prt k (l.map (txt d)))++c)) h')∧a.length=1∧c.length=1∧(jn [44,32] (prt k (l.map (txt d)))).length≤1099511627776∧((l.map (txt d)).map List.length).sum≤1099511627776∧(k=5→a=[123]∧c=[125])∧(¬ k=5→a=[91]∧c=[93]):=by
     rcases h45 with h4 | h5
     ·rw [if_pos h4] at H hm
      have h5:¬ k=5:=by omega
      have hs:=KCh [44,32] [44,32] (l.map (txt d))
      simp only [List.length_append,List.length_cons,List.length_nil] at hm
      refine ⟨[91],[93],?_,rfl,rfl,?_,by omega,fun h=>absurd h h5,fun _=>⟨rfl,rfl⟩⟩
      ·unfold prt; rw [if_neg h5,KFg]; exact H
      ·unfold prt; rw [if_neg h5,KFg]; omega
     ·have h4:¬ k=4:=by omega
      rw [if_neg h4,if_pos h5] at H hm
      have hs:=KCh [58,32] [44,32] (l.map (txt d))
      simp only [List.length_append,List.length_cons,List.length_nil] at hm
      refine ⟨[123],[125],?_,rfl,rfl,?_,by omega,fun _=>⟨rfl,rfl⟩,fun h=>absurd h5 h⟩
      ·unfold prt; rw [if_pos h5,KFh]; exact H
      ·unfold prt; rw [if_pos h5,KFh]; omega
    obtain ⟨a,c,HQ,ha,hc,hjm,hsum,h5a,h5b⟩:=hform
    have hcnt:l.length≤1099511627776:=by
     have:=KIF (l:=l.map (txt d)) (fun a ha=>by obtain ⟨y,_,rfl⟩:=List.mem_map.1 ha; exact KIG d y)
     rw [List.length_map] at this
     omega
    have hel:∀ i (hi:i < l.length),(txt d l[i]).length≤1099511627776:=fun i hi=>by
     have:=KIE (l:=l.map (txt d)) (a:=txt d l[i]) (List.mem_map.2 ⟨_,List.getElem_mem hi,rfl⟩)
     omega
    refine UG c3 ?_
    have hxl:=r1.len
    refine M.loop_inv (fun (t:Sl × Int) h2=>∃ i:Nat,t.2=(i:Int)∧i≤l.length∧Ext h1 h2∧Gw h1.size h2 t.1 1 ((prt k ((l.take i).map (txt d))).map sv)) (fun t _=>((l.length:Int) - t.2).toNat) ?_ ⟨0,rfl,Nat.zero_le _,Ext.refl _,by rw [show prt k (((l.take 0).map (txt d)))=[] by unfold prt; split <;> simp [prs]]; exact Gw.nil _ _ _⟩
    rintro ⟨r,t⟩ h2 ⟨i,hti,hi,E2,G⟩ self hself
    have hti:t=(i:Int):=hti
    subst hti
    have G:Gw h1.size h2 r 1 ((prt k ((l.take i).map (txt d))).map sv):=G
    unfold Yo
    rw [hxl]
    have hrl:=G.len
    rw [List.length_map,Nat.mul_one] at hrl
    have hrl2:r.len≤i:=by
     have:(prt k ((l.take i).map (txt d))).length≤i:=by
      unfold prt
      split
      ·have:=KCg ((l.take i).map (txt d)); rw [List.length_map,List.length_take] at this; omega
      ·rw [List.length_map,List.length_take]; omega
     omega
    refine Kx (fun hlt=>?_) (fun hge=>?_)
    ·have hlt:i < l.length:=by have:=of_decide_eq_true hlt; omega
     refine Gv (r1.ext (E.trans E2)) hlt rfl (fun b cs hs hcs hv=>Wu hs hcs (Jp (fun h3 e3 z3 g3=>Ju hs (stR (vs:=cs) g3 (by rw [hs]; decide) hv.one (fun h4 u4 g4=>?_)))))
     rw [ZV (by rw [Array.length_toList,hs]; rfl),Array.toArray_toList] at g4
     have E4:Ext h2 h4:=e3.upd u4 (Nat.le_refl _)
     refine KBT (v:=l[i]) g4 hs ?_
     rw [show IntKind.wrap .i64 (((9 - (d+1):Nat):Int)+1)=((9 - d:Nat):Int) by rw [w64 (by omega) (by omega)]; omega]
     have E24:=E2.trans E4
     refine KX (Xb (zD _ _) (ih l[i] (by omega) (hv.ext E4) (hpE.ext E24) (hdE.ext E24) (hel i hlt) (fun h5 e5=>?_)))
     have E5:=E24.trans e5
     refine Ux (E5.cell c0) ?_
     have hr5:IntKind.wrap .i64 ((i:Int)+1)=((i+1:Nat):Int):=by rw [w64 (by omega) (by omega)]; simp
     have G5:=G.ext (E4.trans e5)
     have htk:(l.take (i+1)).map (txt d)=(l.take i).map (txt d)++[txt d l[i]]:=by
      rw [List.take_succ_eq_append_getElem hlt,List.map_append]; rfl
     refine Yw (c:=decide (i % 2=1)) (fun _ Q' hq=>KQ (by rw [show ((Int.tmod (i:Int) 2) == 1)=decide (i % 2=1) by rw [Int.tmod_eq_emod_of_nonneg (by omega),Bool.eq_iff_iff]; simp; omega]; exact hq)) ?_
     refine Kx (fun hodd=>?_) (fun heven=>?_)
     ·obtain ⟨h5k,hodd⟩:k=5∧i % 2=1:=by simpa using hodd
      obtain ⟨i',rfl⟩:∃ i',i=i'+1:=⟨i - 1,by omega⟩
      have hti':(l.take (i'+1)).map (txt d)=(l.take i').map (txt d)++[txt d l[i']]:=by
       rw [List.take_succ_eq_append_getElem (by omega),List.map_append]; rfl
      have hlen':((l.take i').map (txt d)).length % 2=0:=by simp; omega
      have hp1:prt k ((l.take (i'+1)).map (txt d))=prs ((l.take i').map (txt d))++[txt d l[i']]:=by
       unfold prt; rw [if_pos h5k,hti',KBe _ _ hlen']
      have hp2:prt k ((l.take (i'+1+1)).map (txt d))=prs ((l.take i').map (txt d))++[txt d l[i']++([58,32]++txt d l[i'+1])]:=by
       unfold prt; rw [if_pos h5k,htk,hti',List.append_assoc]; exact KFi _ _ _ hlen'
      rw [hp1] at G5 hrl
      have hlast:r.len=(prs ((l.take i').map (txt d))).length+1:=by rw [← G5.len.trans (Nat.mul_one _)]; simp
      have hidx:IntKind.wrap .i64 ((r.len:Int) - 1)=(((prs ((l.take i').map (txt d))).length:Nat):Int):=by rw [w64 (by omega) (by omega)]; omega
      rw [hidx]
      have hle0:=hel i' (by omega)
      have hle1:=hel (i'+1) hlt
      refine ixS2 (i:=(prs ((l.take i').map (txt d))).length) G5 (by simp) rfl (fun b' hb' hc' hf'=>Gj hc' ?_)
      have hget:(prs ((l.take i').map (txt d))++[txt d l[i']])[(prs ((l.take i').map (txt d))).length]'(by simp)=txt d l[i']:=by simp
      rw [hget] at hc' ⊢
      refine KDP (x:=[58,32]) (by simp; omega) (KDP (by simp; omega) ?_)
      refine ixS2 (i:=(prs ((l.take i').map (txt d))).length) G5 (by simp) rfl (fun b2 hb2 hc2 hf2=>Gk hc2 hf2 rfl ?_)
      rw [hb2] at hb'
      cases hb'
      unfold Vt
      rw [hr5]
      refine hself (_,_) _ ⟨i'+1+1,rfl,by omega,?_,?_⟩ (by dsimp only; omega)
      ·have hb3:h1.size≤b':=(G5.lt ⟨_,hb2,rfl⟩).2
       exact ⟨by rw [Gl]; exact E5.size,fun j hj=>by rw [GD (by show j≠b'; omega)]; exact E5.same j hj⟩
      ·have:=G5.set (v:=sv (txt d l[i']++([58,32]++txt d l[i'+1]))) (j:=(prs ((l.take i').map (txt d))).length) hb2 (by simp)
       dsimp only
       rw [hp2]
       rw [List.map_append,List.set_append_right _ _ (by simp)] at this
       simpa [sv] using this
     ·have heven:¬ (k=5∧i % 2=1):=by simpa using heven
      have hp2:prt k ((l.take (i+1)).map (txt d))=prt k ((l.take i).map (txt d))++[txt d l[i]]:=by
       unfold prt
       by_cases h5k:k=5
       ·rw [if_pos h5k,if_pos h5k,htk,KBe _ _ (by simp; omega)]
       ·rw [if_neg h5k,if_neg h5k,htk]
      refine KA8 ?_
      have e6:=Ext.push h5 (.cells #[.string (bs (txt d l[i]))] Xo)
      have g6:(h5.push (.cells #[.string (bs (txt d l[i]))] Xo))[h5.size]?=some (.cells #[.string (bs (txt d l[i]))] Xo (0,0)):=Zj
      generalize h5.push (.cells #[.string (bs (txt d l[i]))] Xo)=h6 at e6 g6 ⊢
      have E6:=E5.trans e6
      have G6:=G5.ext e6
      refine KA9 (vs:=(prt k ((l.take i).map (txt d))).map sv) (news:=[sv (txt d l[i])]) rfl G6 rfl (.inr ⟨_,rfl,fun j v hj=>?_⟩) (fun v hv=>by simp at hv; subst hv; rfl) (by dsimp only; omega) (by dsimp only; omega) E6.size (fun h7 r7 G7 hlen7 hs7 same7 on7=>?_)
      ·rw [Zn,Nat.zero_add,Ks g6]
       rw [show (#[.string (bs (txt d l[i]))]:Array Value)=[sv (txt d l[i])].toArray from rfl]
       simpa using hj
      ·unfold Vt
       rw [hr5]
       refine hself (_,_) _ ⟨i+1,rfl,by omega,?_,?_⟩ (by dsimp only; omega)
       ·exact ⟨Nat.le_trans E6.size hs7,fun j hj=>(same7 j (Nat.lt_of_lt_of_le hj E6.size) (fun ho=>by have:=(G6.lt ho).2; omega)).trans (E6.same j hj)⟩
       ·dsimp only
        rw [hp2,List.map_append]
        exact G7
    ·have hge:i=l.length:=by have:=of_decide_eq_false hge; omega
     subst hge
     rw [List.take_length] at G
     have S:SsAt h2 r (prt k (l.map (txt d))):=⟨by have:=G.len; rw [List.length_map,Nat.mul_one] at this; exact this.symm,G.cap,G.reads⟩
     have hpl:(prt k (l.map (txt d))).length≤l.length:=by
      unfold prt
      split
      ·have:=KCg (l.map (txt d)); simp at this; exact this
      ·simp
     refine KX (KFf (sep:=[44,32]) S (by simp) (by simp) (by omega) (by omega) (fun h3 e3=>?_))
     refine Ux ((E2.trans e3).cell c0) (Kx (fun h5k=>?_) (fun h5k=>?_))
     ·have h5k:k=5:=by simpa using h5k
      obtain ⟨rfl,rfl⟩:=h5a h5k
      exact KGj (a:=[123]) (c:=[125]) (by simp; omega) (KQ (HQ _ ((E.trans E2).trans e3)))
     ·have h5k:¬ k=5:=by simpa using h5k
      obtain ⟨rfl,rfl⟩:=h5b h5k
      exact KGj (a:=[91]) (c:=[93]) (by simp; omega) (KQ (HQ _ ((E.trans E2).trans e3)))
   ·have h45:¬ (k=4∨k=5):=by simpa using h45
    rw [if_neg (fun h=>h45 (.inl h)),if_neg (fun h=>h45 (.inr h))] at H
    exact KQ (H _ E)
  refine Kx (fun h4k=>?_) (fun h4k=>?_)
  ·have h4k:k=4:=by simpa using h4k
   have e:(k == 4)=decide (k=4∨k=5):=by subst h4k; rfl
   rw [e]
   exact j1
  ·have h4k:¬ k=4:=by simpa using h4k
   have e:(k == 5)=decide (k=4∨k=5):=by rw [eqI,Bool.eq_iff_iff]; simp [h4k]
   rw [e]
   exact j1
end Gx
namespace Gx
open Go
set_option linter.unusedVariables false
set_option linter.unusedSimpArgs false
abbrev txV (v:Vl):List UInt8:=txt 8 v
theorem KDy {v:Vl} {h:Heap} {Q:ByteArray→Heap→Prop} {x:Array Value} (hx:VRep h v x) (hp:NV h) (hd:zl h) (hm:(txV v).length≤1099511627776) (H:∀ h',Ext h h'→Q (bs (txV v)) h'):(Xt x).wp h Q:=by
 unfold Xt
 exact Jp (fun h1 e1 z1 g1=>KBT (v:=v) g1 hx.size (KX (KDx 8 v (Nat.le_refl _) (hx.ext e1) (hp.ext e1) (hd.ext e1) hm (fun h2 e2=>KQ (H _ (e1.trans e2))))))
end Gx
namespace Gx
open Go Go.Proofs Go.Shelf Go.RowKit Go.Lib
set_option linter.unusedVariables false
set_option linter.unusedSimpArgs false
set_option maxRecDepth 100000
def KCB:List UInt8:=[123,39,97,39,58,32,116,114,117,101,44,32,39,98,39,58,32,49,125]
def vSa:Vl:=.mk 2 0 [97] []
def vSb:Vl:=.mk 2 0 [98] []
def vI1:Vl:=.mk 1 1 [] []
def vTr:Vl:=.mk 3 1 [] []
def zK:Vl:=.mk 5 0 [] [vSa,vTr,vSb,vI1]
theorem KDQ:cmpV vSa vSb < 0:=by
 rw [show vSa=.mk 2 0 [97] [] from rfl,show vSb=.mk 2 0 [98] [] from rfl,cmpV]
 decide
theorem KJB:mayV 8 zK=true:=by
 have:=KDQ
 simp only [zK,mayV,GU]
 rw [decide_eq_true KDQ]
 decide
theorem KHD:txV zK=KCB:=by
 have h1:Lib.itoa 1=[49]:=by
  unfold Lib.itoa
  rw [if_neg (by decide),Lib.decDigits_one (by decide)]
  decide
 show txt 8 zK=KCB
 unfold zK
 rw [txt]
 simp only [vSa,vTr,vSb,vI1,List.map_cons,List.map_nil,txt,h1]
 decide
theorem KIH:KCY KCB=.ok zK:=by
 rfl
theorem KGk {α:Type} {ps:List α} {p q:α} (h:ps.Perm [p,q]):ps=[p,q]∨ps=[q,p]:=by
 have hl:=h.length_eq
 match ps,hl with
 | [x,y],_ =>
  have hx:x ∈ [p,q]:=h.mem_iff.1 (by simp)
  simp only [List.mem_cons,List.not_mem_nil,or_false] at hx
  rcases hx with rfl | rfl
  ·have:=(List.perm_singleton.1 (List.Perm.cons_inv h))
   left; rw [this]
  ·have h2:[x,y].Perm [x,p]:=h.trans (List.Perm.swap _ _ _)
   have:=(List.perm_singleton.1 (List.Perm.cons_inv h2))
   right; rw [this]
theorem KJl {v:Vl} {e:Int} (h:MapRes [vSb,vI1,vSa,vTr] v e):v=zK∧e=0:=by
 have hp:Vd [vSb,vI1,vSa,vTr] ([vSb,vI1,vSa,vTr].length / 2)=[[vSb,vI1],[vSa,vTr]]:=rfl
 have key:∀ ps:List (List Vl),ps.Perm (Vd [vSb,vI1,vSa,vTr] ([vSb,vI1,vSa,vTr].length / 2))→ps.Pairwise (fun p q=>¬ cmpV (kOf q) (kOf p) < 0)→ps=[[vSa,vTr],[vSb,vI1]]:=by
  intro ps hperm hs
  rw [hp] at hperm
  rcases KGk hperm with rfl | rfl
  ·exfalso
   rw [List.pairwise_cons] at hs
   exact hs.1 [vSa,vTr] (by simp) KDQ
  ·rfl
 cases h with
 | odd h=>exact absurd h (by decide)
 | twice ps h1 h2 h3 h4 =>
  obtain rfl:=key ps h2 h3
  obtain ⟨i,hi,heq⟩:=h4
  have:i=0:=by simp at hi; omega
  subst this
  exfalso
  have h5:vSa=vSb:=heq
  have:=KDQ
  rw [h5,Vr] at this
  omega
 | made ps h1 h2 h3 h4 =>
  obtain rfl:=key ps h2 h3
  have hf:([[vSa,vTr],[vSb,vI1]]:List (List Vl)).flatten=[vSa,vTr,vSb,vI1]:=rfl
  rw [hf]
  have hm:=KJB
  unfold zK at hm
  exact ⟨if_pos hm,by unfold WZ; rw [if_pos hm]⟩
def c16:List (Array Value):=[Z9 2 0 [98] Sl.nil,Z9 1 1 [] Sl.nil,Z9 2 0 [97] Sl.nil,Z9 3 1 [] Sl.nil]
theorem KCC {h:Heap} {Q:Bool→Heap→Prop} (hp:NV h) (hd:zl h) (he:ErrV h) (H:∀ h',Ext h h'→Q true h'):(U8).wp h Q:=by
 unfold U8
 refine KDO (s:=[98]) (fun h1 e1=>KFa (fun h2 e2=>KDO (s:=[97]) (fun h3 e3=>KBc (fun h4 e4=>?_))))
 have E4:=((e1.trans e2).trans e3).trans e4
 refine ⟨(Uj c16).toArray,rfl,KA8 ?_⟩
 have e5:=Ext.push h4 (.cells (Uj c16).toArray KJ)
 have g5:(h4.push (.cells (Uj c16).toArray KJ))[h4.size]?=some (.cells (Uj c16).toArray KJ (0,0)):=Zj
 generalize h4.push (.cells (Uj c16).toArray KJ)=h5 at e5 g5 ⊢
 have sc:∀ {k n:Int} {t:List UInt8},I64 k→I64 n→t.length≤1099511627776→JS (fun _=>False) h5 (.mk k n t []) (Z9 k n t Sl.nil):=fun hk hn ht=>KDM _ _ hk hn (by omega)
 have w4:W4 c16:=fun c hc=>by
  simp only [c16,List.mem_cons,List.not_mem_nil,or_false] at hc
  rcases hc with rfl | rfl | rfl | rfl <;> exact ⟨rfl,Zm _ _ _ _⟩
 have V5:VGw 0 (fun _=>False) h5 ⟨some ⟨h4.size,0,none⟩,4,4⟩ c16 [vSb,vI1,vSa,vTr]:=by
  refine ⟨.inr ⟨h4.size,KJ,(Uj c16).toArray,rfl,Nat.zero_le _,g5,rfl,Nat.le_refl _,rfl,fun j v hj=>by rw [List.getElem?_toArray]; exact hj⟩,w4,rfl,fun j h1 h2=>?_⟩
  have hj:j < 4:=h1
  match j,hj with
  | 0,_=>exact sc ⟨by decide,by decide⟩ ⟨by decide,by decide⟩ (by decide)
  | 1,_=>exact sc ⟨by decide,by decide⟩ ⟨by decide,by decide⟩ (by decide)
  | 2,_=>exact sc ⟨by decide,by decide⟩ ⟨by decide,by decide⟩ (by decide)
  | 3,_=>exact sc ⟨by decide,by decide⟩ ⟨by decide,by decide⟩ (by decide)
 have E5:=E4.trans e5
 refine KX (KB1 (l:=[vSb,vI1,vSa,vTr]) (V5.rep_ (by decide)).to (KH4 (by decide)) (by simp [wt.wts,wt,vSb,vI1,vSa,vTr]) (fun h6 c6 v6 ev hres e6 V6=>?_))
 obtain ⟨rfl,rfl⟩:=KJl hres
 refine Jp (fun h7 e7 s7 g7=>Ju V6.size (stR g7 (by rw [V6.size]; exact Nat.le_refl 4) V6.to.one (fun h8 u8 g8=>?_)))
 rw [ZV (by rw [Array.length_toList,V6.size]; rfl)] at g8
 have e68:Ext h6 h8:=e7.upd u8 (Nat.le_refl _)
 have E8:=(E5.trans e6).trans e68
 have V8:VRep h8 zK c6:=V6.to.ext e68
 have hP:NA KCB=(zK,0,0):=by unfold NA; rw [KIH]; dsimp only; rw [if_pos KJB]
 refine KX (KCZ (s:=KCB) (by decide) (he.ext E8) (fun h9 c9 e9 V9=>?_))
 rw [hP] at V9 ⊢
 refine Jp (fun h10 e10 s10 g10=>Ju V9.size (stR g10 (by rw [V9.size]; exact Nat.le_refl 4) V9.to.one (fun h11 u11 g11=>?_)))
 rw [ZV (by rw [Array.length_toList,V9.size]; rfl)] at g11
 have e911:Ext h9 h11:=e10.upd u11 (Nat.le_refl _)
 have E11:=(E8.trans e9).trans e911
 have g8':=(e9.trans e911).blk g8
 refine zA rfl (ldR g8' V6.size (KX (KDy (V8.ext (e9.trans e911)) (hp.ext E11) (hd.ext E11) (by rw [KHD]; decide) (fun h12 e12=>UP ?_))))
 rw [KHD,show sEq (bs KCB) (⟨#[123,39,97,39,58,32,116,114,117,101,44,32,39,98,39,58,32,49,125]⟩:ByteArray)=true by
  show sEq (bs KCB) (bs KCB)=true
  rw [KE3]
  exact decide_eq_true rfl]
 dsimp only
 refine iteT rfl (KQ ?_)
 refine zA rfl ?_
 refine UP ?_
 refine zA rfl ?_
 have g8'':=e12.blk g8'
 have g11':=e12.blk g11
 refine Jv (ldR g8'' V6.size (Jv (ldR g11' V9.size (Jv (KX (X4 ((V8.ext (e9.trans e911)).ext e12) ((V9.to.ext e911).ext e12) (fun h13 e13=>UP (KQ ?_))))))))
 rw [show decide (cmpV zK zK=0)=true from decide_eq_true (Vr _)]
 exact H _ ((E11.trans e12).trans e13)
end Gx
namespace Gx
open Go Go.Proofs Go.Shelf Go.RowKit Go.Lib
set_option linter.unusedVariables false
set_option linter.unusedSimpArgs false
set_option maxRecDepth 100000
end Gx
namespace Gx
open Go Go.Proofs Go.Shelf Go.RowKit Go.Lib
set_option linter.unusedVariables false
set_option linter.unusedSimpArgs false
set_option maxRecDepth 100000
theorem KHE {β:Type} {S:Nat→Prop} {h:Heap} {Q:β→Heap→Prop} {x:Sl} {l:List Vl} {i:Nat} {t:Int} {f:Addr→M β} (H:VsRepS S h x l) (hi:i < l.length) (ht:t=(i:Int))
  (hq:∀ a c,c.size=4→(∀ m,m < 4→KV h (a.add m)=c[m]?)→JS S h l[i] c→(f a).wp h Q):(ixL x t 4>>=f).wp h Q:=by
 obtain ⟨a,c,ha,_,hs,hcs,hv⟩:=H.get hi
 have:=H.len
 subst ht
 refine GW (by omega) (by omega) ha (hq _ c hs (fun m hm=>?_) hv)
 rw [Addr.add_add,show (i:Int).toNat * 4=i * 4 by omega]
 exact hcs m hm
theorem KAq {S:Nat→Prop} {v:Vl} {x:Array Value} {h:Heap} {Q:Array Value × Int→Heap→Prop} (hxS:JS S h v x) (hS:∀ b,S b→b < h.size) (H:∀ h' c,Ext h h'→JS S h' (if mayV 8 v=true then v else vl0) c→Q (c,WZ v) h'):(Ur x).wp h Q:=by
 have hx:=hxS.to
 unfold Ur
 refine Jp (fun h1 e1 s1 g1=>Jp (fun h2 e2 s2 g2=>?_))
 have E2:=e1.trans e2
 refine ldR (e2.blk g1) hx.size (KX (zp (hx.ext E2) (fun h3 e3=>?_)))
 have g3:=e3.blk g2
 have hs:=E2.size
 have hs1:=e1.size
 unfold WZ at H ⊢
 by_cases hm:mayV 8 v=true
 ·rw [if_pos hm] at H ⊢
  rw [if_pos hm] at H
  refine iteF rfl (ldR (e3.blk (e2.blk g1)) hx.size (Ju hx.size (stR g3 (by rw [hx.size]; exact Nat.le_refl 4) hx.one (fun h4 u4 g4=>?_))))
  rw [ZV (by rw [Array.length_toList,hx.size]; rfl),Array.toArray_toList] at g4
  have E4:Ext h h4:=(E2.trans e3).upd u4 (by omega)
  exact ldR g4 hx.size (KQ (H _ _ E4 (hxS.same (fun b hb=>E4.same b (hS b hb)))))
 ·rw [if_neg hm] at H ⊢
  rw [if_neg hm] at H
  refine iteT rfl (Ju rfl (stR g3 (Nat.le_refl 4) (Zm 0 0 [] Sl.nil) (fun h4 u4 g4=>?_)))
  rw [ZV rfl] at g4
  have E4:Ext h h4:=(E2.trans e3).upd u4 (by omega)
  exact ldR g4 rfl (KQ (H _ _ E4 (Gz _ _)))
theorem KGl {l:List Vl} {n:Nat} {ps:List (List Vl)} (hp:ps.Perm (Vd l n)) (hn:2 * n≤l.length):∀ p ∈ ps,p.length=2:=fun p hm=>by
 have:=hp.mem_iff.1 hm
 unfold Vd at this
 obtain ⟨i,hi,rfl⟩:=List.mem_map.1 this
 exact KIw (by have:=List.mem_range.1 hi; omega)
theorem KFj {l:List Vl} {x:Sl} {h:Heap} {Q:Array Value × Int→Heap→Prop} (hx:VsRep h x l) (hw:wt.wts l≤1000000000) (H:∀ h' c v e,MapRes l v e→Ext h h'→VRep h' v c→Q (c,e) h'):(Vo x).wp h Q:=by
 have hxl:=hx.len
 have hll:=Nv l
 unfold Vo
 refine Jp (fun h1 e1 s1 g1=>?_)
 refine Kx (fun hodd=>?_) (fun heven=>?_)
 ·have hodd:l.length % 2=1:=by
   rw [eqI,decide_eq_true_iff,Int.tmod_eq_emod_of_nonneg (by omega)] at hodd
   omega
  refine Ju rfl (stR g1 (Nat.le_refl 4) (Zm 0 0 [] Sl.nil) (fun h2 u2 g2=>?_))
  rw [ZV rfl] at g2
  exact ldR g2 rfl (KQ (H h2 _ _ _ (.odd hodd) (e1.upd u2 (Nat.le_refl _)) (Gz (fun _=>True) _).to))
 have heven:l.length % 2=0:=by
  rw [eqI,decide_eq_false_iff_not,Int.tmod_eq_emod_of_nonneg (by omega)] at heven
  omega
 have hxS:VsRepS (· < h.size) h1 x l:=hx.lt.same (fun b hb=>e1.same b hb) (fun b hb=>hb)
 refine M.loop_inv (fun (t:Sl × Int) hh=>∃ (n:Nat) (css:List (Array Value)) (ps:List (List Vl)),t.2=((2 * n:Nat):Int)∧2 * n≤l.length∧ps.Perm (Vd l n)∧zF ps∧VGw h1.size (· < h.size) hh t.1 css ps.flatten∧Ext h1 hh) (fun t _=>((l.length:Int) - t.2).toNat) ?_
  ⟨0,[],[],rfl,by omega,by simp [Vd],List.Pairwise.nil,VGw.nil _ _ _,Ext.refl _⟩
 rintro ⟨r,t⟩ hh ⟨n,css,ps,ht,hn,hp,st,G,E⟩ self hself
 dsimp only at ht G
 subst ht
 unfold VY
 dsimp only
 have p2:=KGl hp hn
 have hfl:=KFM p2
 have hpn:ps.length=n:=by have:=hp.length_eq; simpa [Vd] using this
 have hrl:r.len=ps.flatten.length:=by rw [G.gw.len4 G.w4,G.len]
 have hcl:=G.len
 rw [hxl]
 refine Kx (fun hc=>?_) (fun hc=>?_)
 ·have hlt:2 * n+1 < l.length:=by have:=of_decide_eq_true hc; omega
  have hpk:kOf (Vz l n)=l[2 * n]:=by rw [KAh hlt]; rfl
  refine M.loop_inv (fun (t:Int) h2=>∃ j:Nat,t=((2 * j:Nat):Int)∧j≤ps.length∧(∀ q (hq:q < ps.length),q < j→cmpV (kOf ps[q]) (kOf (Vz l n)) < 0)∧Ext hh h2) (fun t _=>(((2 * ps.length:Nat):Int) - t).toNat) ?_
   ⟨0,rfl,Nat.zero_le _,fun q hq h0=>by omega,Ext.refl _⟩
  rintro t h2 ⟨j,rfl,hj,hlow,E2⟩ self2 hself2
  unfold VX
  have hEs:=E.size
  have G_:∀ {h3:Heap},Ext hh h3→VGw h1.size (· < h.size) h3 r css ps.flatten:=fun e=>G.same (fun b hb=>e.same b (G.gw.lt hb).1) (fun b hb=>e.same b (by omega))
  have X_:∀ {h3:Heap},Ext hh h3→VsRepS (· < h.size) h3 x l:=fun e=>hxS.same (fun b hb=>(E.trans e).same b (by omega)) (fun b hb=>hb)
  have X1_:∀ {h3:Heap},Ext h1 h3→VsRepS (· < h.size) h3 x l:=fun e=>hxS.same (fun b hb=>e.same b (by omega)) (fun b hb=>hb)
  have ins:∀ h3,Ext hh h3→(∀ hj:j < ps.length,cmpV (kOf (Vz l n)) (kOf ps[j]) < 0)→(Jx self x ⟨h.size,0,none⟩ r ((2 * n:Nat):Int) ((2 * j:Nat):Int) false).wp h3 Q:=by
   intro h3 E3 hhigh
   have G3:=G_ E3
   have hcap:=G3.gw.cap
   have hE3:=E3.size
   unfold Jx
   refine iteF rfl (KDW (by omega) (by omega) (by omega) ?_)
   have hj2:((2 * j:Nat):Int).toNat=2 * j:=by omega
   rw [hj2]
   have hld:(ps.flatten.drop (2 * j)).length=ps.flatten.length - 2 * j:=List.length_drop
   have hlt2:(ps.flatten.take (2 * j)).length=2 * j:=by rw [List.length_take]; omega
   refine KX (NF (css':=css.drop (2 * j)) (l':=ps.flatten.drop (2 * j)) (VGw.nil h1.size (· < h.size) h3) (by omega) (fun b hb=>⟨by omega,fun ⟨a,ha,_⟩=>by cases ha⟩) (G3.w4.drop _) (by rw [List.length_drop,List.length_drop,hcl]) (by show (r.len:Int).toNat - 2 * j=_; omega) (KDn G3.gw G3.w4 (by omega)) (fun q q1 q2=>?_) (by rw [List.length_nil]; omega) (fun h4 r1 G4 hs4 same4 on4=>?_))
   ·rw [List.getElem_drop,List.getElem_drop]
    exact G3.rep _ _ _
   rw [List.nil_append,List.nil_append] at G4
   have e34:Ext h3 h4:=⟨hs4,fun i hi=>same4 i hi (fun ⟨a,ha,_⟩=>by cases ha)⟩
   have E4:=E3.trans e34
   have G4r:=G_ E4
   refine KG7 (by omega) (by omega) (Int.le_refl _) (by omega) ?_
   rw [hj2,w64 (n:=((2 * n:Nat):Int)+1) (by omega) (by omega)]
   refine KHE (X_ E4) (i:=2 * n) (by omega) rfl (fun a c hs hcs hv=>KHE (X_ E4) (i:=2 * n+1) hlt (by omega) (fun a' c' hs' hcs' hv'=>Wu hs hcs (Wu hs' hcs' ?_)))
   refine KGU hs hs' (KA8 ?_)
   have e5:=Ext.push h4 (.cells (c++c') KJ)
   have g5:(h4.push (.cells (c++c') KJ))[h4.size]?=some (.cells (c++c') KJ (0,0)):=Zj
   generalize h4.push (.cells (c++c') KJ)=h5 at e5 g5 ⊢
   have E5:=E4.trans e5
   have G5:=G_ E5
   have hE5:=E5.size
   have hS5:∀ b,b < h.size→h5[b]?=h4[b]?:=fun b hb=>e5.same b (by have:=E4.size; omega)
   have hone:W4 [c,c']:=fun d hd=>by
    rcases List.mem_cons.1 hd with rfl | hd
    ·exact ⟨hs,hv.to.one⟩
    ·rw [List.mem_singleton.1 hd]; exact ⟨hs',hv'.to.one⟩
   refine KX (KFN (lo:=h1.size) (S:=(· < h.size)) (css:=css.take (2 * j)) (l:=ps.flatten.take (2 * j)) (css':=[c,c']) (l':=[l[2 * n],l[2 * n+1]]) (by omega) (fun b hb=>by omega) (G5.w4.take _) (by rw [List.length_take,List.length_take,hcl]) (by rw [hlt2]; rfl) ?_ (fun q q1 q2=>?_) hone rfl rfl (.inr ⟨_,rfl,fun q v hq=>?_⟩) (fun q q1 q2=>?_) (by rw [hlt2]; simp only [List.length_cons,List.length_nil]; omega) (by show ¬ 2 * j - (0:Int).toNat+2≤2 * j - (0:Int).toNat; omega) (fun h6 r2 e6 G6 on6=>?_))
   ·have h7:=KDm G5.gw G5.w4 (2 * j)
    show Y2 h5 (if 2 * j=(0:Int).toNat then r.base else r.base.map (·.add ((0:Int).toNat * 4))) _
    split
    ·exact h7
    ·rcases h7 with h8 | ⟨a8,ha8,hc8⟩
     ·exact .inl h8
     ·refine .inr ⟨a8,by rw [ha8]; rfl,hc8⟩
   ·rw [List.getElem_take,List.getElem_take]
    exact G5.rep _ _ _
   ·rw [Zn,Nat.zero_add,Ks g5]
    have:Uj [c,c']=(c++c').toList:=by simp [Uj]
    rw [this,Array.getElem?_toList] at hq
    exact hq
   ·match q,q1 with
    | 0,_=>exact hv.same hS5
    | 1,_=>exact hv'.same hS5
   have E6:=E5.trans e6
   have hE6:=E6.size
   have G4':VGw h1.size (· < h.size) h6 r1 (css.drop (2 * j)) (ps.flatten.drop (2 * j)):=G4.same (fun b hb=>(e5.trans e6).same b (G4.gw.lt hb).1) (fun b hb=>(e5.trans e6).same b (by have:=E4.size; omega))
   have hr1l:r1.len=(ps.flatten.drop (2 * j)).length:=by rw [G4'.gw.len4 G4'.w4,G4'.len]
   refine KX (NF (css':=css.drop (2 * j)) (l':=ps.flatten.drop (2 * j)) G6 (by omega) (fun b hb=>⟨by omega,fun ho=>by have:=(G6.gw.lt ho).2; omega⟩) G4'.w4 G4'.len hr1l G4'.gw.reads (fun q q1 q2=>G4'.rep q q1 q2) (by rw [List.length_append,hlt2]; simp only [List.length_cons,List.length_nil]; omega) (fun h7 r3 G7 hs7 same7 on7=>?_))
   have E7:Ext h1 h7:=⟨by have:=E.trans E6; have:=this.size; omega,fun i hi=>(same7 i (by omega) (fun ho=>by have:=(G6.gw.lt ho).2; omega)).trans ((E.trans E6).same i hi)⟩
   rw [w64 (by omega) (by omega)]
   have hsp:=KB4 p2 j
   have hfin:(ps.take j++[Vz l n]++ps.drop j).flatten=ps.flatten.take (2 * j)++[l[2 * n],l[2 * n+1]]++ps.flatten.drop (2 * j):=by
    rw [List.flatten_append,List.flatten_append,hsp.1,hsp.2,KAh hlt]; simp
   refine hself _ _ ⟨n+1,_,ps.take j++[Vz l n]++ps.drop j,by dsimp only; omega,by omega,?_,KDl st hlow hhigh,by rw [hfin]; exact G7,E7⟩ (by dsimp only; omega)
   rw [Nw,List.append_assoc]
   refine (List.Perm.append_left _ List.perm_append_comm).trans ?_
   rw [← List.append_assoc,List.take_append_drop]
   exact List.Perm.append_right _ hp
  rw [hrl,hfl]
  refine Kx (fun hjc=>?_) (fun hjc=>?_)
  ·have hjl:j < ps.length:=by have:=of_decide_eq_true hjc; omega
   have hk:=KGV p2 hjl
   have hjf:2 * j < ps.flatten.length:=by omega
   rw [List.getElem?_eq_getElem hjf] at hk
   have hk:=Option.some.inj hk
   have R_:∀ {h3:Heap},Ext hh h3→VsRep h3 r ps.flatten:=fun e=>((G_ e).rep_ (by omega)).to
   refine Gv (R_ E2) (i:=2 * j) hjf rfl (fun a c hs hcs hv=>Gv (X_ E2).to (i:=2 * n) (by omega) rfl (fun a' c' hs' hcs' hv'=>Wu hs hcs (Wu hs' hcs' (KX (Yv hv hv' (fun h3 e3=>?_))))))
   rw [hk,← hpk]
   have E3:=E2.trans e3
   unfold UR
   by_cases hlt3:cmpV (kOf ps[j]) (kOf (Vz l n)) < 0
   ·refine iteT (decide_eq_true hlt3) ?_
    rw [w64 (by omega) (by omega)]
    refine hself2 _ _ ⟨j+1,by omega,by omega,fun q hq hqj=>?_,E3⟩ (by omega)
    by_cases hqe:q=j
    ·subst hqe; exact hlt3
    ·exact hlow q hq (by omega)
   ·refine iteF (decide_eq_false hlt3) (iteT (by rw [hrl,hfl]; exact decide_eq_true (by omega)) ?_)
    refine Gv (R_ E3) (i:=2 * j) hjf rfl (fun a c hs hcs hv=>Gv (X_ E3).to (i:=2 * n) (by omega) rfl (fun a' c' hs' hcs' hv'=>Wu hs hcs (Wu hs' hcs' (KX (Yv hv hv' (fun h4 e4=>?_))))))
    rw [hk,← hpk,eqI]
    have E4:=E3.trans e4
    by_cases h0:cmpV (kOf ps[j]) (kOf (Vz l n))=0
    ·rw [decide_eq_true h0]
     unfold Jx
     refine iteT rfl (Ju rfl (stR ((E.trans E4).blk g1) (Nat.le_refl 4) (Zm 0 0 [] Sl.nil) (fun h5 u5 g5=>?_)))
     rw [ZV rfl] at g5
     refine ldR g5 rfl (KQ (H h5 _ _ _ (KFL heven (fun hnd=>?_)) ((e1.trans (E.trans E4)).upd u5 (Nat.le_refl _)) (Gz (fun _=>True) _).to))
     have heq:=(q5 _ _).1 h0
     obtain ⟨rs,hrs⟩:=KAi l (l.length / 2) (n+1) (by omega)
     rw [hrs,Nw,List.map_append,List.map_append] at hnd
     have hnd2:=(List.nodup_append.1 (List.nodup_append.1 hnd).1).2.2
     have hmem:kOf ps[j] ∈ (Vd l n).map kOf:=List.mem_map.2 ⟨ps[j],hp.mem_iff.1 (List.getElem_mem hjl),rfl⟩
     exact hnd2 _ hmem _ (by simp) heq
    ·rw [decide_eq_false h0]
     refine ins h4 E4 (fun _=>?_)
     rcases Y0 (kOf (Vz l n)) (kOf ps[j]) with h5 | h5 | h5
     ·exact h5
     ·exact absurd ((q5 _ _).2 h5.symm) h0
     ·exact absurd h5 hlt3
  ·have hjl:j=ps.length:=by have:=of_decide_eq_false hjc; omega
   unfold UR
   refine iteF rfl (iteF (by rw [hrl,hfl]; exact decide_eq_false (by omega)) ?_)
   exact ins h2 E2 (fun h5=>by omega)
 ·have hnl:2 * n=l.length:=by have:=of_decide_eq_false hc; omega
  have hn2:l.length / 2=n:=by omega
  have rr:=G.rep_ (by omega)
  have hEs:=E.size
  have hS:∀ b,(b < h.size∨Sl.on r b)→b < hh.size:=fun b hb=>hb.elim (fun h=>by omega) (fun h=>(G.gw.lt h).1)
  have hS2:∀ b,(b < h.size∨Sl.on r b)→b≠h.size:=fun b hb=>hb.elim (fun h=>by omega) (fun h=>by have:=(G.gw.lt h).2; omega)
  have hv5:JS (fun b=>b < h.size∨Sl.on r b) hh (.mk 5 0 [] ps.flatten) (Z9 5 0 [] r):=JS.eq.2 ⟨r,rfl,⟨by decide,by decide⟩,⟨by decide,by decide⟩,by decide,rr⟩
  refine KX (KAq hv5 hS (fun h2 c e2 V2=>Ju V2.size (stR ((E.trans e2).blk g1) (by rw [V2.size]; exact Nat.le_refl 4) V2.to.one (fun h3 u3 g3=>?_))))
  rw [ZV (by rw [Array.length_toList,V2.size]; rfl)] at g3
  have E2:=E.trans e2
  have res:MapRes l _ _:=.made ps heven (by rw [hn2]; exact hp) (st.imp (fun h=>KAg h)) (fun i hi e=>by
   have:=List.pairwise_iff_getElem.1 st i (i+1) (by omega) hi (by omega)
   rw [e,Vr] at this
   exact absurd this (by decide))
  exact ldR g3 V2.size (KQ (H h3 _ _ _ res ((e1.trans E2).upd u3 (Nat.le_refl _)) (V2.same (fun b hb=>u3.ne b (hS2 b hb))).to))
end Gx
namespace Gx
open Go Go.Proofs Go.Shelf Go.RowKit Go.Lib
set_option linter.unusedVariables false
set_option linter.unusedSimpArgs false
set_option maxRecDepth 100000
theorem z8 {h:Heap} {k n:Int} {s:List UInt8} (hk:I64 k) (hn:I64 n) (hs:s.length≤9223372036854775807):VRep h (.mk k n s []) (Z9 k n s Sl.nil) :=
 (JS.eq.2 ⟨Sl.nil,rfl,hk,hn,hs,rfl,Nat.le_refl _,by decide,by rw [YC]; trivial⟩:JS (fun _=>True) h _ _).to
def mkL (l:List Vl):Vl:=.mk 4 0 [] l
theorem KAr {S:Nat→Prop} {h:Heap} {l:List Vl} {x:Sl} (hx:VsRepS S h x l):JS S h (mkL l) (Z9 4 0 [] x):=JS.eq.2 ⟨x,rfl,⟨by decide,by decide⟩,⟨by decide,by decide⟩,by decide,hx⟩
def orZ (v:Vl):Vl:=if mayV 8 v=true then v else vl0
theorem KCi {l:List Vl} {x:Sl} {h:Heap} {Q:Array Value × Int→Heap→Prop} (hx:VsRep h x l) (hw:wt.wts l≤1000000000) (H:∀ h' c,Ext h h'→VRep h' (orZ (mkL l)) c→Q (c,WZ (mkL l)) h'):(Xy x).wp h Q:=by
 unfold Xy
 refine Jp (fun h1 e1 s1 g1=>?_)
 have hv:VRep h1 (mkL l) (Z9 4 0 [] x):=(KAr (hx.ext e1).lt).to
 refine KX (KAf hv (by show wt (.mk 4 0 [] l)≤_; rw [wt,List.length_nil]; omega) (fun h2 c e2 V2=>Ju V2.size (stR (e2.blk g1) (by rw [V2.size]; exact Nat.le_refl 4) V2.to.one (fun h3 u3 g3=>?_))))
 rw [ZV (by rw [Array.length_toList,V2.size]; rfl)] at g3
 exact ldR g3 V2.size (KQ (H h3 _ ((e1.trans e2).upd u3 (Nat.le_refl _)) (V2.same (fun b hb=>u3.ne b (by omega))).to))
theorem KCj {l:List Vl} {x:Sl} {h:Heap} {Q:Array Value × Int→Heap→Prop} (hx:VsRep h x l) (hw:wt.wts l≤1000000000) (H:∀ h' c,Ext h h'→VRep h' (orZ (mkL l)) c→Q (c,WZ (mkL l)) h'):(VO x).wp h Q:=by
 have hll:=Nv l
 unfold VO
 refine Jp (fun h1 e1 s1 g1=>?_)
 have hx1:VsRepS (· < h.size) h1 x l:=hx.lt.same (fun b hb=>e1.same b hb) (fun b hb=>hb)
 obtain ⟨css,w4,hcl,hrep,hrd⟩:=hx1.css
 refine KX (NF (css':=css) (l':=l) (VGw.nil h1.size (· < h.size) h1) (Nat.le_refl _) (fun b hb=>⟨by omega,fun ⟨a,ha,_⟩=>by cases ha⟩) w4 hcl hx1.len hrd (fun j a b=>hrep j a b) (by rw [List.length_nil]; omega) (fun h2 r G2 hs2 same2 on2=>?_))
 rw [List.nil_append,List.nil_append] at G2
 have e2:Ext h1 h2:=⟨hs2,fun i hi=>same2 i hi (fun ⟨a,ha,_⟩=>by cases ha)⟩
 have hv:=KAr (G2.rep_ (by omega))
 refine KX (KAq hv (fun b hb=>hb.elim (fun h=>by omega) (fun h=>(G2.gw.lt h).1)) (fun h3 c e3 V3=>Ju V3.size (stR ((e2.trans e3).blk g1) (by rw [V3.size]; exact Nat.le_refl 4) V3.to.one (fun h4 u4 g4=>?_))))
 rw [ZV (by rw [Array.length_toList,V3.size]; rfl)] at g4
 exact ldR g4 V3.size (KQ (H h4 _ (((e1.trans e2).trans e3).upd u4 (Nat.le_refl _)) (V3.same (fun b hb=>u4.ne b (hb.elim (fun h=>by omega) (fun h=>by have:=(G2.gw.lt h).2; omega)))).to))
theorem KJm {β:Type} {h h0:Heap} {Q:β→Heap→Prop} {v:Vl} {cs:Array Value} {m1 m2:M (Array Value)} {f:Bool→M β} (e0:Ext h0 h) (hv:∀ h',VRep h' v cs)
  (H1:∀ {γ:Type} {h:Heap} {Q:γ→Heap→Prop} {g:Array Value→M γ},(∀ h',Ext h h'→(g cs).wp h' Q)→(m1>>=g).wp h Q)
  (H2:∀ {γ:Type} {h:Heap} {Q:γ→Heap→Prop} {g:Array Value→M γ},(∀ h',Ext h h'→(g cs).wp h' Q)→(m2>>=g).wp h Q)
  (H:∀ h',Ext h0 h'→(f true).wp h' Q):(m1>>=fun x=>m2>>=fun y=>ZY x y>>=f).wp h Q:=by
 refine H1 (fun h1 e1=>H2 (fun h2 e2=>KX (X4 (hv h2) (hv h2) (fun h3 e3=>?_))))
 rw [show decide (cmpV v v=0)=true from decide_eq_true (Vr _)]
 exact H h3 (((e0.trans e1).trans e2).trans e3)
theorem KGm {β:Type} {h h0:Heap} {Q:β→Heap→Prop} {v:Vl} {cs:Array Value} {m1 m2:M (Array Value)} {f:Bool→M β} (e0:Ext h0 h) (hv:∀ h',VRep h' v cs)
  (H1:∀ {γ:Type} {h:Heap} {Q:γ→Heap→Prop} {g:Array Value→M γ},(∀ h',Ext h h'→(g cs).wp h' Q)→(m1>>=g).wp h Q)
  (H2:∀ {γ:Type} {h:Heap} {Q:γ→Heap→Prop} {g:Array Value→M γ},(∀ h',Ext h h'→(g cs).wp h' Q)→(m2>>=g).wp h Q)
  (H:∀ h',Ext h0 h'→(f true).wp h' Q):((m1>>=fun x=>m2>>=fun y=>ZY x y>>=fun z=>M.pure z)>>=f).wp h Q:=by
 refine Jv (H1 (fun h1 e1=>Jv (H2 (fun h2 e2=>Jv (KX (X4 (hv h2) (hv h2) (fun h3 e3=>UP ?_)))))))
 rw [show decide (cmpV v v=0)=true from decide_eq_true (Vr _)]
 exact H h3 (((e0.trans e1).trans e2).trans e3)
theorem KII {β:Type} {h:Heap} {Q:β→Heap→Prop} {c:Bool} {f:Array Value→M β} (H:∀ h',Ext h h'→(f (Z9 3 (if c=true then 1 else 0) [] Sl.nil)).wp h' Q):(VP c>>=f).wp h Q:=by
 unfold VP
 refine Jv (Jp (fun h1 e1 s1 g1=>?_))
 cases c with
 | true =>
  refine zA rfl (Jv (Ju rfl (Jv (stR (cs:=vz) (vs:=Z9 3 1 [] Sl.nil) g1 (Nat.le_refl 4) (Zm 3 1 [] Sl.nil) (fun h2 u2 g2=>Jv ?_)))))
  rw [ZV (cs:=vz) (vs:=(Z9 3 1 [] Sl.nil).toList) rfl] at g2
  exact ldR g2 rfl (UP (H h2 (e1.upd u2 (Nat.le_refl _))))
 | false =>
  refine KCr rfl (Jv (Ju rfl (Jv (stR (cs:=vz) (vs:=Z9 3 0 [] Sl.nil) g1 (Nat.le_refl 4) (Zm 3 0 [] Sl.nil) (fun h2 u2 g2=>Jv ?_)))))
  rw [ZV (cs:=vz) (vs:=(Z9 3 0 [] Sl.nil).toList) rfl] at g2
  exact ldR g2 rfl (UP (H h2 (e1.upd u2 (Nat.le_refl _))))
theorem KFk {n:Int} {s:List UInt8} {h0 h:Heap} {Q:Bool→Heap→Prop} (hn:I64 n) (hs:s.length≤9223372036854775807) (e0:Ext h0 h) (H:∀ h',Ext h0 h'→Q true h'):(Kz n (bs s) false).wp h Q:=by
 unfold Kz
 have k:∀ z:Int,-10≤z→z≤10→I64 z:=fun z h1 h2=>⟨by omega,by omega⟩
 refine iteF rfl ?_
 refine KJm (v:=.mk 1 n [] []) e0 (fun h'=>z8 (k 1 (by decide) (by decide)) hn (by decide)) (fun H=>KFa H) (fun H=>KB7 (cs:=Z9 1 n [] Sl.nil) rfl (Zm _ _ _ _) H) (fun h1 e1=>zA rfl ?_)
 refine KGm (v:=.mk 2 0 s []) e1 (fun h'=>z8 (k 2 (by decide) (by decide)) (k 0 (by decide) (by decide)) hs) (fun H=>KDO H) (fun H=>KB7 (cs:=Z9 2 0 s Sl.nil) rfl (Zm _ _ _ _) H) (fun h2 e2=>zA rfl ?_)
 refine KGm (v:=.mk 6 n [] []) e2 (fun h'=>z8 (k 6 (by decide) (by decide)) hn (by decide)) (fun H=>KB7 (cs:=Z9 6 n [] Sl.nil) rfl (Zm _ _ _ _) H) (fun H=>KB7 (cs:=Z9 6 n [] Sl.nil) rfl (Zm _ _ _ _) H) (fun h3 e3=>zA rfl ?_)
 refine KGm (v:=.mk 7 n [] []) e3 (fun h'=>z8 (k 7 (by decide) (by decide)) hn (by decide)) (fun H=>KB7 (cs:=Z9 7 n [] Sl.nil) rfl (Zm _ _ _ _) H) (fun H=>KB7 (cs:=Z9 7 n [] Sl.nil) rfl (Zm _ _ _ _) H) (fun h4 e4=>zA rfl ?_)
 refine KGm (v:=.mk 3 (if decide (n > 0)=true then 1 else 0) [] []) e4 (fun h'=>z8 (k 3 (by decide) (by decide)) (by split <;> exact k _ (by decide) (by decide)) (by decide)) (fun H=>KBc H) (fun H=>KII H) (fun h5 e5=>KQ (H h5 e5))
theorem KDz {v:Vl} {l:List Vl} {n:Int} {s:List UInt8} {x:Array Value} {y:Sl} {h:Heap} {Q:Bool→Heap→Prop} (hv:VRep h v x) (hl:VsRep h y l) (hn:I64 n) (hs:s.length≤9223372036854775807) (hw:wt.wts l≤1000000000) (hp:NV h) (hd:zl h) (he:ErrV h)
  (H:∀ h',Ext h h'→Q true h'):(UZ x y n (bs s)).wp h Q:=by
 have hcnt:=Nv l
 unfold UZ
 refine Jp (fun h1 e1 s1 g1=>?_)
 refine KX (KCi (hl.ext e1) hw (fun h2 a e2 V2=>?_))
 refine Jp (fun h3 e3 s3 g3=>Ju V2.size (stR g3 (by rw [V2.size]; exact Nat.le_refl 4) V2.one (fun h4 u4 g4=>?_)))
 rw [ZV (by rw [Array.length_toList,V2.size]; rfl),Array.toArray_toList] at g4
 have e24:Ext h2 h4:=e3.upd u4 (Nat.le_refl _)
 have E4:=(e1.trans e2).trans e24
 refine KX (KCj (hl.ext E4) hw (fun h5 b e5 V5=>?_))
 refine Jp (fun h6 e6 s6 g6=>Ju V5.size (stR g6 (by rw [V5.size]; exact Nat.le_refl 4) V5.one (fun h7 u7 g7=>?_)))
 rw [ZV (by rw [Array.length_toList,V5.size]; rfl),Array.toArray_toList] at g7
 have e57:Ext h5 h7:=e6.upd u7 (Nat.le_refl _)
 have e47:=e5.trans e57
 have E7:=E4.trans e47
 refine KX (KB1 (hl.ext E7) (KI0 (by omega)) hw (fun h8 c m1 r1 M1 e8 V8=>?_))
 refine Jp (fun h9 e9 s9 g9=>Ju V8.size (stR g9 (by rw [V8.size]; exact Nat.le_refl 4) V8.to.one (fun h10 u10 g10=>?_)))
 rw [ZV (by rw [Array.length_toList,V8.size]; rfl),Array.toArray_toList] at g10
 have e810:Ext h8 h10:=e9.upd u10 (Nat.le_refl _)
 have e710:=e8.trans e810
 have E10:=E7.trans e710
 refine KX (KFj (hl.ext E10) hw (fun h11 d m2 r2 M2 e11 V11=>?_))
 refine Jp (fun h12 e12 s12 g12=>Ju V11.size (stR g12 (by rw [V11.size]; exact Nat.le_refl 4) V11.one (fun h13 u13 g13=>?_)))
 rw [ZV (by rw [Array.length_toList,V11.size]; rfl),Array.toArray_toList] at g13
 have e1113:Ext h11 h13:=e12.upd u13 (Nat.le_refl _)
 have e1013:=e11.trans e1113
 have E13:=E10.trans e1013
 obtain ⟨rfl,rfl⟩:=KDk M1 M2
 refine KX (KCC (hp.ext E13) (hd.ext E13) (he.ext E13) (fun h14 e14=>iteF rfl ?_))
 have E14:=E13.trans e14
 have t1:Ext h1 h14:=(((e2.trans e24).trans e47).trans e710).trans (e1013.trans e14)
 have t4:Ext h4 h14:=(e47.trans e710).trans (e1013.trans e14)
 have t7:Ext h7 h14:=e710.trans (e1013.trans e14)
 have t10:Ext h10 h14:=e1013.trans e14
 have kx:∀ {hh:Heap},Ext h1 hh→x.size=4∧∀ i,i < 4→KV hh (Addr.add ⟨h.size,0,none⟩ i)=x[i]?:=fun e=>⟨hv.size,fun j hj=>by rw [ZW (e.blk g1)]⟩
 refine ldR (t1.blk g1) hv.size (ldR (t1.blk g1) hv.size ?_)
 refine KX (Nu (hv.ext E14) (fun h15 e15=>KBk ⟨kx (t1.trans e15),kx (t1.trans e15)⟩ (KX (zp (hv.ext (E14.trans e15)) (fun h16 e16=>?_)))))
 have e1416:=e15.trans e16
 rw [show (WZ v != WZ v)=false from bne_self_eq_false _]
 refine iteF rfl (ldR ((t4.trans e1416).blk g4) V2.size (ldR ((t7.trans e1416).blk g7) V5.size ?_))
 refine KX (X4 (V2.ext (e24.trans (t4.trans e1416))) (V5.ext (e57.trans (t7.trans e1416))) (fun h17 e17=>?_))
 rw [show decide (cmpV (orZ (mkL l)) (orZ (mkL l))=0)=true from decide_eq_true (Vr _)]
 refine iteF rfl ?_
 rw [show (WZ (mkL l) != WZ (mkL l))=false from bne_self_eq_false _]
 have e1417:=e1416.trans e17
 refine iteF rfl (ldR ((t10.trans e1417).blk g10) V8.size (ldR ((e14.trans e1417).blk g13) V11.size ?_))
 refine KX (X4 (V8.to.ext (e810.trans (t10.trans e1417))) (V11.ext (e1113.trans (e14.trans e1417))) (fun h18 e18=>?_))
 rw [show decide (cmpV m1 m1=0)=true from decide_eq_true (Vr _)]
 refine iteF rfl ?_
 rw [show (r1 != r1)=false from bne_self_eq_false _]
 exact KFk hn hs ((E14.trans e1417).trans e18) H
end Gx
namespace Gx
open Go Go.RowKit Go.ChangeShapes Go.WideShapes Go.ChangeAt Go.Joins
set_option linter.unusedVariables false
section
variable {H:Type} {enc:TypeId × Value→H} {P:Program}
theorem KGn {W W':World} (he:Ext W.heap W'.heap) {p:MemPlace} (hp:p.block < W.heap.size):W.sameAt W' p:=by
 cases p with
 | cell b o=>exact World.cell?_of_block (w:=W) (he.same b hp)
 | map b=>exact he.same b hp
theorem zS {t:TypeId} (hl:laidOutB P=true) (hr:P.readableRec t=true) (hrow:t < P.types.size) {W W':World} {v:Value} {d:DataW H} {ps:List MemPlace}
  (h:DataW.Trod enc P W 0 (fun _=>true) true t v d ps) (he:Ext W.heap W'.heap) :
  DataW.Trod enc P W' 0 (fun b=>decide (b < W.heap.size)) true t v d ps:=by
 have hlt:∀ x ∈ ps,x.block < W.heap.size:=by
  obtain ⟨m,hm⟩:=h
  exact DataW.trod_lt m _ _ _ hm
 exact WideElems.Trod_stays hl hr hrow h (fun x hx=>KGn he (hlt x hx)) (fun x hx=>by simpa using hlt x hx)
theorem KFl {W W':World} (he:Ext W.heap W'.heap) (hr:Rest W W') (may:MemPlace→Prop):W.keptBut W' may:=by
 refine ⟨hr.os,hr.output,fun i hi=>?_⟩
 rw [he.same i hi]
 split <;> simp_all
end
end Gx
